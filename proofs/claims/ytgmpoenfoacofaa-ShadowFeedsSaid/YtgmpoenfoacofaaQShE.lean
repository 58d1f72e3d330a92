/- Parts of a proof. -/
import Derived.Test.YtgmpoenfoacofaaQShA
namespace Go.Proofs.Ytgmpoenfoacofaa
open Go.RowKit
set_option linter.unusedVariables false
set_option linter.unusedSimpArgs false
abbrev D0 (z:Sm):D:=(.fn (.func 46) [] [(.iptr [(.str z.name),(.sl 1 (ab .i64) 0 z.words)] 0)])
abbrev D1 (z:Sm):D:=(.fn (.func 37) [] [(.iptr [(.str z.name),(.sl 1 (ab .i64) 0 z.words)] 0)])
set_option maxRecDepth 100000
abbrev Jq (h:Ch) (z:Sm):Ct:=⟨46,[(.agg [(dS h.name),(i6 h.w),(i6 h.cap),(i6 h.frm),(i6 h.dst)]),(.iptr [(.str z.name),(.sl 1 (ab .i64) 0 z.words)] 0)],false,(dB (decide (h.frm=-1)&&(h.name.toList==z.name.toList)))⟩
theorem BR (h:Ch) (z:Sm):CC (Jq h z):=by
 refine ai.vc (V:=TT 2 (CS (h.frm=(-1)) (TT 3 ((True∧(decide (h.frm=(-1)))=true)∧TT 8 ((h.name.toList==z.name.toList)=(decide (h.frm=-1)&&(h.name.toList==z.name.toList))∧True))) (TT 3 ((True∧(decide (h.frm=(-1)))=false)∧TT 8 (false=(decide (h.frm=-1)&&(h.name.toList==z.name.toList))∧True))))) (.s 1 (h.frm=(-1)) (.w 1 [(3,.val (dB true))]<|.e) (.w 1 [(3,.val (dB false))]<|.e)) Try.func46 rfl rfl rfl (by kernel_rfl) ?_
 refine tt ⟨fun MV=>?_,fun MV=>?_⟩
 · refine tt ⟨(vT MV),tt ⟨?_,oK⟩⟩
   first | (rw[KO MV];rfl) | (rw[KS MV];rfl)
 · refine tt ⟨(vF MV),tt ⟨?_,oK⟩⟩
   first | (rw[KO MV];rfl) | (rw[KS MV];rfl)
abbrev Jr (y z:Sm):Ct:=⟨37,[(.agg [(dS y.name),(LI y.words)]),(.iptr [(.str z.name),(.sl 1 (ab .i64) 0 z.words)] 0)],false,(dB (y.name.toList==z.name.toList))⟩
theorem yR (y z:Sm):CC (Jr y z):=by
 refine ai.vc (V:=TT 9 ((y.name.toList==z.name.toList)=(y.name.toList==z.name.toList)∧True)) (.e) Try.func37 rfl rfl rfl (by kernel_rfl) ?_
 exact tt ⟨rfl,oK⟩
abbrev Js (y z:Sm):Ct:=⟨23,[(.agg [(dS y.name),(LI y.words)]),(.agg [(dS z.name),(LI z.words)])],false,(dB ((y.name.toList==z.name.toList)&&decide (y.words.length=z.words.length)))⟩
theorem D2 (y z:Sm):CC (Js y z):=by
 refine ai.vc (V:=TT 3 (CS ((y.name.toList==z.name.toList)=true) (TT 5 ((True∧(y.name.toList==z.name.toList)=true)∧TT 10 (((y.words.length:Int)==(z.words.length:Int))=((y.name.toList==z.name.toList)&&decide (y.words.length=z.words.length))∧True))) (TT 5 ((True∧(y.name.toList==z.name.toList)=false)∧TT 10 (false=((y.name.toList==z.name.toList)&&decide (y.words.length=z.words.length))∧True))))) (.s 1 ((y.name.toList==z.name.toList)=true) (.w 1 [(5,.val (dB true))]<|.e) (.w 1 [(5,.val (dB false))]<|.e)) Try.func23 rfl rfl rfl (by kernel_rfl) ?_
 refine tt ⟨fun MV=>?_,fun MV=>?_⟩
 · refine tt ⟨(bT MV),tt ⟨?_,oK⟩⟩
   first | (rw[show(y.name.toList==z.name.toList)=true from MV,L0];exact decide_eq_decide.2 (by omega)) | (rw[show(y.name.toList==z.name.toList)=false by simpa using MV];rfl)
 · refine tt ⟨(bF MV),tt ⟨?_,oK⟩⟩
   first | (rw[show(y.name.toList==z.name.toList)=true from MV,L0];exact decide_eq_decide.2 (by omega)) | (rw[show(y.name.toList==z.name.toList)=false by simpa using MV];rfl)
abbrev D3 (l:List Ch) (z:Sm):Ct:=⟨55,[(dL 5 dq aN l),(D0 z)],false,(i6 (au l z.name))⟩
abbrev qJ (l:List Ch) (z:Sm):Lp (Nat):=il [0,1,7,8] 0 (fun (i:Nat)=>⟨[(0,(dL 5 dq aN l)),(1,(D0 z)),(7,(i6 (l.length:Int))),(8,(i6 (i:Int)))],[]⟩) (fun (i:Nat)=>i≤l.length∧∀q,q<i→jk l z.name q=false) (fun (i:Nat)=>l.length-i)
theorem Ax (l:List Ch) (z:Sm) (hl:l.length≤9223372036854775807):CC (D3 l z):=by
 refine ai.vc (V:=TT 4 (GO (qJ l z) 0 (∀i,(qJ l z).inv i→TT 1 (CD ((i:Int)<(l.length:Int)) (TT 5 (IX (i:Int) l.length∧TT 1 (CC (Jq (l.getD i aN) z)∧CB (decide ((l.getD i aN).frm=-1)&&((l.getD i aN).name.toList==z.name.toList)) (TT 3 ((i:Int)=(au l z.name)∧True)) (W6 ((i+1:Nat):Int)∧TT 1 (AG (qJ l z) i (i+1)))))) (TT 2 ((-1)=(au l z.name)∧True)))))) (.l (qJ l z) 0 (fun i=>.b 9 (.w 4 [(5,(Jq (l.getD i aN) z).O)]<|.b 16 (.e) (.w 6 [(0,.val (i6 ((i+1:Nat):Int)))]<|.e)) (.e))) Try.func55 rfl rfl rfl (by kernel_rfl) ?_
 refine tt ⟨rfl,⟨by omega,fun q hq=>by omega⟩,?_⟩
 intro i J'
 obtain⟨hi,h3⟩:=J'
 refine tt (cd (fun Sd=>?_) (fun Sd=>?_))
 · refine tt ⟨ix,tt ⟨(BR (l.getD i aN) z),⟨fun Oo=>?_,fun Oo=>?_⟩⟩⟩
   · refine tt ⟨?_,oK⟩
     first | exact(bH (f:=jk l z.name) Oo h3 (by omega)).symm | exact(ca (f:=jk l z.name) (fun q hq=>h3 q (by omega))).symm
   · refine⟨w6,tt ⟨(i+1),rfl,?_,(?_:l.length-(i+1)<l.length-i)⟩⟩
     · exact⟨by omega,bA h3 Oo⟩
     · omega
 · refine tt ⟨?_,oK⟩
   first | exact(bH (f:=jk l z.name) Oo h3 (by omega)).symm | exact(ca (f:=jk l z.name) (fun q hq=>h3 q (by omega))).symm
abbrev G8 (l:List Sm) (z:Sm):Ct:=⟨51,[(dL 2 lj bQ l),(D1 z)],false,(i6 (aX l z.name))⟩
abbrev qK (l:List Sm) (z:Sm):Lp (Nat):=il [0,1,7,8] 0 (fun (i:Nat)=>⟨[(0,(dL 2 lj bQ l)),(1,(D1 z)),(7,(i6 (l.length:Int))),(8,(i6 (i:Int)))],[]⟩) (fun (i:Nat)=>i≤l.length∧∀q,q<i→G7 l z.name q=false) (fun (i:Nat)=>l.length-i)
theorem FI (l:List Sm) (z:Sm) (hl:l.length≤9223372036854775807):CC (G8 l z):=by
 refine ai.vc (V:=TT 4 (GO (qK l z) 0 (∀i,(qK l z).inv i→TT 1 (CD ((i:Int)<(l.length:Int)) (TT 5 (IX (i:Int) l.length∧TT 1 (CC (Jr (l.getD i bQ) z)∧CB ((l.getD i bQ).name.toList==z.name.toList) (TT 3 ((i:Int)=(aX l z.name)∧True)) (W6 ((i+1:Nat):Int)∧TT 1 (AG (qK l z) i (i+1)))))) (TT 2 ((-1)=(aX l z.name)∧True)))))) (.l (qK l z) 0 (fun i=>.b 9 (.w 4 [(5,(Jr (l.getD i bQ) z).O)]<|.b 16 (.e) (.w 6 [(0,.val (i6 ((i+1:Nat):Int)))]<|.e)) (.e))) Try.func51 rfl rfl rfl (by kernel_rfl) ?_
 refine tt ⟨rfl,⟨by omega,fun q hq=>by omega⟩,?_⟩
 intro i J'
 obtain⟨hi,h3⟩:=J'
 refine tt (cd (fun Sd=>?_) (fun Sd=>?_))
 · refine tt ⟨ix,tt ⟨(yR (l.getD i bQ) z),⟨fun Oo=>?_,fun Oo=>?_⟩⟩⟩
   · refine tt ⟨?_,oK⟩
     first | exact(bH (f:=G7 l z.name) Oo h3 (by omega)).symm | exact(ca (f:=G7 l z.name) (fun q hq=>h3 q (by omega))).symm
   · refine⟨w6,tt ⟨(i+1),rfl,?_,(?_:l.length-(i+1)<l.length-i)⟩⟩
     · exact⟨by omega,bA h3 Oo⟩
     · omega
 · refine tt ⟨?_,oK⟩
   first | exact(bH (f:=G7 l z.name) Oo h3 (by omega)).symm | exact(ca (f:=G7 l z.name) (fun q hq=>h3 q (by omega))).symm
abbrev D4 (l:List Ch) (z:Sm):Ct:=⟨45,[(dL 5 dq aN l),(D0 z)],true,(.tup [(.agg [(dS ((dK l (au l z.name)).name)),(i6 ((dK l (au l z.name)).w)),(i6 ((dK l (au l z.name)).cap)),(i6 ((dK l (au l z.name)).frm)),(i6 ((dK l (au l z.name)).dst))]),(i6 (au l z.name))])⟩
theorem Ay (l:List Ch) (z:Sm) (hl:l.length≤9223372036854775807):CC (D4 l z):=by
 refine ai.vc (V:=TT 4 (CC (D3 l z)∧TT 3 (CD ((au l z.name)<0) (TT 7 ((e0=((dK l (au l z.name)).name)∧(0:Int)=((dK l (au l z.name)).w)∧(0:Int)=((dK l (au l z.name)).cap)∧(0:Int)=((dK l (au l z.name)).frm)∧(0:Int)=((dK l (au l z.name)).dst)∧True)∧(au l z.name)=(au l z.name)∧True)) (TT 2 (IX (au l z.name) l.length∧TT 6 ((((l.getD ((au l z.name).toNat) aN).name)=((dK l (au l z.name)).name)∧((l.getD ((au l z.name).toNat) aN).w)=((dK l (au l z.name)).w)∧((l.getD ((au l z.name).toNat) aN).cap)=((dK l (au l z.name)).cap)∧((l.getD ((au l z.name).toNat) aN).frm)=((dK l (au l z.name)).frm)∧((l.getD ((au l z.name).toNat) aN).dst)=((dK l (au l z.name)).dst)∧True)∧(au l z.name)=(au l z.name)∧True)))))) (.w 1 [(2,(D3 l z).O)]<|.b 12 (.e) (.e)) Try.func45 rfl rfl rfl (by kernel_rfl) ?_
 refine tt ⟨(Ax l z om),tt (cd (fun Ni=>?_) (fun Ni=>?_))⟩
 · refine tt ⟨⟨?_,?_,?_,?_,?_,oK⟩,rfl,oK⟩
   all_goals (all_goals (first | rfl | (rw[qF (by omega)];done) | (rw[nP (by omega)])))
 · have M6:au l z.name<l.length:=kZ
   refine tt ⟨ix,tt ⟨⟨?_,?_,?_,?_,?_,oK⟩,rfl,oK⟩⟩
   all_goals (all_goals (first | rfl | (rw[qF (by omega)];done) | (rw[nP (by omega)])))
abbrev D5 (l:List Sm) (z:Sm):Ct:=⟨38,[(dL 2 lj bQ l),(D1 z)],true,(.tup [(.agg [(dS ((gT l (aX l z.name)).name)),(LI ((gT l (aX l z.name)).words))]),(i6 (aX l z.name))])⟩
theorem Az (l:List Sm) (z:Sm) (hl:l.length≤9223372036854775807):CC (D5 l z):=by
 refine ai.vc (V:=TT 4 (CC (G8 l z)∧TT 3 (CD ((aX l z.name)<0) (TT 1 ((True∧(e0=((gT l (aX l z.name)).name)∧((gT l (aX l z.name)).words)=[]∧True))∧TT 5 ((((gT l (aX l z.name)).name)=((gT l (aX l z.name)).name)∧((gT l (aX l z.name)).words).map (ab .i64)=((gT l (aX l z.name)).words).map (ab .i64)∧True)∧(aX l z.name)=(aX l z.name)∧True))) (TT 2 (IX (aX l z.name) l.length∧TT 6 ((((l.getD ((aX l z.name).toNat) bQ).name)=((gT l (aX l z.name)).name)∧((l.getD ((aX l z.name).toNat) bQ).words).map (ab .i64)=((gT l (aX l z.name)).words).map (ab .i64)∧True)∧(aX l z.name)=(aX l z.name)∧True)))))) (.w 1 [(2,(G8 l z).O)]<|.b 12 (.w 4 [(0,.val (.agg [(dS ((gT l (aX l z.name)).name)),(LI ((gT l (aX l z.name)).words))]))]<|.e) (.e)) Try.func38 rfl rfl rfl (by kernel_rfl) ?_
 refine tt ⟨(FI l z om),tt (cd (fun Ni=>?_) (fun Ni=>?_))⟩
 · exact tt ⟨⟨oK,(by rw[Av (by omega)];exact⟨rfl,rfl,oK⟩)⟩,tt ⟨⟨rfl,rfl,oK⟩,rfl,oK⟩⟩
 · have M6:aX l z.name<l.length:=kZ
   refine tt ⟨ix,tt ⟨⟨?_,(congrArg _ (?_:((l.getD ((aX l z.name).toNat) bQ).words)=((gT l (aX l z.name)).words))),oK⟩,rfl,oK⟩⟩
   all_goals (all_goals (first | rfl | (rw[Av (by omega)];done) | (rw[DY (by omega)])))
abbrev Jt (a b:List Int):Ct:=⟨39,[(LI a),(LI b)],false,(i6 (mL a b))⟩
abbrev qL (a:List Int) (b:List Int):Lp (Nat):=il [0,1,10,11] 0 (fun (i:Nat)=>⟨[(0,(LI a)),(1,(LI b)),(10,(i6 (((min a.length b.length):Nat):Int))),(11,(i6 (i:Int)))],[]⟩) (fun (i:Nat)=>i≤min a.length b.length∧∀q,q<i→vJ a b q=false) (fun (i:Nat)=>min a.length b.length-i)
theorem FJ (a b:List Int) (ha:a.length≤9223372036854775807):CC (Jt a b):=by
 refine ai.vc (V:=TT 5 ((True∧(wm (a.length:Int) (b.length:Int))=(((min a.length b.length):Nat):Int))∧TT 1 (GO (qL a b) 0 (∀i,(qL a b).inv i→TT 1 (CD ((i:Int)<(((min a.length b.length):Nat):Int)) (TT 4 (IX (i:Int) a.length∧TT 3 (IX (i:Int) b.length∧TT 2 (CN ((a.getD i 0)=(b.getD i 0)) (TT 3 ((i:Int)=(mL a b)∧True)) (W6 ((i+1:Nat):Int)∧TT 1 (AG (qL a b) i (i+1))))))) (TT 2 ((-1)=(mL a b)∧True))))))) (.w 1 [(4,.val (i6 (((min a.length b.length):Nat):Int)))]<|.l (qL a b) 0 (fun i=>.b 12 (.b 22 (.e) (.w 6 [(0,.val (i6 ((i+1:Nat):Int)))]<|.e)) (.e))) Try.func39 rfl rfl rfl (by kernel_rfl) ?_
 refine tt ⟨⟨oK,(by unfold wm;split<;>omega)⟩,tt ⟨rfl,⟨by omega,fun q hq=>by omega⟩,?_⟩⟩
 intro i J'
 obtain⟨hi,h3⟩:=J'
 refine tt (cd (fun Ni=>?_) (fun Ni=>?_))
 · refine tt ⟨ix,tt ⟨ix,tt (cn (fun Oq=>?_) (fun Oq=>?_))⟩⟩
   · refine tt ⟨?_,oK⟩
     first | exact(bH (f:=vJ a b) (by unfold vJ;rw[KS Oq];rfl) h3 (by omega)).symm | exact(ca (f:=vJ a b) (fun q hq=>h3 q (by omega))).symm
   · refine⟨w6,tt ⟨(i+1),rfl,?_,(?_:min a.length b.length-(i+1)<min a.length b.length-i)⟩⟩
     · exact⟨by omega,bA h3 (by unfold vJ;rw[KO Oq];rfl)⟩
     · omega
 · refine tt ⟨?_,oK⟩
   first | exact(bH (f:=vJ a b) (by unfold vJ;rw[KS Oq];rfl) h3 (by omega)).symm | exact(ca (f:=vJ a b) (fun q hq=>h3 q (by omega))).symm
abbrev Ia (a b:List Sm):Ct:=⟨21,[(dL 2 lj bQ a),(dL 2 lj bQ b)],false,(.tup [(dS ((fZ a b).name)),(i6 ((fZ a b).pos)),(dB ((fZ a b).is))])⟩
abbrev f5 (a:List Sm) (b:List Sm):Lp (Nat):=il [0,1,15,16,17] 0 (fun (i:Nat)=>⟨[(0,(dL 2 lj bQ a)),(1,(dL 2 lj bQ b)),(15,(dL 2 lj bQ a)),(16,(i6 (a.length:Int))),(17,(i6 (i:Int)))],[]⟩) (fun (i:Nat)=>i≤a.length∧∀q,q<i→nQ a b q=false) (fun (i:Nat)=>a.length-i)
theorem uA (a b:List Sm) (ha:a.length≤9223372036854775807) (hb:b.length≤9223372036854775807) (hwa:∀i,(a.getD i bQ).words.length≤9223372036854775807):CC (Ia a b):=by
 refine ai.vc (V:=TT 6 (GO (f5 a b) 0 (∀i,(f5 a b).inv i→TT 1 (CD ((i:Int)<(a.length:Int)) (TT 1 (IX (i:Int) a.length∧TT 8 (CC (D5 b (a.getD i bQ))∧TT 8 (CC (D5 a (a.getD i bQ))∧TT 6 (CS ((aX a (a.getD i bQ).name)=(i:Int)) (TT 3 ((True∧(!decide ((aX a (a.getD i bQ).name)=(i:Int)))=false)∧TT 3 (CD ((aX b (a.getD i bQ).name)<0) (W6 ((i+1:Nat):Int)∧TT 1 (AG (f5 a b) i (i+1))) (TT 4 (CC (Jt ((a.getD i bQ).words) ((gT b (aX b (a.getD i bQ).name)).words))∧TT 3 (CD ((mL ((a.getD i bQ).words) ((gT b (aX b (a.getD i bQ).name)).words))≥0) (TT 9 ((((a.getD i bQ).name)=((fZ a b).name)∧(mL ((a.getD i bQ).words) ((gT b (aX b (a.getD i bQ).name)).words))=((fZ a b).pos)∧false=((fZ a b).is)∧True)∧(True∧True∧True∧True))) (W6 ((i+1:Nat):Int)∧TT 1 (AG (f5 a b) i (i+1))))))))) (TT 3 ((True∧(!decide ((aX a (a.getD i bQ).name)=(i:Int)))=true)∧TT 3 (W6 ((i+1:Nat):Int)∧TT 1 (AG (f5 a b) i (i+1)))))))))) (TT 6 ((e0=((fZ a b).name)∧(0:Int)=((fZ a b).pos)∧true=((fZ a b).is)∧True)∧(True∧True∧True∧True))))))) (.l (f5 a b) 0 (fun i=>.b 18 (.f 4 0<|.w 5 [(2,(D5 b (a.getD i bQ)).O)]<|.w 6 [(2,(D5 a (a.getD i bQ)).O)]<|.s 7 ((aX a (a.getD i bQ).name)=(i:Int)) (.w 7 [(3,.val (dB false))]<|.b 41 (.w 11 [(0,.val (i6 ((i+1:Nat):Int)))]<|.e) (.w 8 [(4,(Jt ((a.getD i bQ).words) ((gT b (aX b (a.getD i bQ).name)).words)).O)]<|.b 48 (.e) (.w 11 [(0,.val (i6 ((i+1:Nat):Int)))]<|.e))) (.w 7 [(3,.val (dB true))]<|.w 11 [(0,.val (i6 ((i+1:Nat):Int)))]<|.e)) (.e))) Try.func21 rfl rfl rfl (by kernel_rfl) ?_
 refine tt ⟨rfl,⟨by omega,fun q hq=>by omega⟩,?_⟩
 intro i J'
 obtain⟨hi,h3⟩:=J'
 refine tt (cd (fun Ot=>?_) (fun Ot=>?_))
 · refine tt ⟨ix,tt ⟨(Az b (a.getD i bQ) hb),tt ⟨(Az a (a.getD i bQ) ha),tt ⟨fun MV=>?_,fun MV=>?_⟩⟩⟩⟩
   · refine tt ⟨(nF MV),tt (cd (fun O6=>?_) (fun O6=>?_))⟩
     · refine⟨w6,tt ⟨(i+1),rfl,?_,(?_:a.length-(i+1)<a.length-i)⟩⟩
       · exact⟨by omega,bA h3 (by first | exact vK (by first | exact MV | exact Nl | assumption) | exact nR (by assumption) | exact qG (by assumption))⟩
       · omega
     · refine tt ⟨(FJ ((a.getD i bQ).words) ((gT b (aX b (a.getD i bQ).name)).words) (hwa i)),tt (cd (fun hc48=>?_) (fun hc48=>?_))⟩
       · refine tt ⟨⟨?_,?_,?_,oK⟩,⟨oK,oK,oK,oK⟩⟩
         all_goals (all_goals (first | (rw[xg (fun q hq=>h3 q (by omega))];done) | (rw[yQ (i:=i) (by omega) (vL (by omega) (by omega) (by omega)) h3];rfl)))
       · refine⟨w6,tt ⟨(i+1),rfl,?_,(?_:a.length-(i+1)<a.length-i)⟩⟩
         · exact⟨by omega,bA h3 (by first | exact vK (by first | exact MV | exact Nl | assumption) | exact nR (by assumption) | exact qG (by assumption))⟩
         · omega
   · refine tt ⟨(nT MV),tt ⟨w6,tt ⟨(i+1),rfl,?_,(?_:a.length-(i+1)<a.length-i)⟩⟩⟩
     · exact⟨by omega,bA h3 (by first | exact vK (by first | exact MV | exact Nl | assumption) | exact nR (by assumption) | exact qG (by assumption))⟩
     · omega
 · refine tt ⟨⟨?_,?_,?_,oK⟩,⟨oK,oK,oK,oK⟩⟩
   all_goals (all_goals (first | (rw[xg (fun q hq=>h3 q (by omega))];done) | (rw[yQ (i:=i) (by omega) (vL (by omega) (by omega) (by omega)) h3];rfl)))
abbrev G9 (a b:List Sm):Ct:=⟨22,[(dL 2 lj bQ a),(dL 2 lj bQ b),(.fn (.func 23) [] [])],false,(dB (nU a b))⟩
abbrev qM (a:List Sm) (b:List Sm):Lp (Nat):=il [1,2,15,16,17] 0 (fun (i:Nat)=>⟨[(1,(dL 2 lj bQ b)),(2,(.fn (.func 23) [] [])),(15,(dL 2 lj bQ a)),(16,(i6 (a.length:Int))),(17,(i6 (i:Int)))],[]⟩) (fun (i:Nat)=>i≤a.length∧∀q,q<i→su a b q=true) (fun (i:Nat)=>a.length-i)
theorem FK (a b:List Sm) (ha:a.length≤9223372036854775807):CC (G9 a b):=by
 refine ai.vc (V:=TT 6 (CN ((a.length:Int)=(b.length:Int)) (TT 2 (false=(nU a b)∧True)) (TT 3 (GO (qM a b) 0 (∀i,(qM a b).inv i→TT 1 (CD ((i:Int)<(a.length:Int)) (TT 1 (IX (i:Int) a.length∧TT 6 (IX (i:Int) b.length∧TT 6 (CC (Js (a.getD i bQ) (b.getD i bQ))∧TT 1 (CB (!(((a.getD i bQ).name.toList==(b.getD i bQ).name.toList)&&decide ((a.getD i bQ).words.length=(b.getD i bQ).words.length))) (TT 2 (false=(nU a b)∧True)) (W6 ((i+1:Nat):Int)∧TT 1 (AG (qM a b) i (i+1)))))))) (TT 2 (true=(nU a b)∧True)))))))) (.b 14 (.e) (.l (qM a b) 0 (fun i=>.b 18 (.w 7 [(3,(Js (a.getD i bQ) (b.getD i bQ)).O)]<|.b 30 (.e) (.w 9 [(0,.val (i6 ((i+1:Nat):Int)))]<|.e)) (.e)))) Try.func22 rfl rfl rfl (by kernel_rfl) ?_
 refine tt (cn (fun Qd=>?_) (fun Qd=>?_))
 · refine tt ⟨?_,oK⟩
   first | exact(vM (by omega)).symm | exact(qH (i:=i) (by omega) (by rw[Bool.not_eq_eq_eq_not,Bool.not_true]at O8;exact O8)).symm | exact(qI (by omega) (fun q hq=>h3 q (by omega))).symm
 · refine tt ⟨rfl,⟨by omega,fun q hq=>by omega⟩,?_⟩
   intro i J'
   obtain⟨hi,h3⟩:=J'
   refine tt (cd (fun Ot=>?_) (fun Ot=>?_))
   · refine tt ⟨ix,tt ⟨ix,tt ⟨(D2 (a.getD i bQ) (b.getD i bQ)),tt ⟨fun O8=>?_,fun O8=>?_⟩⟩⟩⟩
     · refine tt ⟨?_,oK⟩
       first | exact(vM (by omega)).symm | exact(qH (i:=i) (by omega) (by rw[Bool.not_eq_eq_eq_not,Bool.not_true]at O8;exact O8)).symm | exact(qI (by omega) (fun q hq=>h3 q (by omega))).symm
     · refine⟨w6,tt ⟨(i+1),rfl,?_,(?_:a.length-(i+1)<a.length-i)⟩⟩
       · exact⟨by omega,bA h3 (by unfold su;simpa using O8)⟩
       · omega
   · refine tt ⟨?_,oK⟩
     first | exact(vM (by omega)).symm | exact(qH (i:=i) (by omega) (by rw[Bool.not_eq_eq_eq_not,Bool.not_true]at O8;exact O8)).symm | exact(qI (by omega) (fun q hq=>h3 q (by omega))).symm
abbrev Ha (a b:List Sm):Ct:=⟨10,[(dL 2 lj bQ a),(dL 2 lj bQ b)],false,(dB (lO a b))⟩
theorem kr (a b:List Sm) (ha:a.length≤9223372036854775807) (hb:b.length≤9223372036854775807) (hwa:∀i,(a.getD i bQ).words.length≤9223372036854775807):CC (Ha a b):=by
 refine ai.vc (V:=TT 3 (CC (Ia a b)∧TT 7 (CS (((fZ a b).is)=true) (TT 1 ((True∧((fZ a b).is)=true)∧TT 2 (CC (G9 a b)∧TT 3 ((nU a b)=(lO a b)∧True)))) (TT 1 ((True∧((fZ a b).is)=false)∧TT 6 (false=(lO a b)∧True)))))) (.w 1 [(2,(Ia a b).O)]<|.s 2 (((fZ a b).is)=true) (.w 2 [(1,.val (dB true)),(4,(G9 a b).O)]<|.e) (.w 2 [(1,.val (dB false))]<|.e)) Try.func10 rfl rfl rfl (by kernel_rfl) ?_
 refine tt ⟨(uA a b ha hb hwa),tt ⟨fun MV=>?_,fun MV=>?_⟩⟩
 · refine tt ⟨(bT MV),tt ⟨(FK a b ha),tt ⟨?_,oK⟩⟩⟩
   first | (rw[Aw (by simpa using MV)]) | (rw[DZ (by simpa using MV)];rfl)
 · refine tt ⟨(bF MV),tt ⟨?_,oK⟩⟩
   first | (rw[Aw (by simpa using MV)]) | (rw[DZ (by simpa using MV)];rfl)
abbrev l8 (c:Ci):am:=(.var 42 [(dL 6 eK aO c.U),(dL 5 dq aN c.J)])
abbrev nW (d:Ci):am:=(.var 42 [(dL 6 eK aO d.U),(dL 5 dq aN d.J)])
abbrev uB (s:Ns):List D:=[(dL 2 aU aY s.U),(dL 1 ac [] s.J)]
abbrev vN (t:Ns):List D:=[(dL 2 aU aY t.U),(dL 1 ac [] t.J)]
abbrev yS (c d:Ci):am:=(.var 114 [(dL 6 eK aO c.U),(dL 5 dq aN c.J),(dL 6 eK aO d.U),(dL 5 dq aN d.J)])
abbrev D6 (c:Ci) (s:Ns) (z:Sm) (d:Ci) (t:Ns):am:=(.var 115 [(dL 2 aU aY (((aq c s (au c.J z.name) z.words).1).U)),(dL 1 ac [] (((aq c s (au c.J z.name) z.words).1).J)),(dL 2 aU aY (((aq d t (au d.J z.name) z.words).1).U)),(dL 1 ac [] (((aq d t (au d.J z.name) z.words).1).J))])
abbrev l9 (c:Ci) (s:Ns) (z:Sm):List D:=[(dL 2 aU aY (((aq c s (au c.J z.name) z.words).1).U)),(dL 1 ac [] (((aq c s (au c.J z.name) z.words).1).J))]
abbrev sw (d:Ci) (t:Ns) (z:Sm):List D:=[(dL 2 aU aY (((aq d t (au d.J z.name) z.words).1).U)),(dL 1 ac [] (((aq d t (au d.J z.name) z.words).1).J))]
abbrev nX (c d:Ci) (s t:Ns) (z:Sm):List am:=[(l8 c),(nW d),(.var 46 (uB s)),(.var 46 (vN t)),.dead,(.var 46 [.nils,.nils]),(.var 46 [.nils,.nils]),.dead,.dead,.dead,.dead,.dead,.dead,(yS c d),(D6 c s z d t),.dead,(.var 116 [(i6 (au c.J z.name)),(i6 (au d.J z.name))]),(l8 c),(nW d),(l8 c),.dead,.dead,.dead,.dead,.dead,.dead,.dead,.dead,.dead,.dead,.dead,.dead,.dead,(.var 46 (l9 c s z)),.dead,.dead,(nW d),.dead,.dead,.dead,.dead,.dead,.dead,.dead,.dead,.dead,.dead,.dead,.dead,.dead,(.var 46 (sw d t z)),.dead,.dead]
abbrev D7 (c d:Ci) (s t:Ns) (z:Sm):List am:=[(l8 c),(nW d),(.var 46 (uB s)),(.var 46 (vN t)),.dead,(.var 46 (l9 c s z)),(.var 46 [.nils,.nils]),.dead,.dead,.dead,.dead,.dead,.dead,(yS c d),(D6 c s z d t),.dead,(.var 116 [(i6 (au c.J z.name)),(i6 (au d.J z.name))]),(l8 c),(nW d),(l8 c),.dead,.dead,.dead,.dead,.dead,.dead,.dead,.dead,.dead,.dead,.dead,.dead,.dead,(.var 46 (l9 c s z)),.dead,.dead,(nW d),.dead,.dead,.dead,.dead,.dead,.dead,.dead,.dead,.dead,.dead,.dead,.dead,.dead,(.var 46 (sw d t z)),.dead,.dead]
abbrev Gp (c d:Ci) (s t:Ns) (z:Sm):List am:=[(l8 c),(nW d),(.var 46 (uB s)),(.var 46 (vN t)),.dead,(.var 46 (l9 c s z)),(.var 46 (sw d t z)),.dead,.dead,.dead,.dead,.dead,.dead,(yS c d),(D6 c s z d t),.dead,(.var 116 [(i6 (au c.J z.name)),(i6 (au d.J z.name))]),(l8 c),(nW d),(l8 c),.dead,.dead,.dead,.dead,.dead,.dead,.dead,.dead,.dead,.dead,.dead,.dead,.dead,(.var 46 (l9 c s z)),.dead,.dead,(nW d),.dead,.dead,.dead,.dead,.dead,.dead,.dead,.dead,.dead,.dead,.dead,.dead,.dead,(.var 46 (sw d t z)),.dead,.dead]
abbrev cQ:D:=(.ptr 14 0 0 0)
abbrev D8 (c:Ci) (s:Ns) (z:Sm) (d:Ci) (t:Ns):List (Nat×D):=[(10,(.ptr 5 0 0 0)),(11,(.ptr 6 0 0 0)),(14,cQ),(76,cQ),(77,(.agg (l9 c s z))),(78,(.ptr 14 0 0 2)),(79,(.agg (sw d t z)))]
set_option maxRecDepth 100000
abbrev Ib (l:List Int):Ct:=⟨36,[(LI l)],true,(LI l)⟩
theorem yT (l:List Int) (h:l≠[]) (hl:l.length≤137438953472):CC (Ib l):=by
 refine ai.vc (V:=TT 2 (l≠[]∧an [] (([]:List Int).map (ab .i64))∧TT 1 ((([]:List Int).length+(l.map (ab .i64)).length≤137438953472∧([]:List Int).map (ab .i64)++l.map (ab .i64)=l.map (ab .i64))∧TT 2 (l.map (ab .i64)=l.map (ab .i64))))) (.w 3 [(0,.box 3 1 (ab .i64) 0 ([]:List Int)),(2,.box 3 1 (ab .i64) 0 l)]<|.e) Try.func36 rfl rfl rfl (by kernel_rfl) ?_
 exact tt ⟨(by exact h),⟨oK,tt ⟨⟨by simp only[KM,K6];omega,by simp⟩,tt rfl⟩⟩⟩
abbrev Ic:Ct:=⟨36,[.nils],true,(LI ([]:List Int))⟩
theorem yU  : CC Ic:=by
 refine ai.vc (V:=TT 5 (([]:List Int)=[])) (.e) Try.func36 rfl rfl rfl (by kernel_rfl) ?_
 refine tt ?_
 rfl
abbrev Ie:Ct:=⟨36,[(.v .esl)],true,(LI ([]:List Int))⟩
theorem yV  : CC Ie:=by
 refine ai.vc (V:=TT 3 (an [] (([]:List Int).map (ab .i64))∧TT 1 ((([]:List Int).length+(([]:List (List V))).length≤137438953472∧([]:List Int).map (ab .i64)++([]:List (List V))=([]:List Int).map (ab .i64))∧TT 2 (([]:List Int).map (ab .i64)=([]:List Int).map (ab .i64))))) (.w 3 [(0,.box 3 1 (ab .i64) 0 ([]:List Int)),(2,.box 3 1 (ab .i64) 0 ([]:List Int))]<|.e) Try.func36 rfl rfl rfl (by kernel_rfl) ?_
 exact tt ⟨oK,tt ⟨⟨by simp,by simp⟩,tt rfl⟩⟩
abbrev Hb (l:List Int):Ct:=⟨36,[(LI l)],true,(LI l)⟩
theorem BS (l:List Int) (hl:l.length≤137438953472):CC (Hb l) :=
  ai.nilcases (fun h=>yT l h hl) (fun h=>by subst h;exact yU) (fun h=>by subst h;exact yV)
abbrev Ju (c:Ci) (s:Ns):Ct:=⟨20,[(.agg [(dL 6 eK aO c.U),(dL 5 dq aN c.J)]),(.agg (uB s))],true,(dL 2 lj bQ (FE c s))⟩
abbrev fx (c:Ci) (s:Ns):Lp (Nat×List Sm):=zS [3,5,9,10,11] 3 (fun (i:Nat) (o:List Sm)=>⟨[(3,(.ptr 1 0 0 0)),(5,(.own 2)),(9,(dL 5 dq aN c.J)),(10,(i6 (c.J.length:Int))),(11,(i6 (i:Int)))],[(l8 c),(.var 46 (uB s)),(.arr 57 2 lj bQ o)]⟩) (fun (i:Nat) (o:List Sm)=>i≤c.J.length∧o=ss c s i) (fun (i:Nat) (o:List Sm)=>c.J.length-i)
theorem xh (c:Ci) (s:Ns) (hc:bO c) (hs:cA c s) (O4:jJ s 4294967296):CC (Ju c s):=by
 have NC:=hc.nl
 have hcl:=hc.cl
 have Qz:=hs.cl
 refine ai.vc (V:=TT 8 (GO (fx c s) (0,([]:List Sm)) (∀i o,(fx c s).inv (i,o)→TT 1 (CD ((i:Int)<(c.J.length:Int)) (TT 1 (IX (i:Int) c.J.length∧TT 7 (CD (((c.J.getD i aN).dst)=(-1)) (TT 6 (IX (i:Int) s.J.length∧TT 1 (CC (Hb (s.J.getD i []))∧TT 1 (an [[(dS ((c.J.getD i aN).name)),(LI (s.J.getD i []))]] ([(⟨(c.J.getD i aN).name,(s.J.getD i [])⟩:Sm)].map lj)∧(o.length+([(⟨(c.J.getD i aN).name,(s.J.getD i [])⟩:Sm)].map lj).length≤137438953472∧o.map lj++[(⟨(c.J.getD i aN).name,(s.J.getD i [])⟩:Sm)].map lj=(o++[(⟨(c.J.getD i aN).name,(s.J.getD i [])⟩:Sm)]).map lj)∧TT 1 (W6 ((i+1:Nat):Int)∧TT 1 (AG (fx c s) (i,o) (i+1,o++[(⟨(c.J.getD i aN).name,(s.J.getD i [])⟩:Sm)]))))))) (W6 ((i+1:Nat):Int)∧TT 1 (AG (fx c s) (i,o) (i+1,o)))))) (TT 3 (o.map lj=(FE c s).map lj)))))) (.gs 2 5 57 2 lj bQ<|.l (fx c s) (0,([]:List Sm)) (fun ⟨i,o⟩=>.b 12 (.b 18 (.w 6 [(8,(Hb (s.J.getD i [])).O),(10,.box 57 2 lj bQ [(⟨(c.J.getD i aN).name,(s.J.getD i [])⟩:Sm)]),(11,.box 57 2 lj bQ (o++[(⟨(c.J.getD i aN).name,(s.J.getD i [])⟩:Sm)]))]<|.w 7 [(0,.val (i6 ((i+1:Nat):Int)))]<|.e) (.w 7 [(0,.val (i6 ((i+1:Nat):Int)))]<|.e)) (.e))) Try.func20 rfl rfl rfl (by kernel_rfl) ?_
 refine tt ⟨rfl,⟨by omega,rfl⟩,?_⟩
 intro i o J'
 obtain⟨hi,ho⟩:=J'
 refine tt (cd (fun Ni=>?_) (fun Ni=>?_))
 · refine tt ⟨ix,tt (cd (fun Ot=>?_) (fun Ot=>?_))⟩
   · have hwl:(s.J.getD i []).length≤4294967296:=O4 i
     refine tt ⟨ix,tt ⟨(BS (s.J.getD i []) (by omega)),tt ⟨⟨⟨rfl,rfl,oK⟩,oK⟩,⟨⟨by simp only[KM,K1,K6];have:=xf (c:=c) (s:=s) i;rw[ho];omega,by simp only[K8,Lk,K9]⟩,tt ⟨w6,tt ⟨(i+1,o++[(⟨(c.J.getD i aN).name,(s.J.getD i [])⟩:Sm)]),rfl,?_,(?_:c.J.length-(i+1)<c.J.length-i)⟩⟩⟩⟩⟩⟩
     · exact⟨by omega,by rw[ho];first | exact(Au Ot).symm | exact(DX Ot).symm⟩
     · omega
   · refine⟨w6,tt ⟨(i+1,o),rfl,?_,(?_:c.J.length-(i+1)<c.J.length-i)⟩⟩
     · exact⟨by omega,by rw[ho];first | exact(Au Ot).symm | exact(DX Ot).symm⟩
     · omega
 · refine tt (congrArg _ (?_:o=(FE c s)))
   rw[ho,show i=c.J.length by omega];rfl
abbrev Jv (c d:Ci) (s t:Ns) (z:Sm):Ct:=⟨26,[(.agg [(dL 6 eK aO c.U),(dL 5 dq aN c.J)]),(.agg [(dL 6 eK aO d.U),(dL 5 dq aN d.J)]),(.agg (uB s)),(.agg (vN t)),(.agg [(dS z.name),(LI z.words)])],true,(.tup [(.agg [(dL 2 aU aY (((ae c d s t z.name z.words).1).U)),(dL 1 ac [] (((ae c d s t z.name z.words).1).J))]),(.agg [(dL 2 aU aY (((ae c d s t z.name z.words).2.1).U)),(dL 1 ac [] (((ae c d s t z.name z.words).2.1).J))]),(i6 ((ae c d s t z.name z.words).2.2))])⟩
def mM (c:Ci) (d:Ci) (s:Ns) (t:Ns) (z:Sm):St:=⟨[(10,(.ptr 5 0 0 0)),(11,(.ptr 6 0 0 0)),(14,cQ)],(nX c d s t z)⟩
def sx (c:Ci) (d:Ci) (s:Ns) (t:Ns) (z:Sm):St:=⟨[(10,(.ptr 5 0 0 0)),(11,(.ptr 6 0 0 0)),(14,cQ),(76,cQ)],(nX c d s t z)⟩
def sy (c:Ci) (d:Ci) (s:Ns) (t:Ns) (z:Sm):St:=⟨[(10,(.ptr 5 0 0 0)),(11,(.ptr 6 0 0 0)),(14,cQ),(78,(.ptr 14 0 0 2))],(nX c d s t z)⟩
def sA (c:Ci) (d:Ci) (s:Ns) (t:Ns) (z:Sm):St:=⟨[(10,(.ptr 5 0 0 0)),(11,(.ptr 6 0 0 0)),(14,cQ),(76,cQ),(77,(.agg (l9 c s z)))],(nX c d s t z)⟩
def mN (c:Ci) (d:Ci) (s:Ns) (t:Ns) (z:Sm):St:=⟨[(10,(.ptr 5 0 0 0)),(11,(.ptr 6 0 0 0)),(14,cQ),(76,cQ),(78,(.ptr 14 0 0 2))],(nX c d s t z)⟩
def sB (c:Ci) (d:Ci) (s:Ns) (t:Ns) (z:Sm):St:=⟨[(10,(.ptr 5 0 0 0)),(11,(.ptr 6 0 0 0)),(14,cQ),(78,(.ptr 14 0 0 2)),(79,(.agg (sw d t z)))],(nX c d s t z)⟩
def mO (c:Ci) (d:Ci) (s:Ns) (t:Ns) (z:Sm):St:=⟨[(10,(.ptr 5 0 0 0)),(11,(.ptr 6 0 0 0)),(14,cQ),(76,cQ),(77,(.agg (l9 c s z))),(78,(.ptr 14 0 0 2))],(nX c d s t z)⟩
def sC (c:Ci) (d:Ci) (s:Ns) (t:Ns) (z:Sm):St:=⟨[(10,(.ptr 5 0 0 0)),(11,(.ptr 6 0 0 0)),(14,cQ),(76,cQ),(77,(.agg (l9 c s z)))],(D7 c d s t z)⟩
def mP (c:Ci) (d:Ci) (s:Ns) (t:Ns) (z:Sm):St:=⟨[(10,(.ptr 5 0 0 0)),(11,(.ptr 6 0 0 0)),(14,cQ),(76,cQ),(78,(.ptr 14 0 0 2)),(79,(.agg (sw d t z)))],(nX c d s t z)⟩
def mQ (c:Ci) (d:Ci) (s:Ns) (t:Ns) (z:Sm):St:=⟨(D8 c s z d t),(nX c d s t z)⟩
def kt (c:Ci) (d:Ci) (s:Ns) (t:Ns) (z:Sm):St:=⟨[(10,(.ptr 5 0 0 0)),(11,(.ptr 6 0 0 0)),(14,cQ),(76,cQ),(77,(.agg (l9 c s z))),(78,(.ptr 14 0 0 2))],(D7 c d s t z)⟩
def ku (c:Ci) (d:Ci) (s:Ns) (t:Ns) (z:Sm):St:=⟨(D8 c s z d t),(D7 c d s t z)⟩
def pK (c:Ci) (d:Ci) (s:Ns) (t:Ns) (z:Sm):St:=⟨(D8 c s z d t),(Gp c d s t z)⟩
def pL (c:Ci) (d:Ci) (s:Ns) (t:Ns) (z:Sm):St:=⟨[(10,(.ptr 5 0 0 0)),(11,(.ptr 6 0 0 0)),(12,(i6 0))],(Gp c d s t z)⟩
theorem D9 (c d:Ci) (s t:Ns) (z:Sm) (hc:bO c) (hd:bO d) (hs:cA c s) (ht:cA d t) (O4:jJ s 4294967296) (htm:jJ t 4294967296) (hw:z.words.length≤4294967296):CC (Jv c d s t z):=by
 have NC:=hc.nl
 have hcl:=hc.cl
 have Qz:=hs.cl
 have hdl:=hd.cl
 have hl3:=ht.cl
 refine ai.vc (V:=TT 23 (((0≤(0:Int)∧0<(2:Int))∧True)∧TT 7 (CC (D4 c.J z)∧TT 3 (((0≤(0:Int)∧0<(2:Int))∧True)∧TT 2 (((0≤(0:Int)∧0<(2:Int))∧True)∧TT 2 (CD ((au c.J z.name)<0) (TT 8 (((((ae c d s t z.name z.words).1).U)=[]∧(((ae c d s t z.name z.words).1).J)=[]∧True)∧((((ae c d s t z.name z.words).2.1).U)=[]∧(((ae c d s t z.name z.words).2.1).J)=[]∧True)∧(4:Int)=((ae c d s t z.name z.words).2.2)∧True)) (TT 4 (((0≤(1:Int)∧1<(2:Int))∧True)∧TT 7 (CC (D4 d.J z)∧TT 3 (((0≤(1:Int)∧1<(2:Int))∧True)∧TT 2 (((0≤(1:Int)∧1<(2:Int))∧True)∧TT 2 (CD ((au d.J z.name)<0) (TT 8 (((((ae c d s t z.name z.words).1).U)=[]∧(((ae c d s t z.name z.words).1).J)=[]∧True)∧((((ae c d s t z.name z.words).2.1).U)=[]∧(((ae c d s t z.name z.words).2.1).J)=[]∧True)∧(4:Int)=((ae c d s t z.name z.words).2.2)∧True)) (TT 7 (((0≤(0:Int)∧0<(2:Int))∧True)∧TT 5 (((0≤(0:Int)∧0<(2:Int))∧True)∧TT 2 (((0≤(0:Int)∧0<(2:Int))∧True)∧TT 3 (CC (H8 c s (au c.J z.name) z.words)∧TT 8 (CN (((aq c s (au c.J z.name) z.words).2)=0) (TT 9 (((((ae c d s t z.name z.words).1).U)=[]∧(((ae c d s t z.name z.words).1).J)=[]∧True)∧((((ae c d s t z.name z.words).2.1).U)=[]∧(((ae c d s t z.name z.words).2.1).J)=[]∧True)∧((aq c s (au c.J z.name) z.words).2)=((ae c d s t z.name z.words).2.2)∧True)) (TT 2 (((0≤(0:Int)∧0<(2:Int))∧True)∧TT 5 (((0≤(1:Int)∧1<(2:Int))∧True)∧TT 5 (((0≤(1:Int)∧1<(2:Int))∧True)∧TT 2 (((0≤(1:Int)∧1<(2:Int))∧True)∧TT 3 (CC (H8 d t (au d.J z.name) z.words)∧TT 8 (CN (((aq d t (au d.J z.name) z.words).2)=0) (TT 9 (((((ae c d s t z.name z.words).1).U)=[]∧(((ae c d s t z.name z.words).1).J)=[]∧True)∧((((ae c d s t z.name z.words).2.1).U)=[]∧(((ae c d s t z.name z.words).2.1).J)=[]∧True)∧((aq d t (au d.J z.name) z.words).2)=((ae c d s t z.name z.words).2.2)∧True)) (TT 2 (((0≤(1:Int)∧1<(2:Int))∧True)∧TT 4 ((mM c d s t z)=(mM c d s t z)∧(((sE (sx c d s t z) ((0≤(0:Int)∧0<(2:Int))∧True))∧(sE (sy c d s t z) ((0≤(1:Int)∧1<(2:Int))∧True))∧True)∧((sE (sA c d s t z) (True))∧(sE (mN c d s t z) ((0≤(1:Int)∧1<(2:Int))∧True))∧True)∧((sE (mN c d s t z) ((0≤(0:Int)∧0<(2:Int))∧True))∧(sE (sB c d s t z) (True))∧True)∧((sE (mO c d s t z) ((0≤(1:Int)∧1<(2:Int))∧True))∧(sE (sC c d s t z) (True))∧True)∧((sE (mO c d s t z) (True))∧(sE (mP c d s t z) (True))∧True)∧((sE (mP c d s t z) ((0≤(0:Int)∧0<(2:Int))∧True))∧True)∧((sE (mQ c d s t z) (True))∧(sE (kt c d s t z) (True))∧True)∧((sE (kt c d s t z) ((0≤(1:Int)∧1<(2:Int))∧True))∧True)∧((sE (mQ c d s t z) (True))∧True)∧((sE (ku c d s t z) (True))∧True)∧((sE (ku c d s t z) (True))∧True)∧((sE (pK c d s t z) (True))∧True)∧((sE (pL c d s t z) (True))∧True)∧True∧True)∧TT 3 (((((aq c s (au c.J z.name) z.words).1).U).map aU=(((ae c d s t z.name z.words).1).U).map aU∧(((aq c s (au c.J z.name) z.words).1).J).map ac=(((ae c d s t z.name z.words).1).J).map ac∧True)∧((((aq d t (au d.J z.name) z.words).1).U).map aU=(((ae c d s t z.name z.words).2.1).U).map aU∧(((aq d t (au d.J z.name) z.words).1).J).map ac=(((ae c d s t z.name z.words).2.1).J).map ac∧True)∧(0:Int)=((ae c d s t z.name z.words).2.2)∧True))))))))))))))))))))))))))))) (.f 1 4<|.w 1 [(8,.val .junk)]<|.r 3 (.w 6 [(4,(D4 c.J z).O)]<|.b 45 (.e) (.w 6 [(4,(D4 d.J z).O)]<|.b 45 (.e) (.r 3 (.w 13 [(9,(H8 c s (au c.J z.name) z.words).O),(14,.val .junk)]<|.b 68 (.e) (.w 13 [(9,(H8 d t (au d.J z.name) z.words).O),(14,.val .junk)]<|.b 68 (.e) (.y 18 [] [((bm 7 0),(mM c d s t z)),((bm 7 1),(sx c d s t z)),((bm 7 4),(sy c d s t z)),((bm 7 3),(sA c d s t z)),((bm 7 5),(mN c d s t z)),((bm 7 12),(sB c d s t z)),((bm 7 7),(mO c d s t z)),((bm 7 19),(sC c d s t z)),((bm 7 13),(mP c d s t z)),((bm 7 15),(mQ c d s t z)),((bm 7 23),(kt c d s t z)),((bm 7 31),(ku c d s t z)),((bm 7 63),(pK c d s t z)),((bm 7 127),(pL c d s t z))]<|.e))))))) Try.func26 rfl rfl rfl (by kernel_rfl) ?_
 refine tt ⟨⟨by omega,oK⟩,tt ⟨(Ay c.J z (by omega)),tt ⟨⟨by omega,oK⟩,tt ⟨⟨by omega,oK⟩,tt (cd (fun Qg=>?_) (fun Qg=>?_))⟩⟩⟩⟩
 · refine tt ⟨⟨?_,?_,oK⟩,⟨?_,?_,oK⟩,?_,oK⟩
   all_goals (all_goals (first | rfl | (rw[bZ (by omega)];done) | (rw[cb (by omega) (by omega) (by omega)];done) | (rw[aZ (by omega) (by omega)];done) | (rw[aZ (by omega) (by omega)];exact im.resolve_left (by omega))))
 · refine tt ⟨⟨by omega,oK⟩,tt ⟨(Ay d.J z (by omega)),tt ⟨⟨by omega,oK⟩,tt ⟨⟨by omega,oK⟩,tt (cd (fun Qg=>?_) (fun Qg=>?_))⟩⟩⟩⟩
   · refine tt ⟨⟨?_,?_,oK⟩,⟨?_,?_,oK⟩,?_,oK⟩
     all_goals (all_goals (first | rfl | (rw[bZ (by omega)];done) | (rw[cb (by omega) (by omega) (by omega)];done) | (rw[aZ (by omega) (by omega)];done) | (rw[aZ (by omega) (by omega)];exact im.resolve_left (by omega))))
   · refine tt ⟨⟨by omega,oK⟩,tt ⟨⟨by omega,oK⟩,tt ⟨⟨by omega,oK⟩,tt ⟨(xe c s (au c.J z.name) z.words hc hs O4 hw),tt (cn (fun Qh=>?_) (fun Qh=>?_))⟩⟩⟩⟩
     · refine tt ⟨⟨?_,?_,oK⟩,⟨?_,?_,oK⟩,?_,oK⟩
       all_goals (all_goals (first | rfl | (rw[bZ (by omega)];done) | (rw[cb (by omega) (by omega) (by omega)];done) | (rw[aZ (by omega) (by omega)];done) | (rw[aZ (by omega) (by omega)];exact im.resolve_left (by omega))))
     · refine tt ⟨⟨by omega,oK⟩,tt ⟨⟨by omega,oK⟩,tt ⟨⟨by omega,oK⟩,tt ⟨⟨by omega,oK⟩,tt ⟨(xe d t (au d.J z.name) z.words hd ht htm hw),tt (cn (fun Qh=>?_) (fun Qh=>?_))⟩⟩⟩⟩⟩
       · refine tt ⟨⟨?_,?_,oK⟩,⟨?_,?_,oK⟩,?_,oK⟩
         all_goals (all_goals (first | rfl | (rw[bZ (by omega)];done) | (rw[cb (by omega) (by omega) (by omega)];done) | (rw[aZ (by omega) (by omega)];done) | (rw[aZ (by omega) (by omega)];exact im.resolve_left (by omega))))
       · refine tt ⟨⟨by omega,oK⟩,tt ⟨rfl,⟨⟨⟨⟨rfl,⟨by omega,oK⟩,oK⟩,⟨rfl,⟨by omega,oK⟩,oK⟩,oK⟩,⟨⟨rfl,oK,oK⟩,⟨rfl,⟨by omega,oK⟩,oK⟩,oK⟩,⟨⟨rfl,⟨by omega,oK⟩,oK⟩,⟨rfl,oK,oK⟩,oK⟩,⟨⟨rfl,⟨by omega,oK⟩,oK⟩,⟨rfl,oK,oK⟩,oK⟩,⟨⟨rfl,oK,oK⟩,⟨rfl,oK,oK⟩,oK⟩,⟨⟨rfl,⟨by omega,oK⟩,oK⟩,oK⟩,⟨⟨rfl,oK,oK⟩,⟨rfl,oK,oK⟩,oK⟩,⟨⟨rfl,⟨by omega,oK⟩,oK⟩,oK⟩,⟨⟨rfl,oK,oK⟩,oK⟩,⟨⟨rfl,oK,oK⟩,oK⟩,⟨⟨rfl,oK,oK⟩,oK⟩,⟨⟨rfl,oK,oK⟩,oK⟩,⟨⟨rfl,oK,oK⟩,oK⟩,oK,oK⟩,tt ⟨⟨(congrArg _ (?_:(((aq c s (au c.J z.name) z.words).1).U)=(((ae c d s t z.name z.words).1).U))),(congrArg _ (?_:(((aq c s (au c.J z.name) z.words).1).J)=(((ae c d s t z.name z.words).1).J))),oK⟩,⟨(congrArg _ (?_:(((aq d t (au d.J z.name) z.words).1).U)=(((ae c d s t z.name z.words).2.1).U))),(congrArg _ (?_:(((aq d t (au d.J z.name) z.words).1).J)=(((ae c d s t z.name z.words).2.1).J))),oK⟩,?_,oK⟩⟩⟩⟩
         all_goals (all_goals (first | rfl | (rw[bZ (by omega)];done) | (rw[cb (by omega) (by omega) (by omega)];done) | (rw[aZ (by omega) (by omega)];done) | (rw[aZ (by omega) (by omega)];exact im.resolve_left (by omega))))
abbrev IB (c:Ci) (nm:ByteArray):Ct:=⟨12,[(.agg [(dL 6 eK aO c.U),(dL 5 dq aN c.J)]),(dS nm)],false,(i6 (au c.J nm))⟩
abbrev iT (c:Ci) (nm:ByteArray):Lp (Nat):=il [1,2,5] 1 (fun (i:Nat)=>⟨[(1,(dS nm)),(2,(.ptr 0 0 0 0)),(5,(i6 (i:Int)))],[(.var 42 [(dL 6 eK aO c.U),(dL 5 dq aN c.J)])]⟩) (fun (i:Nat)=>i≤c.J.length∧∀q,q<i→jk c.J nm q=false) (fun (i:Nat)=>c.J.length-i)
theorem uK (c:Ci) (nm:ByteArray) (hl:c.J.length≤100):CC (IB c nm):=by
 refine ai.vc (V:=TT 3 (GO (iT c nm) 0 (∀i,(iT c nm).inv i→TT 5 (CD ((i:Int)<(c.J.length:Int)) (CS (((c.J.getD i aN).frm)=(-1)) (TT 3 (IX (i:Int) c.J.length∧TT 3 ((True∧(decide (((c.J.getD i aN).frm)=(-1)))=true)∧TT 3 (IX (i:Int) c.J.length∧TT 5 (CB (((c.J.getD i aN).name).toList==nm.toList) (TT 3 ((i:Int)=(au c.J nm)∧True)) (TT 1 (W6 ((i+1:Nat):Int)∧TT 1 (AG (iT c nm) i (i+1))))))))) (TT 3 (IX (i:Int) c.J.length∧TT 3 ((True∧(decide (((c.J.getD i aN).frm)=(-1)))=false)∧TT 10 (W6 ((i+1:Nat):Int)∧TT 1 (AG (iT c nm) i (i+1))))))) (TT 2 ((-1)=(au c.J nm)∧True)))))) (.l (iT c nm) 0 (fun i=>.b 10 (.s 4 (((c.J.getD i aN).frm)=(-1)) (.w 4 [(7,.val (dB true))]<|.b 29 (.e) (.w 3 [(1,.val (i6 ((i+1:Nat):Int)))]<|.e)) (.w 4 [(7,.val (dB false))]<|.w 3 [(1,.val (i6 ((i+1:Nat):Int)))]<|.e)) (.e))) Try.func12 rfl rfl rfl (by kernel_rfl) ?_
 refine tt ⟨rfl,⟨by omega,fun q hq=>by omega⟩,?_⟩
 intro i J'
 obtain⟨hi,h3⟩:=J'
 refine tt (cd (fun hc10=>?_) (fun hc10=>?_))
 · refine⟨fun MV=>?_,fun MV=>?_⟩
   · refine tt ⟨ix,tt ⟨(vT MV),tt ⟨ix,tt ⟨fun Qf=>?_,fun Qf=>?_⟩⟩⟩⟩
     · refine tt ⟨?_,oK⟩
       first | exact(bH (f:=jk c.J nm) (by unfold jk;rw[KO MV,L0];exact Qf) h3 (by omega)).symm | exact(ca (f:=jk c.J nm) (fun q hq=>h3 q (by omega))).symm
     · refine tt ⟨w6,tt ⟨(i+1),rfl,?_,(?_:c.J.length-(i+1)<c.J.length-i)⟩⟩
       · exact⟨by omega,bA h3 (by unfold jk;first | (rw[show((c.J.getD i aN).name.toList==nm.toList)=false by simpa using Qf,Lw]) | (rw[KS (by assumption)];rfl))⟩
       · omega
   · refine tt ⟨ix,tt ⟨(vF MV),tt ⟨w6,tt ⟨(i+1),rfl,?_,(?_:c.J.length-(i+1)<c.J.length-i)⟩⟩⟩⟩
     · exact⟨by omega,bA h3 (by unfold jk;first | (rw[show((c.J.getD i aN).name.toList==nm.toList)=false by simpa using Qf,Lw]) | (rw[KS (by assumption)];rfl))⟩
     · omega
 · refine tt ⟨?_,oK⟩
   first | exact(bH (f:=jk c.J nm) (by unfold jk;rw[KO MV,L0];exact Qf) h3 (by omega)).symm | exact(ca (f:=jk c.J nm) (fun q hq=>h3 q (by omega))).symm
theorem og {n m:ByteArray} {b:List Int}:aX [⟨m,b⟩] n=if (m.toList==n.toList)=true then 0 else -1:=by
 unfold aX G7
 show bX (fun i=>([(⟨m,b⟩:Sm)].getD i bQ).name.toList==n.toList) 1=_
 rw[bX,bX]
 show(if dk (fun i=>!([(⟨m,b⟩:Sm)].getD i bQ).name.toList==n.toList) 0=true then (if (m.toList==n.toList)=true then ((0:Nat):Int)else -1)else -1)=_
 rw[KT (show dk (fun i=>!([(⟨m,b⟩:Sm)].getD i bQ).name.toList==n.toList) 0=true from rfl)];rfl
theorem sS {n m:ByteArray} {a b:List Int}:fZ [⟨n,a⟩] [⟨m,b⟩]=if (m.toList==n.toList)=true∧0≤mL a b then ⟨n,mL a b,false⟩else ⟨e0,0,true⟩:=by
 by_cases h:(m.toList==n.toList)=true
 ·by_cases h2:0≤mL a b
  ·rw[KT ⟨h,h2⟩]
   have hf:aX [⟨m,b⟩] n=0:=by rw[og,KT h]
   have hs:gT [(⟨m,b⟩:Sm)] 0=⟨m,b⟩:=rfl
   have hc:nQ [⟨n,a⟩] [⟨m,b⟩] 0=true:=vL (by show aX [⟨n,a⟩] n=_;rw[og,KT (MH _)];rfl) (by show ¬aX [⟨m,b⟩] n<0;rw[hf];omega) (by show 0≤mL a (jl [⟨m,b⟩] (aX [⟨m,b⟩] n));rw[hf];exact h2)
   rw[yQ (i:=0) (by simp) hc (fun z hz=>by omega)]
   show(⟨n,mL a (jl [⟨m,b⟩] (aX [⟨m,b⟩] n)),false⟩:Vd)=_
   rw[hf];rfl
  ·rw[KK (fun q=>h2 q.2)]
   refine xg (fun z hz=>?_)
   have:z=0:=by simp at hz;exact hz
   subst this
   refine qG ?_
   show ¬0≤mL a (jl [⟨m,b⟩] (aX [⟨m,b⟩] n))
   rw[og,KT h];exact h2
 ·rw[KK (fun q=>h q.1)]
  refine xg (fun z hz=>?_)
  have:z=0:=by simp at hz;exact hz
  subst this
  exact nR (by show aX [⟨m,b⟩] n<0;rw[og,KK h];omega)
theorem Hm {a:List Sm}:fZ a []=⟨e0,0,true⟩:=xg (fun z hz=>nR (by show(-1:Int)<0;omega))
abbrev za:ByteArray:=bs [111,117,116]
abbrev JS:ByteArray:=bs [111,116,104,101,114]
abbrev xE:List Sm:=[⟨za,[1,2]⟩]
abbrev IJ:List Sm:=[⟨za,[1]⟩]
abbrev Hu:List Sm:=[⟨za,[1,3,4]⟩]
abbrev Km:List Sm:=[⟨JS,[5]⟩]
theorem Kn:(fZ xE IJ).is=true:=by rw[sS,KK (fun q=>absurd q.2 (by decide))]
theorem Ko:(fZ IJ xE).is=true:=by rw[sS,KK (fun q=>absurd q.2 (by decide))]
theorem J9:fZ xE Hu=⟨za,1,false⟩:=by rw[sS,KT ⟨MH _,by decide⟩];rfl
theorem Kp:(fZ xE Km).is=true:=by rw[sS,KK (fun q=>absurd q.1 (by simp[bs]))]
theorem Kq:(fZ xE []).is=true:=by rw[Hm]
theorem Kr:lO xE IJ=false:=by rw[sv,show nU xE IJ=false from qH (i:=0) (by simp) (FG (by show ¬2=1;omega)),Lw]
theorem Ks:lO xE xE=true:=by
 rw[sv,sS,KK (fun q=>absurd q.2 (by decide))]
 show(true&&nU xE xE)=true
 rw[L0]
 exact qI rfl (fun i hi=>FH (MH _) rfl)
theorem Kt:lO xE Hu=false:=by rw[sv,J9];rfl
def dX:Ci:=aa 0 []
def sX:Ns:=aC dX
theorem oh:bO dX:=xD (by omega) (by omega) (fun x hx=>by cases hx)
theorem sT:cA dX sX:=xC oh
theorem sU:jJ sX 4294967296:=fun n=>by
 show((List.replicate dX.J.length ([]:List Int)).getD n []).length≤_
 rw[List.getD,LK]
 split<;>simp
abbrev xF:ByteArray:=bs [99,48]
abbrev I4:ByteArray:=bs [99,49]
theorem EA:dX.J.length=2:=by decide
theorem IK:dX.J.getD 0 aN=⟨xF,2,0,-1,0⟩:=by rfl
theorem JT:dX.J.getD 1 aN=⟨I4,2,0,0,-1⟩:=by rfl
theorem B8:au dX.J xF=0:=by
 refine bH (i:=0) ?_ (fun z hz=>by omega) (by rw[EA];omega)
 unfold jk;rw[IK];exact Bool.and_eq_true_iff.2 ⟨rfl,MH _⟩
theorem JU:au dX.J I4=-1:=by
 refine ca (fun z hz=>?_)
 rw[EA]at hz
 unfold jk
 rcases(show z=0∨z=1 by omega)with rfl | rfl
 ·rw[IK,show((⟨xF,2,0,-1,0⟩:Ch).name.toList==I4.toList)=false by simp[bs],Lw]
 ·rw[JT];rfl
theorem fX:(aq dX sX 0 [1,2]).2=0∧(aq dX sX 0 [1,2]).1.J.length=2∧((aq dX sX 0 [1,2]).1.J.getD 0 []).length=2:=by decide
theorem Ku:(aq dX sX 0 [4]).2=1:=by decide
theorem IL:ae dX dX sX sX xF [1,2]=((aq dX sX 0 [1,2]).1,(aq dX sX 0 [1,2]).1,0):=by
 rw[cb (by rw[B8];omega) (by show(aq dX sX (au dX.J xF) [1,2]).2=0;rw[B8];exact fX.1) (by show(aq dX sX (au dX.J xF) [1,2]).2=0;rw[B8];exact fX.1)]
 show((aq dX sX (au dX.J xF) [1,2]).1,(aq dX sX (au dX.J xF) [1,2]).1,0)=_
 rw[B8]
theorem JV:(ae dX dX sX sX I4 []).2.2=4:=by rw[bZ (.inl (by rw[JU];omega))]
theorem JW:(ae dX dX sX sX xF [4]).2.2=1:=by
 rw[aZ (by rw[B8];omega) (fun q=>by
  have h:(aq dX sX (au dX.J xF) [4]).2=0:=q.1
  rw[B8,Ku]at h;cases h)]
theorem JX:¬lO xE IJ=true:=by rw[Kr];simp
theorem JY:¬lO xE Hu=true:=by rw[Kt];simp
theorem JZ:((fZ xE Hu).name.toList==za.toList&&((fZ xE Hu).pos==1&&(fZ xE Hu).is==false))=true:=by
 rw[J9]
 show(za.toList==za.toList&&_)=true
 rw[MH];rfl
theorem Kv:(ae dX dX sX sX xF [1,2]).2.2=0:=by rw[IL]
theorem Ka:((ae dX dX sX sX xF [1,2]).1.J.length:Int)=2:=by rw[IL];show((aq dX sX 0 [1,2]).1.J.length:Int)=2;rw[fX.2.1];rfl
theorem Kb:((ae dX dX sX sX xF [1,2]).2.1.J.length:Int)=2:=by rw[IL];show((aq dX sX 0 [1,2]).1.J.length:Int)=2;rw[fX.2.1];rfl
theorem Kw:(((ae dX dX sX sX xF [1,2]).1.J.getD 0 []).length:Int)=2:=by rw[IL];show(((aq dX sX 0 [1,2]).1.J.getD 0 []).length:Int)=2;rw[fX.2.2];rfl
theorem Kx:(((ae dX dX sX sX xF [1,2]).2.1.J.getD 0 []).length:Int)=2:=by rw[IL];show(((aq dX sX 0 [1,2]).1.J.getD 0 []).length:Int)=2;rw[fX.2.2];rfl
theorem Ky:0≤(0:Int)∧(0:Int)<((ae dX dX sX sX xF [1,2]).1.J.length:Int):=by rw[Ka];omega
theorem Kz:0≤(0:Int)∧(0:Int)<((ae dX dX sX sX xF [1,2]).2.1.J.length:Int):=by rw[Kb];omega
def pS (c:Ci) (bb l:List Int):Ns:=ct c (bI c bb) (l.take (min (l.length / 2) 12))
def pT (d:Ci) (bb l:List Int):Ns:=ct d (bI d bb) ((l.take (min l.length (l.length / 2+12))).drop (l.length / 2))
theorem AZ {c:Ci} (hc:bO c) {bb l:List Int} (hb:ip bb) (hl:l.length≤12):cA c (ct c (bI c bb) l)∧jJ (ct c (bI c bb) l) 100:=by
 have h1:=Ez hc hb c.J.length (KI _)
 have h2:=AX hc l h1.1 h1.2
 exact⟨h2.1,fun n=>by have:=h2.2 n;unfold bI;omega⟩
theorem IM {c:Ci} (hc:bO c) {bb l:List Int} (hb:ip bb):cA c (pS c bb l)∧jJ (pS c bb l) 100:=AZ hc hb (by rw[KV];omega)
theorem IP {c:Ci} (hc:bO c) {bb l:List Int} (hb:ip bb):cA c (pT c bb l)∧jJ (pT c bb l) 100:=AZ hc hb (by rw[K7,KV];omega)
theorem EB {l:List Int} {n:Nat} (h:ip l):ip (l.drop n):=fun x hx=>h x (List.mem_of_mem_drop hx)
abbrev c7 (a b:List Sm):Ct:=⟨7,[(dL 2 lj bQ a),(dL 2 lj bQ b)],false,(.agg [(dS ((fZ a b).name)),(i6 ((fZ a b).pos)),(dB ((fZ a b).is))])⟩
theorem iU (a b:List Sm) (ha:a.length≤9223372036854775807) (hb:b.length≤9223372036854775807) (hwa:∀i,(a.getD i bQ).words.length≤9223372036854775807):CC (c7 a b):=by
 refine ai.vc (V:=TT 3 (CC (Ia a b)∧TT 13 (((((fZ a b).name)=((fZ a b).name)∧((fZ a b).pos)=((fZ a b).pos)∧((fZ a b).is)=((fZ a b).is)∧True))∧((True∧True∧True∧True))))) (.w 1 [(2,(Ia a b).O)]<|.e) Try.func7 rfl rfl rfl (by kernel_rfl) ?_
 exact tt ⟨(uA a b ha hb hwa),tt ⟨⟨rfl,rfl,rfl,oK⟩,⟨oK,oK,oK,oK⟩⟩⟩
abbrev ER (c d:Ci) (s t:Ns) (z:Sm):Ct:=⟨13,[(.agg [(dL 6 eK aO c.U),(dL 5 dq aN c.J),(dL 6 eK aO d.U),(dL 5 dq aN d.J),(dL 2 aU aY s.U),(dL 1 ac [] s.J),(dL 2 aU aY t.U),(dL 1 ac [] t.J)]),(.agg [(dS z.name),(LI z.words)])],true,(.agg [(dL 2 aU aY (((ae c d s t z.name z.words).1).U)),(dL 1 ac [] (((ae c d s t z.name z.words).1).J)),(dL 2 aU aY (((ae c d s t z.name z.words).2.1).U)),(dL 1 ac [] (((ae c d s t z.name z.words).2.1).J)),(i6 ((ae c d s t z.name z.words).2.2))])⟩
theorem jv (c d:Ci) (s t:Ns) (z:Sm) (hc:bO c) (hd:bO d) (hs:cA c s) (ht:cA d t) (O4:jJ s 4294967296) (htm:jJ t 4294967296) (hw:z.words.length≤4294967296):CC (ER c d s t z):=by
 refine ai.vc (V:=TT 12 (CC (Jv c d s t z)∧TT 15 ((((ae c d s t z.name z.words).1).U).map aU=(((ae c d s t z.name z.words).1).U).map aU∧(((ae c d s t z.name z.words).1).J).map ac=(((ae c d s t z.name z.words).1).J).map ac∧(((ae c d s t z.name z.words).2.1).U).map aU=(((ae c d s t z.name z.words).2.1).U).map aU∧(((ae c d s t z.name z.words).2.1).J).map ac=(((ae c d s t z.name z.words).2.1).J).map ac∧((ae c d s t z.name z.words).2.2)=((ae c d s t z.name z.words).2.2)∧True))) (.w 1 [(9,(Jv c d s t z).O)]<|.e) Try.func13 rfl rfl rfl (by kernel_rfl) ?_
 exact tt ⟨(D9 c d s t z hc hd hs ht O4 htm hw),tt ⟨rfl,rfl,rfl,rfl,rfl,oK⟩⟩
abbrev F3 (nm:ByteArray) (l:List Int):Ct:=⟨17,[(dS nm),(LI l)],true,(dL 2 lj bQ [(⟨nm,l⟩:Sm)])⟩
theorem jw (nm:ByteArray) (l:List Int):CC (F3 nm l):=by
 refine ai.vc (V:=TT 4 (an [[(dS nm),(LI l)]] ([(⟨nm,l⟩:Sm)].map lj)∧TT 2 ([(⟨nm,l⟩:Sm)].map lj=[(⟨nm,l⟩:Sm)].map lj))) (.w 1 [(3,.box 57 2 lj bQ [(⟨nm,l⟩:Sm)])]<|.e) Try.func17 rfl rfl rfl (by kernel_rfl) ?_
 exact tt ⟨⟨⟨rfl,rfl,oK⟩,oK⟩,tt rfl⟩
abbrev c5:Ct:=⟨5,[],false,(dB true)⟩
theorem v6  : CC c5:=by
 refine ai.vc (V:=TT 1 (an [[(i6 1)],[(i6 2)]] ([1,2].map (ab .i64))∧CC (F3 (bs [111,117,116]) [1,2])∧an [[(i6 1)]] ([1].map (ab .i64))∧CC (F3 (bs [111,117,116]) [1])∧an [[(i6 1)],[(i6 3)],[(i6 4)]] ([1,3,4].map (ab .i64))∧CC (F3 (bs [111,117,116]) [1,3,4])∧TT 5 (CC (c7 [(⟨(bs [111,117,116]),[1,2]⟩:Sm)] [(⟨(bs [111,117,116]),[1]⟩:Sm)])∧TT 2 ((True∧(!((fZ [(⟨(bs [111,117,116]),[1,2]⟩:Sm)] [(⟨(bs [111,117,116]),[1]⟩:Sm)]).is))=false)∧TT 2 (CC (c7 [(⟨(bs [111,117,116]),[1]⟩:Sm)] [(⟨(bs [111,117,116]),[1,2]⟩:Sm)])∧TT 3 ((True∧(!((fZ [(⟨(bs [111,117,116]),[1]⟩:Sm)] [(⟨(bs [111,117,116]),[1,2]⟩:Sm)]).is))=false)∧TT 2 (CC (c7 [(⟨(bs [111,117,116]),[1,2]⟩:Sm)] [(⟨(bs [111,117,116]),[1,3,4]⟩:Sm)])∧TT 3 ((True∧(!((((fZ [(⟨(bs [111,117,116]),[1,2]⟩:Sm)] [(⟨(bs [111,117,116]),[1,3,4]⟩:Sm)]).name).toList==(bs [111,117,116]).toList)&&((((fZ [(⟨(bs [111,117,116]),[1,2]⟩:Sm)] [(⟨(bs [111,117,116]),[1,3,4]⟩:Sm)]).pos)==1)&&(((fZ [(⟨(bs [111,117,116]),[1,2]⟩:Sm)] [(⟨(bs [111,117,116]),[1,3,4]⟩:Sm)]).is)==false))))=false)∧TT 1 (an [[(i6 5)]] ([5].map (ab .i64))∧CC (F3 (bs [111,116,104,101,114]) [5])∧CC (c7 [(⟨(bs [111,117,116]),[1,2]⟩:Sm)] [(⟨(bs [111,116,104,101,114]),[5]⟩:Sm)])∧TT 3 ((True∧(!((fZ [(⟨(bs [111,117,116]),[1,2]⟩:Sm)] [(⟨(bs [111,116,104,101,114]),[5]⟩:Sm)]).is))=false)∧TT 1 ((tE [] [(dL 2 lj bQ [(⟨(bs [111,117,116]),[1,2]⟩:Sm)]),.nils] (c7 [(⟨(bs [111,117,116]),[1,2]⟩:Sm)] []).q'∧CC (c7 [(⟨(bs [111,117,116]),[1,2]⟩:Sm)] []))∧TT 3 ((True∧(!((fZ [(⟨(bs [111,117,116]),[1,2]⟩:Sm)] []).is))=false)∧TT 2 (CC (Ha [(⟨(bs [111,117,116]),[1,2]⟩:Sm)] [(⟨(bs [111,117,116]),[1]⟩:Sm)])∧TT 1 ((True∧(lO [(⟨(bs [111,117,116]),[1,2]⟩:Sm)] [(⟨(bs [111,117,116]),[1]⟩:Sm)])=false)∧TT 2 (CC (Ha [(⟨(bs [111,117,116]),[1,2]⟩:Sm)] [(⟨(bs [111,117,116]),[1,2]⟩:Sm)])∧TT 2 ((True∧(!(lO [(⟨(bs [111,117,116]),[1,2]⟩:Sm)] [(⟨(bs [111,117,116]),[1,2]⟩:Sm)]))=false)∧TT 2 (CC (Ha [(⟨(bs [111,117,116]),[1,2]⟩:Sm)] [(⟨(bs [111,117,116]),[1,3,4]⟩:Sm)])∧TT 1 ((lO [(⟨(bs [111,117,116]),[1,2]⟩:Sm)] [(⟨(bs [111,117,116]),[1,3,4]⟩:Sm)])=false∧TT 1 ((tE [] [(.agg [(dI .u8 0),.nils])] (Gs 0 []).q'∧CC (Gs 0 []))∧TT 3 (CC (Jn (aa 0 []))∧TT 10 (an [[(i6 1)],[(i6 2)]] ([1,2].map (ab .i64))∧TT 1 (CC (ER (aa 0 []) (aa 0 []) (aC (aa 0 [])) (aC (aa 0 [])) (⟨(bs [99,48]),[1,2]⟩:Sm))∧TT 5 ((True∧(decide (((ae (aa 0 []) (aa 0 []) (aC (aa 0 [])) (aC (aa 0 [])) (⟨(bs [99,48]),[1,2]⟩:Sm).name (⟨(bs [99,48]),[1,2]⟩:Sm).words).2.2)=0))=true)∧TT 6 ((True∧(decide ((((((ae (aa 0 []) (aa 0 []) (aC (aa 0 [])) (aC (aa 0 [])) (⟨(bs [99,48]),[1,2]⟩:Sm).name (⟨(bs [99,48]),[1,2]⟩:Sm).words).1).J).length:Nat):Int)=2))=true)∧TT 6 ((True∧(decide ((((((ae (aa 0 []) (aa 0 []) (aC (aa 0 [])) (aC (aa 0 [])) (⟨(bs [99,48]),[1,2]⟩:Sm).name (⟨(bs [99,48]),[1,2]⟩:Sm).words).2.1).J).length:Nat):Int)=2))=true)∧TT 3 (IX 0 ((((ae (aa 0 []) (aa 0 []) (aC (aa 0 [])) (aC (aa 0 [])) (⟨(bs [99,48]),[1,2]⟩:Sm).name (⟨(bs [99,48]),[1,2]⟩:Sm).words).1).J).length)∧TT 4 ((True∧(decide (((((((ae (aa 0 []) (aa 0 []) (aC (aa 0 [])) (aC (aa 0 [])) (⟨(bs [99,48]),[1,2]⟩:Sm).name (⟨(bs [99,48]),[1,2]⟩:Sm).words).1).J).getD 0 []).length:Nat):Int)=2))=true)∧TT 3 (IX 0 ((((ae (aa 0 []) (aa 0 []) (aC (aa 0 [])) (aC (aa 0 [])) (⟨(bs [99,48]),[1,2]⟩:Sm).name (⟨(bs [99,48]),[1,2]⟩:Sm).words).2.1).J).length)∧TT 4 ((True∧(decide (((((((ae (aa 0 []) (aa 0 []) (aC (aa 0 [])) (aC (aa 0 [])) (⟨(bs [99,48]),[1,2]⟩:Sm).name (⟨(bs [99,48]),[1,2]⟩:Sm).words).2.1).J).getD 0 []).length:Nat):Int)=2))=true)∧TT 2 ((tE [] [(.agg [(dL 6 eK aO ((aa 0 []).U)),(dL 5 dq aN ((aa 0 []).J)),(dL 6 eK aO ((aa 0 []).U)),(dL 5 dq aN ((aa 0 []).J)),(dL 2 aU aY ((aC (aa 0 [])).U)),(dL 1 ac [] ((aC (aa 0 [])).J)),(dL 2 aU aY ((aC (aa 0 [])).U)),(dL 1 ac [] ((aC (aa 0 [])).J))]),(.agg [(dS (bs [99,49])),.nils])] (ER (aa 0 []) (aa 0 []) (aC (aa 0 [])) (aC (aa 0 [])) (⟨(bs [99,49]),[]⟩:Sm)).q'∧CC (ER (aa 0 []) (aa 0 []) (aC (aa 0 [])) (aC (aa 0 [])) (⟨(bs [99,49]),[]⟩:Sm)))∧TT 3 ((True∧(decide (((ae (aa 0 []) (aa 0 []) (aC (aa 0 [])) (aC (aa 0 [])) (⟨(bs [99,49]),[]⟩:Sm).name (⟨(bs [99,49]),[]⟩:Sm).words).2.2)=4))=true)∧TT 1 (an [[(i6 4)]] ([4].map (ab .i64))∧TT 1 (CC (ER (aa 0 []) (aa 0 []) (aC (aa 0 [])) (aC (aa 0 [])) (⟨(bs [99,48]),[4]⟩:Sm))∧TT 3 ((True∧(decide (((ae (aa 0 []) (aa 0 []) (aC (aa 0 [])) (aC (aa 0 [])) (⟨(bs [99,48]),[4]⟩:Sm).name (⟨(bs [99,48]),[4]⟩:Sm).words).2.2)=1))=true)∧TT 2 (CC (Ju (aa 0 []) (aC (aa 0 [])))∧TT 5 (((((FE (aa 0 []) (aC (aa 0 []))).length:Nat):Int)==1)=true∧True)))))))))))))))))))))))))))))))))))) (.w 1 [(0,.frz 3 1 (ab .i64) 0 [1,2]),(1,(F3 (bs [111,117,116]) [1,2]).O),(2,.frz 3 1 (ab .i64) 0 [1]),(3,(F3 (bs [111,117,116]) [1]).O),(4,.frz 3 1 (ab .i64) 0 [1,3,4]),(5,(F3 (bs [111,117,116]) [1,3,4]).O)]<|.w 2 [(2,(c7 [(⟨(bs [111,117,116]),[1,2]⟩:Sm)] [(⟨(bs [111,117,116]),[1]⟩:Sm)]).O),(5,.val (dB false)),(8,(c7 [(⟨(bs [111,117,116]),[1]⟩:Sm)] [(⟨(bs [111,117,116]),[1,2]⟩:Sm)]).O),(12,.val (dB false)),(15,(c7 [(⟨(bs [111,117,116]),[1,2]⟩:Sm)] [(⟨(bs [111,117,116]),[1,3,4]⟩:Sm)]).O),(19,.val (dB false)),(21,.frz 3 1 (ab .i64) 0 [5]),(22,(F3 (bs [111,116,104,101,114]) [5]).O),(23,(c7 [(⟨(bs [111,117,116]),[1,2]⟩:Sm)] [(⟨(bs [111,116,104,101,114]),[5]⟩:Sm)]).O),(27,.val (dB false)),(29,(c7 [(⟨(bs [111,117,116]),[1,2]⟩:Sm)] []).O'),(33,.val (dB false)),(36,(Ha [(⟨(bs [111,117,116]),[1,2]⟩:Sm)] [(⟨(bs [111,117,116]),[1]⟩:Sm)]).O),(38,.val (dB false)),(41,(Ha [(⟨(bs [111,117,116]),[1,2]⟩:Sm)] [(⟨(bs [111,117,116]),[1,2]⟩:Sm)]).O),(44,.val (dB false)),(47,(Ha [(⟨(bs [111,117,116]),[1,2]⟩:Sm)] [(⟨(bs [111,117,116]),[1,3,4]⟩:Sm)]).O)]<|.u 62 (.w 4 [(1,(Gs 0 []).O')]<|.w 5 [(1,(Jn (aa 0 [])).O)]<|.w 7 [(1,.frz 3 1 (ab .i64) 0 [1,2]),(3,(ER (aa 0 []) (aa 0 []) (aC (aa 0 [])) (aC (aa 0 [])) (⟨(bs [99,48]),[1,2]⟩:Sm)).O)]<|.w 8 [(3,.val (dB true)),(10,.val (dB true)),(17,.val (dB true)),(26,.val (dB true)),(35,.val (dB true)),(38,(ER (aa 0 []) (aa 0 []) (aC (aa 0 [])) (aC (aa 0 [])) (⟨(bs [99,49]),[]⟩:Sm)).O'),(42,.val (dB true)),(44,.frz 3 1 (ab .i64) 0 [4]),(46,(ER (aa 0 []) (aa 0 []) (aC (aa 0 [])) (aC (aa 0 [])) (⟨(bs [99,48]),[4]⟩:Sm)).O),(50,.val (dB true)),(53,(Ju (aa 0 []) (aC (aa 0 []))).O)]<|.e)) Try.func5 rfl rfl rfl (by kernel_rfl) ?_
 refine tt ⟨⟨⟨rfl,oK⟩,⟨rfl,oK⟩,oK⟩,⟨(jw (bs [111,117,116]) [1,2]),⟨⟨⟨rfl,oK⟩,oK⟩,⟨(jw (bs [111,117,116]) [1]),⟨⟨⟨rfl,oK⟩,⟨rfl,oK⟩,⟨rfl,oK⟩,oK⟩,⟨(jw (bs [111,117,116]) [1,3,4]),tt ⟨(iU [(⟨(bs [111,117,116]),[1,2]⟩:Sm)] [(⟨(bs [111,117,116]),[1]⟩:Sm)] (by decide) (by decide) (fun i=>by cases i<;>simp)),tt ⟨(mF Kn),tt ⟨(iU [(⟨(bs [111,117,116]),[1]⟩:Sm)] [(⟨(bs [111,117,116]),[1,2]⟩:Sm)] (by decide) (by decide) (fun i=>by cases i<;>simp)),tt ⟨(mF Ko),tt ⟨(iU [(⟨(bs [111,117,116]),[1,2]⟩:Sm)] [(⟨(bs [111,117,116]),[1,3,4]⟩:Sm)] (by decide) (by decide) (fun i=>by cases i<;>simp)),tt ⟨(mF JZ),tt ⟨⟨⟨rfl,oK⟩,oK⟩,⟨(jw (bs [111,116,104,101,114]) [5]),⟨(iU [(⟨(bs [111,117,116]),[1,2]⟩:Sm)] [(⟨(bs [111,116,104,101,114]),[5]⟩:Sm)] (by decide) (by decide) (fun i=>by cases i<;>simp)),tt ⟨(mF Kp),tt ⟨⟨⟨rfl,rfl,oK⟩,(iU [(⟨(bs [111,117,116]),[1,2]⟩:Sm)] [] (by decide) (by decide) (fun i=>by cases i<;>simp))⟩,tt ⟨(mF Kq),tt ⟨(kr [(⟨(bs [111,117,116]),[1,2]⟩:Sm)] [(⟨(bs [111,117,116]),[1]⟩:Sm)] (by decide) (by decide) (fun i=>by cases i<;>simp)),tt ⟨(bF JX),tt ⟨(kr [(⟨(bs [111,117,116]),[1,2]⟩:Sm)] [(⟨(bs [111,117,116]),[1,2]⟩:Sm)] (by decide) (by decide) (fun i=>by cases i<;>simp)),tt ⟨(mF Ks),tt ⟨(kr [(⟨(bs [111,117,116]),[1,2]⟩:Sm)] [(⟨(bs [111,117,116]),[1,3,4]⟩:Sm)] (by decide) (by decide) (fun i=>by cases i<;>simp)),tt ⟨(J6 JY),tt ⟨⟨⟨⟨rfl,rfl,oK⟩,oK⟩,(v4 0 [] (by decide) (by decide) (fun x hx=>by cases hx))⟩,tt ⟨(BP (aa 0 []) oh),tt ⟨⟨⟨rfl,oK⟩,⟨rfl,oK⟩,oK⟩,tt ⟨(jv (aa 0 []) (aa 0 []) (aC (aa 0 [])) (aC (aa 0 [])) (⟨(bs [99,48]),[1,2]⟩:Sm) oh oh sT sT sU sU (by decide)),tt ⟨(vT Kv),tt ⟨(vT Ka),tt ⟨(vT Kb),tt ⟨(by exact Ky),tt ⟨(vT Kw),tt ⟨(by exact Kz),tt ⟨(vT Kx),tt ⟨⟨⟨⟨rfl,rfl,rfl,rfl,rfl,rfl,rfl,rfl,oK⟩,⟨rfl,rfl,oK⟩,oK⟩,(jv (aa 0 []) (aa 0 []) (aC (aa 0 [])) (aC (aa 0 [])) (⟨(bs [99,49]),[]⟩:Sm) oh oh sT sT sU sU (by decide))⟩,tt ⟨(vT JV),tt ⟨⟨⟨rfl,oK⟩,oK⟩,tt ⟨(jv (aa 0 []) (aa 0 []) (aC (aa 0 [])) (aC (aa 0 [])) (⟨(bs [99,48]),[4]⟩:Sm) oh oh sT sT sU sU (by decide)),tt ⟨(vT JW),tt ⟨(xh (aa 0 []) (aC (aa 0 [])) oh sT sU),tt ⟨?_,oK⟩⟩⟩⟩⟩⟩⟩⟩⟩⟩⟩⟩⟩⟩⟩⟩⟩⟩⟩⟩⟩⟩⟩⟩⟩⟩⟩⟩⟩⟩⟩⟩⟩⟩⟩⟩⟩⟩⟩⟩⟩⟩
 first | rfl | exact KO oX1
abbrev J0 (x:Int) (xb:List Int) (y:Int) (yb bb l:List Int):Ct:=⟨11,[(.agg [(dI .u8 x),(LY xb),(dI .u8 y),(LY yb),(LY bb),(LY l)])],true,(.agg [(dL 6 eK aO ((aa x xb).U)),(dL 5 dq aN ((aa x xb).J)),(dL 6 eK aO ((aa y yb).U)),(dL 5 dq aN ((aa y yb).J)),(dL 2 aU aY ((pS (aa x xb) bb l).U)),(dL 1 ac [] ((pS (aa x xb) bb l).J)),(dL 2 aU aY ((pT (aa y yb) bb l).U)),(dL 1 ac [] ((pT (aa y yb) bb l).J))])⟩
theorem EC (x:Int) (xb:List Int) (y:Int) (yb bb l:List Int) (x0:0≤x) (x1:x≤255) (gx:ip xb) (y0:0≤y) (y1:y≤255) (gy:ip yb) (gbb:ip bb) (gl:ip l) (RN:l.length≤9223372036854775807):CC (J0 x xb y yb bb l):=by
 have hc:=xD x0 x1 gx
 have hd:=xD y0 y1 gy
 have hbc:=uL hc gbb
 have hbd:=uL hd gbb
 refine ai.vc (V:=TT 4 (CC (Gs x xb)∧TT 2 (CC (Gs y yb)∧TT 6 (((2:Int)≠0∧(IntKind.wrap .i64 (Int.tdiv (l.length:Int) 2))=(((l.length / 2):Nat):Int))∧TT 7 (CC (Iz (aa x xb) bb)∧TT 3 ((True∧(wm (((l.length / 2):Nat):Int) 12)=(((min (l.length / 2) 12):Nat):Int))∧(0≤(0:Int)∧(0:Int)≤(((min (l.length / 2) 12):Nat):Int)∧(((min (l.length / 2) 12):Nat):Int)≤(l.length:Int))∧CC (IA (aa x xb) (bI (aa x xb) bb) ((l.take (min (l.length / 2) 12)).drop 0))∧TT 8 (CC (Iz (aa y yb) bb)∧TT 7 (W6 (((l.length / 2)+12:Nat):Int)∧(True∧(wm (l.length:Int) (((l.length / 2)+12:Nat):Int))=(((min l.length (l.length / 2+12)):Nat):Int))∧(0≤(((l.length / 2):Nat):Int)∧(((l.length / 2):Nat):Int)≤(((min l.length (l.length / 2+12)):Nat):Int)∧(((min l.length (l.length / 2+12)):Nat):Int)≤(l.length:Int))∧CC (IA (aa y yb) (bI (aa y yb) bb) ((l.take (min l.length (l.length / 2+12))).drop (l.length / 2)))∧TT 5 (((aa x xb).U).map eK=((aa x xb).U).map eK∧((aa x xb).J).map dq=((aa x xb).J).map dq∧((aa y yb).U).map eK=((aa y yb).U).map eK∧((aa y yb).J).map dq=((aa y yb).J).map dq∧((ct (aa x xb) (bI (aa x xb) bb) ((l.take (min (l.length / 2) 12)).drop 0)).U).map aU=((pS (aa x xb) bb l).U).map aU∧((ct (aa x xb) (bI (aa x xb) bb) ((l.take (min (l.length / 2) 12)).drop 0)).J).map ac=((pS (aa x xb) bb l).J).map ac∧((ct (aa y yb) (bI (aa y yb) bb) ((l.take (min l.length (l.length / 2+12))).drop (l.length / 2))).U).map aU=((pT (aa y yb) bb l).U).map aU∧((ct (aa y yb) (bI (aa y yb) bb) ((l.take (min l.length (l.length / 2+12))).drop (l.length / 2))).J).map ac=((pT (aa y yb) bb l).J).map ac∧True))))))))) (.w 1 [(2,(Gs x xb).O),(5,(Gs y yb).O)]<|.w 2 [(3,.val (i6 (((l.length / 2):Nat):Int)))]<|.w 3 [(6,(Iz (aa x xb) bb).O),(10,.val (i6 (((min (l.length / 2) 12):Nat):Int))),(12,(IA (aa x xb) (bI (aa x xb) bb) ((l.take (min (l.length / 2) 12)).drop 0)).O)]<|.w 4 [(6,(Iz (aa y yb) bb).O),(14,.val (i6 (((l.length / 2)+12:Nat):Int))),(15,.val (i6 (((min l.length (l.length / 2+12)):Nat):Int))),(17,(IA (aa y yb) (bI (aa y yb) bb) ((l.take (min l.length (l.length / 2+12))).drop (l.length / 2))).O)]<|.e) Try.func11 rfl rfl rfl (by kernel_rfl) ?_
 refine tt ⟨(v4 x xb x0 x1 gx),tt ⟨(v4 y yb y0 y1 gy),tt ⟨⟨om,(by rw[Int.tdiv_eq_ediv_of_nonneg (Int.natCast_nonneg _),Bm rfl (by omega) (by omega)];omega)⟩,tt ⟨(xA (aa x xb) bb hc gbb),tt ⟨⟨oK,(by unfold wm;split<;>omega)⟩,⟨om,⟨(uJ (aa x xb) (bI (aa x xb) bb) ((l.take (min (l.length / 2) 12)).drop 0) hc hbc.1 hbc.2 (by simp;omega) (xB gl)),tt ⟨(xA (aa y yb) bb hd gbb),tt ⟨w6,⟨⟨oK,(by unfold wm;split<;>omega)⟩,⟨om,⟨(uJ (aa y yb) (bI (aa y yb) bb) ((l.take (min l.length (l.length / 2+12))).drop (l.length / 2)) hd hbd.1 hbd.2 (by rw[K7,KV];omega) (EB (xB gl))),tt ⟨rfl,rfl,rfl,rfl,(congrArg _ (?_:((ct (aa x xb) (bI (aa x xb) bb) ((l.take (min (l.length / 2) 12)).drop 0)).U)=((pS (aa x xb) bb l).U))),(congrArg _ (?_:((ct (aa x xb) (bI (aa x xb) bb) ((l.take (min (l.length / 2) 12)).drop 0)).J)=((pS (aa x xb) bb l).J))),(congrArg _ (?_:((ct (aa y yb) (bI (aa y yb) bb) ((l.take (min l.length (l.length / 2+12))).drop (l.length / 2))).U)=((pT (aa y yb) bb l).U))),(congrArg _ (?_:((ct (aa y yb) (bI (aa y yb) bb) ((l.take (min l.length (l.length / 2+12))).drop (l.length / 2))).J)=((pT (aa y yb) bb l).J))),oK⟩⟩⟩⟩⟩⟩⟩⟩⟩⟩⟩⟩⟩
 all_goals (rfl)
end Go.Proofs.Ytgmpoenfoacofaa
