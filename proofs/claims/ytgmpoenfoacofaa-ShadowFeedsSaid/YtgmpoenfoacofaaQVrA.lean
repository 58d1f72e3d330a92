/-
  The reference of package bits,at valid operations.
-/
import Derived.Test.YtgmpoenfoacofaaQNeB
namespace Go.Proofs.Ytgmpoenfoacofaa
open Go.RowKit
set_option linter.unusedVariables false
set_option linter.unusedSimpArgs false
set_option maxRecDepth 100000
abbrev jK (n:Int):Ct:=⟨84,[(i6 n)],false,(dB (aD n))⟩
theorem c9 (n:Int):CC (jK n):=by
 refine ai.vc (V:=TT 1 (CS (n≥1) (TT 2 ((True∧(decide (n≥1))=true)∧TT 5 ((decide (n≤8))=(aD n)∧True))) (TT 2 ((True∧(decide (n≥1))=false)∧TT 5 (false=(aD n)∧True))))) (.s 1 (n≥1) (.w 1 [(2,.val (dB true))]<|.e) (.w 1 [(2,.val (dB false))]<|.e)) Try.func84 rfl rfl rfl (by kernel_rfl) ?_
 refine tt ⟨fun MV=>?_,fun MV=>?_⟩
 · refine tt ⟨(vT MV),tt ⟨?_,oK⟩⟩
   unfold aD;simp;omega
 · refine tt ⟨(vF MV),tt ⟨?_,oK⟩⟩
   unfold aD;simp;omega
abbrev yX (w:Int):Ct:=⟨44,[(i6 w)],false,(i6 (aB w))⟩
theorem gN (w:Int):CC (yX w):=by
 refine ai.vc (V:=TT 1 (CS (w<0) (TT 2 ((True∧(decide (w<0))=true)∧TT 5 ((0:Int)=(aB w)∧True))) (TT 2 ((True∧(decide (w<0))=false)∧TT 3 (CD (w>62) (TT 2 ((0:Int)=(aB w)∧True)) (TT 1 ((True∧IntKind.u64.wrap w=w)∧SH w∧W6 ((2^w.toNat)-1)∧TT 2 (((2^w.toNat)-1)=(aB w)∧True)))))))) (.s 1 (w<0) (.w 1 [(2,.val (dB true))]<|.e) (.w 1 [(2,.val (dB false))]<|.b 8 (.e) (.w 3 [(1,.val (dI .u64 w)),(2,.val (i6 (2^w.toNat))),(3,.val (i6 ((2^w.toNat)-1)))]<|.e))) Try.func44 rfl rfl rfl (by kernel_rfl) ?_
 refine tt ⟨fun MV=>?_,fun MV=>?_⟩
 · refine tt ⟨(vT MV),tt ⟨?_,oK⟩⟩
   unfold aB;first | exact(KT (by omega)).symm | exact(KK (by omega)).symm
 · refine tt ⟨(vF MV),tt (cd (fun hc8=>?_) (fun hc8=>?_))⟩
   · refine tt ⟨?_,oK⟩
     unfold aB;first | exact(KT (by omega)).symm | exact(KK (by omega)).symm
   · refine tt ⟨⟨oK,CW rfl om om⟩,⟨sh,⟨(w6 (by have:=np (n:=w.toNat) (by omega);omega) (by have:=np (n:=w.toNat) (by omega);omega)),tt ⟨?_,oK⟩⟩⟩⟩
     unfold aB;first | exact(KT (by omega)).symm | exact(KK (by omega)).symm
abbrev Ik (b:Bool):Ct:=⟨87,[(dB b)],false,(i6 (if b=true then 1 else 0))⟩
theorem xn (b:Bool):CC (Ik b):=by
 refine ai.vc (V:=TT 2 (CB (b) (TT 2 ((1:Int)=(if b=true then 1 else 0)∧True)) (TT 2 ((0:Int)=(if b=true then 1 else 0)∧True)))) (.b 3 (.e) (.e)) Try.func87 rfl rfl rfl (by kernel_rfl) ?_
 refine tt ⟨fun hc3=>?_,fun hc3=>?_⟩
 · refine tt ⟨?_,oK⟩
   first | exact(KT hc3).symm | exact(KK (by rw[hc3];simp)).symm
 · refine tt ⟨?_,oK⟩
   first | exact(KT hc3).symm | exact(KK (by rw[hc3];simp)).symm
abbrev sI (ws:List Int) (n:Nat):Ct:=⟨85,[(LI ws),(i6 (n:Int))],false,(dB true)⟩
abbrev ll (ws:List Int) (n:Nat):Lp (Nat):=il [0,1,5] 0 (fun (i:Nat)=>⟨[(0,(LI ws)),(1,(i6 (n:Int))),(5,(i6 (i:Int)))],[]⟩) (fun (i:Nat)=>i≤n) (fun (i:Nat)=>n-i)
theorem cL (ws:List Int) (n:Nat) (h:dC ws n=true) (hn:n≤3):CC (sI ws n):=by
 have hl:=(aW h).1
 refine ai.vc (V:=TT 5 ((!decide ((ws.length:Int)=(n:Int)))=false∧TT 1 (GO (ll ws n) 0 (∀i,(ll ws n).inv i→TT 3 (CD ((i:Int)<(n:Int)) (TT 2 (IX (i:Int) ws.length∧TT 1 (CC (jK (ws.getD i 0))∧TT 1 ((!(aD (ws.getD i 0)))=false∧TT 1 (W6 ((i+1:Nat):Int)∧TT 1 (AG (ll ws n) i (i+1))))))) (CS ((n:Int)<2) (TT 2 ((True∧(decide ((n:Int)<2))=true)∧TT 3 (true=true∧True))) (TT 2 ((True∧(decide ((n:Int)<2))=false)∧TT 2 ((True∧(IntKind.wrap .i64 ((n:Int)-1))=((n-1:Nat):Int))∧IX ((n-1:Nat):Int) ws.length∧TT 3 ((True∧(IntKind.wrap .i64 ((n:Int)-2))=((n-2:Nat):Int))∧IX ((n-2:Nat):Int) ws.length∧TT 5 (((ws.getD (n-1) 0)==(ws.getD (n-2) 0))=true∧True))))))))))) (.u 9 (.l (ll ws n) 0 (fun i=>.b 12 (.w 6 [(4,(jK (ws.getD i 0)).O)]<|.u 20 (.w 5 [(1,.val (i6 ((i+1:Nat):Int)))]<|.e)) (.s 8 ((n:Int)<2) (.w 8 [(2,.val (dB true))]<|.e) (.w 8 [(2,.val (dB false)),(5,.val (i6 ((n-1:Nat):Int))),(10,.val (i6 ((n-2:Nat):Int)))]<|.e))))) Try.func85 rfl rfl rfl (by kernel_rfl) ?_
 refine tt ⟨(Jc (by omega)),tt ⟨rfl,(by omega),?_⟩⟩
 intro i J'
 have hi:=J'
 refine tt (cd (fun Ni=>?_) (fun Ni=>?_))
 · refine tt ⟨ix,tt ⟨(c9 (ws.getD i 0)),tt ⟨(xN (bU h (by omega))),tt ⟨w6,tt ⟨(i+1),rfl,(?_:(i+1)≤n),(?_:n-(i+1)<n-i)⟩⟩⟩⟩⟩
   · omega
   · omega
 · refine⟨fun MV=>?_,fun MV=>?_⟩
   · exact tt ⟨(vT MV),tt ⟨rfl,oK⟩⟩
   · refine tt ⟨(vF MV),tt ⟨⟨oK,(Bm (by omega) (by omega) (by omega))⟩,⟨ix,tt ⟨⟨oK,(Bm (by omega) (by omega) (by omega))⟩,⟨ix,tt ⟨?_,oK⟩⟩⟩⟩⟩⟩
     have h3:=(aW h).2.2
     simpa using(h3.resolve_left (by omega))
abbrev Il (op:Int) (ws:List Int) (k w:Int):Ct:=⟨82,[(i6 op),(LI ws),(.agg [(i6 k),(i6 w)])],false,(.agg [(i6 (b7 op ws k w)),(i6 0)])⟩
theorem sJ (op:Int) (ws:List Int) (k w:Int) (h:gQ op ws k w=true):CC (Il op ws k w):=by
 have hr:=sG h
 have hwl:ws.length≤3:=by
   have h1:=(jd h).1
   have h2:cy op≤3:=by unfold cy;split<;>(try split)<;>(try split)<;>(try split)<;>omega
   omega
 refine ai.vc (V:=TT 2 (((0≤(0:Int)∧0<(2:Int))∧True)∧TT 1 (((0≤(1:Int)∧1<(2:Int))∧True)∧TT 7 (CD (op=1) (TT 3 ((True∧(decide ((ws.length:Int)=0))=true)∧TT 1 (CC (jK w)∧TT 1 ((True∧(aD w)=true)∧TT 3 ((True∧(decide (k≥0))=true)∧TT 2 (CC (yX w)∧TT 2 ((decide (k≤(aB w)))=true∧TT 3 (CC (jK w)∧TT 1 ((!(aD w))=false∧TT 4 (((w=(b7 op ws k w)∧(0:Int)=0∧True))∧((True∧True∧True)))))))))))) (TT 2 (CD (op=2) (TT 1 (CC (sI ws 1)∧TT 1 (IX 0 ws.length∧TT 3 (CC (jK (ws.getD 0 0))∧TT 1 ((!(aD (ws.getD 0 0)))=false∧TT 4 ((((ws.getD 0 0)=(b7 op ws k w)∧(0:Int)=0∧True))∧((True∧True∧True)))))))) (TT 2 (CD (op=3) ((decide (op=3))=true∧TT 1 (CC (sI ws 2)∧TT 1 (IX 0 ws.length∧TT 3 (CC (jK (ws.getD 0 0))∧TT 1 ((!(aD (ws.getD 0 0)))=false∧TT 4 ((((ws.getD 0 0)=(b7 op ws k w)∧(0:Int)=0∧True))∧((True∧True∧True)))))))) (TT 2 (CD (op=4) ((decide (op=4))=true∧TT 1 (CC (sI ws 2)∧TT 1 (IX 0 ws.length∧TT 3 (CC (jK (ws.getD 0 0))∧TT 1 ((!(aD (ws.getD 0 0)))=false∧TT 4 ((((ws.getD 0 0)=(b7 op ws k w)∧(0:Int)=0∧True))∧((True∧True∧True)))))))) (TT 2 (CD (op=5) ((decide (op=5))=true∧TT 1 (CC (sI ws 2)∧TT 1 (IX 0 ws.length∧TT 3 (CC (jK (ws.getD 0 0))∧TT 1 ((!(aD (ws.getD 0 0)))=false∧TT 4 ((((ws.getD 0 0)=(b7 op ws k w)∧(0:Int)=0∧True))∧((True∧True∧True)))))))) (TT 2 (CD (op=6) ((decide (op=6))=true∧TT 1 (CC (sI ws 2)∧TT 1 (IX 0 ws.length∧TT 3 (CC (jK (ws.getD 0 0))∧TT 1 ((!(aD (ws.getD 0 0)))=false∧TT 4 ((((ws.getD 0 0)=(b7 op ws k w)∧(0:Int)=0∧True))∧((True∧True∧True)))))))) (TT 2 (CD (op=7) (TT 1 (CC (sI ws 2)∧TT 1 (IX 0 ws.length∧TT 3 (CC (jK (ws.getD 0 0))∧TT 1 ((!(aD (ws.getD 0 0)))=false∧TT 4 ((((ws.getD 0 0)=(b7 op ws k w)∧(0:Int)=0∧True))∧((True∧True∧True)))))))) (TT 2 (CD (op=8) ((decide (op=8))=true∧TT 1 (CC (sI ws 2)∧TT 2 (CC (jK 1)∧TT 1 ((!(aD 1))=false∧TT 4 ((((1:Int)=(b7 op ws k w)∧(0:Int)=0∧True))∧((True∧True∧True))))))) (TT 2 (CD (op=9) (TT 1 (CC (sI ws 2)∧TT 2 (CC (jK 1)∧TT 1 ((!(aD 1))=false∧TT 4 ((((1:Int)=(b7 op ws k w)∧(0:Int)=0∧True))∧((True∧True∧True))))))) (TT 2 (CD (op=10) (TT 1 (CC (sI ws 3)∧TT 2 (IX 0 ws.length∧TT 3 ((decide ((ws.getD 0 0)=1))=true∧TT 1 (IX 1 ws.length∧TT 3 (CC (jK (ws.getD 1 0))∧TT 1 ((!(aD (ws.getD 1 0)))=false∧TT 4 ((((ws.getD 1 0)=(b7 op ws k w)∧(0:Int)=0∧True))∧((True∧True∧True)))))))))) (TT 2 (CD (op=11) (TT 3 ((True∧(decide ((ws.length:Int)=2))=true)∧TT 1 (IX 0 ws.length∧TT 1 (CC (jK (ws.getD 0 0))∧TT 1 ((True∧(aD (ws.getD 0 0))=true)∧TT 1 (IX 1 ws.length∧TT 1 (CC (jK (ws.getD 1 0))∧TT 1 ((aD (ws.getD 1 0))=true∧TT 1 (IX 0 ws.length∧TT 2 (IX 1 ws.length∧TT 1 (W6 ((ws.getD 0 0)+(ws.getD 1 0))∧TT 2 (CC (jK ((ws.getD 0 0)+(ws.getD 1 0)))∧TT 1 ((!(aD ((ws.getD 0 0)+(ws.getD 1 0))))=false∧TT 4 (((((ws.getD 0 0)+(ws.getD 1 0))=(b7 op ws k w)∧(0:Int)=0∧True))∧((True∧True∧True)))))))))))))))) (TT 2 (CD (op=12) (TT 1 (CC (sI ws 1)∧TT 2 (CC (jK w)∧TT 1 ((True∧(aD w)=true)∧TT 3 ((True∧(decide (k≥0))=true)∧TT 2 (IX 0 ws.length∧TT 2 (W6 ((ws.getD 0 0)-w)∧TT 2 ((decide (k≤((ws.getD 0 0)-w)))=true∧TT 3 (CC (jK w)∧TT 1 ((!(aD w))=false∧TT 4 (((w=(b7 op ws k w)∧(0:Int)=0∧True))∧((True∧True∧True))))))))))))) (TT 2 ((decide (op=13))=true∧TT 1 (CC (sI ws 1)∧TT 3 (IX 0 ws.length∧TT 3 ((decide (w≥(ws.getD 0 0)))=true∧TT 3 (CC (jK w)∧TT 1 ((!(aD w))=false∧TT 4 (((w=(b7 op ws k w)∧(0:Int)=0∧True))∧((True∧True∧True)))))))))))))))))))))))))))))))))))) (.b 15 (.w 4 [(3,.val (dB true)),(5,(jK w).O),(7,.val (dB true)),(11,.val (dB true)),(14,(yX w).O)]<|.t 33 (.w 32 [(1,(jK w).O)]<|.u 131 (.e))) (.b 35 (.w 7 [(1,(sI ws 1).O)]<|.w 32 [(1,(jK (ws.getD 0 0)).O)]<|.u 131 (.e)) (.b 42 (.t 42 (.w 14 [(1,(sI ws 2).O)]<|.w 32 [(1,(jK (ws.getD 0 0)).O)]<|.u 131 (.e))) (.b 42 (.t 42 (.w 14 [(1,(sI ws 2).O)]<|.w 32 [(1,(jK (ws.getD 0 0)).O)]<|.u 131 (.e))) (.b 42 (.t 42 (.w 14 [(1,(sI ws 2).O)]<|.w 32 [(1,(jK (ws.getD 0 0)).O)]<|.u 131 (.e))) (.b 42 (.t 42 (.w 14 [(1,(sI ws 2).O)]<|.w 32 [(1,(jK (ws.getD 0 0)).O)]<|.u 131 (.e))) (.b 42 (.w 14 [(1,(sI ws 2).O)]<|.w 32 [(1,(jK (ws.getD 0 0)).O)]<|.u 131 (.e)) (.b 53 (.t 53 (.w 18 [(1,(sI ws 2).O)]<|.w 32 [(1,(jK 1).O)]<|.u 131 (.e))) (.b 53 (.w 18 [(1,(sI ws 2).O)]<|.w 32 [(1,(jK 1).O)]<|.u 131 (.e)) (.b 58 (.w 21 [(1,(sI ws 3).O)]<|.t 67 (.w 32 [(1,(jK (ws.getD 1 0)).O)]<|.u 131 (.e))) (.b 71 (.w 24 [(3,.val (dB true)),(7,(jK (ws.getD 0 0)).O),(9,.val (dB true)),(13,(jK (ws.getD 1 0)).O)]<|.t 87 (.w 25 [(6,.val (i6 ((ws.getD 0 0)+(ws.getD 1 0))))]<|.w 32 [(1,(jK ((ws.getD 0 0)+(ws.getD 1 0))).O)]<|.u 131 (.e))) (.b 95 (.w 27 [(1,(sI ws 1).O),(4,(jK w).O),(6,.val (dB true)),(10,.val (dB true)),(16,.val (i6 ((ws.getD 0 0)-w)))]<|.t 115 (.w 32 [(1,(jK w).O)]<|.u 131 (.e))) (.t 117 (.w 30 [(1,(sI ws 1).O)]<|.t 127 (.w 32 [(1,(jK w).O)]<|.u 131 (.e)))))))))))))))) Try.func82 rfl rfl rfl (by kernel_rfl) ?_
 refine tt ⟨⟨by omega,oK⟩,tt ⟨⟨by omega,oK⟩,tt (cd (fun Ny=>?_) (fun Ny=>?_))⟩⟩
 · obtain⟨q1,q2,q3,q4⟩:=BV.1 (by rw[Ny]at h;exact h)
   have hv:dW op ws k w=w:=(by rw[Ny];first | done | exact Ec q2 q3 q4)
   have hw:=(eP h hv).1
   have Nd:=q2
   refine tt ⟨(vT (by omega)),tt ⟨(c9 w),tt ⟨(bT q2),tt ⟨(vT (by omega)),tt ⟨(gN w),tt ⟨(KO (by omega)),tt ⟨(c9 w),tt ⟨(xN Nd),tt ⟨⟨?_,rfl,oK⟩,⟨oK,oK,oK⟩⟩⟩⟩⟩⟩⟩⟩⟩⟩
   exact hw
 · refine tt (cd (fun Nz=>?_) (fun Nz=>?_))
   · have hq:=FR.1 (by rw[Nz]at h;exact h)
     have hv:dW op ws k w=ws.getD 0 0:=(by rw[Nz];first | done | exact rfl)
     have hw:=(eP h hv).1
     have Nd:=bU hq (i:=0) (by omega)
     have OS:=(aW hq).1
     refine tt ⟨(cL ws 1 hq om),tt ⟨ix,tt ⟨(c9 (ws.getD 0 0)),tt ⟨(xN Nd),tt ⟨⟨?_,rfl,oK⟩,⟨oK,oK,oK⟩⟩⟩⟩⟩⟩
     exact hw
   · refine tt (cd (fun ND=>?_) (fun ND=>?_))
     · have hq:=(e7 (by omega)).1 (h)
       have hv:dW op ws k w=ws.getD 0 0:=(by first | done | exact nZ (by omega) hq)
       have hw:=(eP h hv).1
       have Nd:=bU hq (i:=0) (by omega)
       have OS:=(aW hq).1
       refine⟨(KO ND),tt ⟨(cL ws 2 hq om),tt ⟨ix,tt ⟨(c9 (ws.getD 0 0)),tt ⟨(xN Nd),tt ⟨⟨?_,rfl,oK⟩,⟨oK,oK,oK⟩⟩⟩⟩⟩⟩⟩
       exact hw
     · refine tt (cd (fun ND=>?_) (fun ND=>?_))
       · have hq:=(e7 (by omega)).1 (h)
         have hv:dW op ws k w=ws.getD 0 0:=(by first | done | exact nZ (by omega) hq)
         have hw:=(eP h hv).1
         have Nd:=bU hq (i:=0) (by omega)
         have OS:=(aW hq).1
         refine⟨(KO ND),tt ⟨(cL ws 2 hq om),tt ⟨ix,tt ⟨(c9 (ws.getD 0 0)),tt ⟨(xN Nd),tt ⟨⟨?_,rfl,oK⟩,⟨oK,oK,oK⟩⟩⟩⟩⟩⟩⟩
         exact hw
       · refine tt (cd (fun ND=>?_) (fun ND=>?_))
         · have hq:=(e7 (by omega)).1 (h)
           have hv:dW op ws k w=ws.getD 0 0:=(by first | done | exact nZ (by omega) hq)
           have hw:=(eP h hv).1
           have Nd:=bU hq (i:=0) (by omega)
           have OS:=(aW hq).1
           refine⟨(KO ND),tt ⟨(cL ws 2 hq om),tt ⟨ix,tt ⟨(c9 (ws.getD 0 0)),tt ⟨(xN Nd),tt ⟨⟨?_,rfl,oK⟩,⟨oK,oK,oK⟩⟩⟩⟩⟩⟩⟩
           exact hw
         · refine tt (cd (fun ND=>?_) (fun ND=>?_))
           · have hq:=(e7 (by omega)).1 (h)
             have hv:dW op ws k w=ws.getD 0 0:=(by first | done | exact nZ (by omega) hq)
             have hw:=(eP h hv).1
             have Nd:=bU hq (i:=0) (by omega)
             have OS:=(aW hq).1
             refine⟨(KO ND),tt ⟨(cL ws 2 hq om),tt ⟨ix,tt ⟨(c9 (ws.getD 0 0)),tt ⟨(xN Nd),tt ⟨⟨?_,rfl,oK⟩,⟨oK,oK,oK⟩⟩⟩⟩⟩⟩⟩
             exact hw
           · refine tt (cd (fun ND=>?_) (fun ND=>?_))
             · have hq:=(e7 (by omega)).1 (h)
               have hv:dW op ws k w=ws.getD 0 0:=(by first | done | exact nZ (by omega) hq)
               have hw:=(eP h hv).1
               have Nd:=bU hq (i:=0) (by omega)
               have OS:=(aW hq).1
               refine tt ⟨(cL ws 2 hq om),tt ⟨ix,tt ⟨(c9 (ws.getD 0 0)),tt ⟨(xN Nd),tt ⟨⟨?_,rfl,oK⟩,⟨oK,oK,oK⟩⟩⟩⟩⟩⟩
               exact hw
             · refine tt (cd (fun Sk=>?_) (fun Sk=>?_))
               · have hq:=(qN (by omega)).1 (h)
                 have hv:dW op ws k w=1:=(by first | done | exact vR (by omega) hq)
                 have hw:=(eP h hv).1
                 have Nd:=(by decide:aD 1=true)
                 have OS:=(aW hq).1
                 refine⟨(KO Sk),tt ⟨(cL ws 2 hq om),tt ⟨(c9 1),tt ⟨(xN Nd),tt ⟨⟨?_,rfl,oK⟩,⟨oK,oK,oK⟩⟩⟩⟩⟩⟩
                 exact hw
               · refine tt (cd (fun Sk=>?_) (fun Sk=>?_))
                 · have hq:=(qN (by omega)).1 (h)
                   have hv:dW op ws k w=1:=(by first | done | exact vR (by omega) hq)
                   have hw:=(eP h hv).1
                   have Nd:=(by decide:aD 1=true)
                   have OS:=(aW hq).1
                   refine tt ⟨(cL ws 2 hq om),tt ⟨(c9 1),tt ⟨(xN Nd),tt ⟨⟨?_,rfl,oK⟩,⟨oK,oK,oK⟩⟩⟩⟩⟩
                   exact hw
                 · refine tt (cd (fun Qj=>?_) (fun Qj=>?_))
                   · obtain⟨hq,q2⟩:=FS.1 (by rw[Qj]at h;exact h)
                     have hv:dW op ws k w=ws.getD 1 0:=(by rw[Qj];first | done | exact AC hq q2)
                     have hw:=(eP h hv).1
                     have Nd:=bU hq (i:=1) (by omega)
                     have OS:=(aW hq).1
                     refine tt ⟨(cL ws 3 hq om),tt ⟨ix,tt ⟨(KO (by omega)),tt ⟨ix,tt ⟨(c9 (ws.getD 1 0)),tt ⟨(xN Nd),tt ⟨⟨?_,rfl,oK⟩,⟨oK,oK,oK⟩⟩⟩⟩⟩⟩⟩⟩
                     exact hw
                   · refine tt (cd (fun Pn=>?_) (fun Pn=>?_))
                     · obtain⟨q1,q2,q3,q4⟩:=FT.1 (by rw[Pn]at h;exact h)
                       have hv:dW op ws k w=ws.getD 0 0+ws.getD 1 0:=(by rw[Pn];first | done | exact rfl)
                       have hw:=(eP h hv).1
                       have Nd:=q4
                       have f0:=aJ.1 q2;have f1:=aJ.1 q3
                       refine tt ⟨(vT (by omega)),tt ⟨ix,tt ⟨(c9 (ws.getD 0 0)),tt ⟨(bT q2),tt ⟨ix,tt ⟨(c9 (ws.getD 1 0)),tt ⟨(Kf q3),tt ⟨ix,tt ⟨ix,tt ⟨w6,tt ⟨(c9 ((ws.getD 0 0)+(ws.getD 1 0))),tt ⟨(xN Nd),tt ⟨⟨?_,rfl,oK⟩,⟨oK,oK,oK⟩⟩⟩⟩⟩⟩⟩⟩⟩⟩⟩⟩⟩⟩
                       exact hw
                     · refine tt (cd (fun RE=>?_) (fun RE=>?_))
                       · obtain⟨hq,q2,q3,q4⟩:=BW.1 (by rw[RE]at h;exact h)
                         have hv:dW op ws k w=w:=(by rw[RE];first | done | exact uD q2 q3 q4)
                         have hw:=(eP h hv).1
                         have Nd:=q2
                         have OS:=(aW hq).1
                         have f0:=aJ.1 (bU hq (i:=0) (by omega));have f1:=aJ.1 q2
                         refine tt ⟨(cL ws 1 hq om),tt ⟨(c9 w),tt ⟨(bT q2),tt ⟨(vT (by omega)),tt ⟨ix,tt ⟨w6,tt ⟨(KO (by omega)),tt ⟨(c9 w),tt ⟨(xN Nd),tt ⟨⟨?_,rfl,oK⟩,⟨oK,oK,oK⟩⟩⟩⟩⟩⟩⟩⟩⟩⟩⟩
                         exact hw
                       · refine tt ⟨(KO (by omega)),?_⟩
                         have SN:op=13:=by
                           rcases hr with g | g | g | g | g | g | g | g | g | g | g | g | g<;>first | exact g | contradiction
                         obtain⟨hq,q2,q3⟩:=FU.1 (by rw[SN]at h;exact h)
                         have hv:dW op ws k w=w:=(by rw[SN];first | done | exact AD q2)
                         have hw:=(eP h hv).1
                         have Nd:=q3
                         have OS:=(aW hq).1
                         refine tt ⟨(cL ws 1 hq om),tt ⟨ix,tt ⟨(KO (by omega)),tt ⟨(c9 w),tt ⟨(xN Nd),tt ⟨⟨?_,rfl,oK⟩,⟨oK,oK,oK⟩⟩⟩⟩⟩⟩⟩
                         exact hw
abbrev Im (op:Int) (ws xs:List Int) (k w w1:Int):Ct:=⟨86,[(i6 op),(.agg [(i6 (ws.getD 0 0)),(i6 w1)]),(LI xs)],false,(i6 (wc op ws xs k w))⟩
set_option maxHeartbeats 1600000 in
theorem xo (op:Int) (ws xs:List Int) (k w w1:Int) (h:gQ op ws k w=true) (hx:xs.length=ws.length) (NN:Bs ws xs=true) (hn:op≠1∧op≠12∧op≠13) (hw:op=11→w1=ws.getD 1 0):CC (Im op ws xs k w w1):=by
 have hr:=sG h
 obtain⟨hl,hf,-⟩:=jd h
 have f0:0<ws.length→1≤ws.getD 0 0∧ws.getD 0 0≤8:=fun h=>dt hf h
 have f1:1<ws.length→1≤ws.getD 1 0∧ws.getD 1 0≤8:=fun h=>dt hf h
 have f2:2<ws.length→1≤ws.getD 2 0∧ws.getD 2 0≤8:=fun h=>dt hf h
 have a0:0<ws.length→0≤xs.getD 0 0∧xs.getD 0 0≤aB (ws.getD 0 0):=fun h=>gm NN (by omega)
 have a1:1<ws.length→0≤xs.getD 1 0∧xs.getD 1 0≤aB (ws.getD 1 0):=fun h=>gm NN (by omega)
 have a2:2<ws.length→0≤xs.getD 2 0∧xs.getD 2 0≤aB (ws.getD 2 0):=fun h=>gm NN (by omega)
 have m0:0<ws.length→0≤aB (ws.getD 0 0)∧aB (ws.getD 0 0)≤255:=fun h=>cN (by have:=f0 h;omega) (f0 h).2
 have m1:1<ws.length→0≤aB (ws.getD 1 0)∧aB (ws.getD 1 0)≤255:=fun h=>cN (by have:=f1 h;omega) (f1 h).2
 have m2:2<ws.length→0≤aB (ws.getD 2 0)∧aB (ws.getD 2 0)≤255:=fun h=>cN (by have:=f2 h;omega) (f2 h).2
 refine ai.vc (V:=TT 2 (((0≤(0:Int)∧0<(2:Int))∧True)∧TT 1 (CC (yX (ws.getD 0 0))∧TT 4 (CD (op=2) (TT 2 (IX 0 xs.length∧TT 1 (W6 ((aB (ws.getD 0 0))-(xs.getD 0 0))∧TT 2 (((aB (ws.getD 0 0))-(xs.getD 0 0))=(wc op ws xs k w)∧True)))) (TT 2 (CD (op=3) (TT 1 (IX 0 xs.length∧TT 2 (IX 1 xs.length∧TT 1 ((True∧(IntKind.wrap .i64 (BitVec.ofInt (IntKind.i64).bits (xs.getD 0 0) &&& BitVec.ofInt (IntKind.i64).bits (xs.getD 1 0)).toNat)=(((xs.getD 0 0).toNat &&& (xs.getD 1 0).toNat:Nat):Int))∧TT 2 ((((xs.getD 0 0).toNat &&& (xs.getD 1 0).toNat:Nat):Int)=(wc op ws xs k w)∧True))))) (TT 2 (CD (op=4) (TT 1 (IX 0 xs.length∧TT 2 (IX 1 xs.length∧TT 1 ((True∧(IntKind.wrap .i64 (BitVec.ofInt (IntKind.i64).bits (xs.getD 0 0) ||| BitVec.ofInt (IntKind.i64).bits (xs.getD 1 0)).toNat)=(((xs.getD 0 0).toNat ||| (xs.getD 1 0).toNat:Nat):Int))∧TT 2 ((((xs.getD 0 0).toNat ||| (xs.getD 1 0).toNat:Nat):Int)=(wc op ws xs k w)∧True))))) (TT 2 (CD (op=5) (TT 1 (IX 0 xs.length∧TT 2 (IX 1 xs.length∧TT 1 ((True∧(IntKind.wrap .i64 (BitVec.ofInt (IntKind.i64).bits (xs.getD 0 0) ^^^ BitVec.ofInt (IntKind.i64).bits (xs.getD 1 0)).toNat)=(((xs.getD 0 0).toNat ^^^ (xs.getD 1 0).toNat:Nat):Int))∧TT 2 ((((xs.getD 0 0).toNat ^^^ (xs.getD 1 0).toNat:Nat):Int)=(wc op ws xs k w)∧True))))) (TT 2 (CD (op=6) (TT 1 (IX 0 xs.length∧TT 2 (IX 1 xs.length∧TT 1 (W6 ((xs.getD 0 0)+(xs.getD 1 0))∧TT 1 (W6 ((aB (ws.getD 0 0))+1)∧(((aB (ws.getD 0 0))+1)≠0∧(Int.tmod ((xs.getD 0 0)+(xs.getD 1 0)) ((aB (ws.getD 0 0))+1))=((xs.getD 0 0+xs.getD 1 0)%2^(ws.getD 0 0).toNat))∧TT 2 (((xs.getD 0 0+xs.getD 1 0)%2^(ws.getD 0 0).toNat)=(wc op ws xs k w)∧True)))))) (TT 2 (CD (op=7) (TT 1 (IX 0 xs.length∧TT 2 (IX 1 xs.length∧TT 1 (W6 ((xs.getD 0 0)-(xs.getD 1 0))∧TT 1 (W6 (((xs.getD 0 0)-(xs.getD 1 0))+(aB (ws.getD 0 0)))∧W6 ((((xs.getD 0 0)-(xs.getD 1 0))+(aB (ws.getD 0 0)))+1)∧TT 1 (W6 ((aB (ws.getD 0 0))+1)∧(((aB (ws.getD 0 0))+1)≠0∧(Int.tmod ((((xs.getD 0 0)-(xs.getD 1 0))+(aB (ws.getD 0 0)))+1) ((aB (ws.getD 0 0))+1))=((xs.getD 0 0-xs.getD 1 0)%2^(ws.getD 0 0).toNat))∧TT 2 (((xs.getD 0 0-xs.getD 1 0)%2^(ws.getD 0 0).toNat)=(wc op ws xs k w)∧True))))))) (TT 2 (CD (op=8) (TT 1 (IX 0 xs.length∧TT 2 (IX 1 xs.length∧TT 2 (CC (Ik ((xs.getD 0 0)==(xs.getD 1 0)))∧TT 2 ((if ((xs.getD 0 0)==(xs.getD 1 0))=true then 1 else 0)=(wc op ws xs k w)∧True))))) (TT 2 (CD (op=9) (TT 1 (IX 0 xs.length∧TT 2 (IX 1 xs.length∧TT 2 (CC (Ik (decide ((xs.getD 0 0)<(xs.getD 1 0))))∧TT 2 ((if (decide ((xs.getD 0 0)<(xs.getD 1 0)))=true then 1 else 0)=(wc op ws xs k w)∧True))))) (TT 2 (CD (op=10) (TT 1 (IX 0 xs.length∧TT 2 (CD ((xs.getD 0 0)=1) (TT 1 (IX 1 xs.length∧TT 3 ((xs.getD 1 0)=(wc op ws xs k w)∧True))) (TT 1 (IX 2 xs.length∧TT 3 ((xs.getD 2 0)=(wc op ws xs k w)∧True)))))) (TT 1 (IX 0 xs.length∧TT 1 (((0≤(1:Int)∧1<(2:Int))∧True)∧TT 1 ((True∧(IntKind.wrap .u64 w1)=(ws.getD 1 0))∧(0≤(ws.getD 1 0)∧(IntKind.wrap .i64 ((xs.getD 0 0)*2^min ((ws.getD 1 0).toNat) 64))=(((xs.getD 0 0).toNat*2^(ws.getD 1 0).toNat:Nat):Int))∧TT 1 (IX 1 xs.length∧TT 1 ((True∧(IntKind.wrap .i64 (BitVec.ofInt (IntKind.i64).bits (((xs.getD 0 0).toNat*2^(ws.getD 1 0).toNat:Nat):Int) ||| BitVec.ofInt (IntKind.i64).bits (xs.getD 1 0)).toNat)=(((xs.getD 0 0).toNat*2^(ws.getD 1 0).toNat ||| (xs.getD 1 0).toNat:Nat):Int))∧TT 2 ((((xs.getD 0 0).toNat*2^(ws.getD 1 0).toNat ||| (xs.getD 1 0).toNat:Nat):Int)=(wc op ws xs k w)∧True))))))))))))))))))))))))))) (.w 1 [(2,(yX (ws.getD 0 0)).O)]<|.b 12 (.w 4 [(4,.val (i6 ((aB (ws.getD 0 0))-(xs.getD 0 0))))]<|.e) (.b 19 (.w 6 [(6,.val (i6 (((xs.getD 0 0).toNat &&& (xs.getD 1 0).toNat:Nat):Int)))]<|.e) (.b 28 (.w 8 [(6,.val (i6 (((xs.getD 0 0).toNat ||| (xs.getD 1 0).toNat:Nat):Int)))]<|.e) (.b 37 (.w 10 [(6,.val (i6 (((xs.getD 0 0).toNat ^^^ (xs.getD 1 0).toNat:Nat):Int)))]<|.e) (.b 46 (.w 12 [(6,.val (i6 ((xs.getD 0 0)+(xs.getD 1 0)))),(8,.val (i6 ((aB (ws.getD 0 0))+1))),(9,.val (i6 ((xs.getD 0 0+xs.getD 1 0)%2^(ws.getD 0 0).toNat)))]<|.e) (.b 58 (.w 14 [(6,.val (i6 ((xs.getD 0 0)-(xs.getD 1 0)))),(8,.val (i6 (((xs.getD 0 0)-(xs.getD 1 0))+(aB (ws.getD 0 0))))),(9,.val (i6 ((((xs.getD 0 0)-(xs.getD 1 0))+(aB (ws.getD 0 0)))+1))),(11,.val (i6 ((aB (ws.getD 0 0))+1))),(12,.val (i6 ((xs.getD 0 0-xs.getD 1 0)%2^(ws.getD 0 0).toNat)))]<|.e) (.b 73 (.w 16 [(7,(Ik ((xs.getD 0 0)==(xs.getD 1 0))).O)]<|.e) (.b 83 (.w 18 [(7,(Ik (decide ((xs.getD 0 0)<(xs.getD 1 0)))).O)]<|.e) (.b 93 (.b 98 (.e) (.e)) (.w 23 [(5,.val (dI .u64 (ws.getD 1 0))),(6,.val (i6 (((xs.getD 0 0).toNat*2^(ws.getD 1 0).toNat:Nat):Int))),(10,.val (i6 (((xs.getD 0 0).toNat*2^(ws.getD 1 0).toNat ||| (xs.getD 1 0).toNat:Nat):Int)))]<|.e)))))))))) Try.func86 rfl rfl rfl (by kernel_rfl) ?_
 refine tt ⟨⟨by omega,oK⟩,tt ⟨(gN (ws.getD 0 0)),tt (cd (fun Ni=>?_) (fun Ni=>?_))⟩⟩
 · have OB:(ws.length:Int)=1:=by rw[Ni]at hl;exact hl
   have b0:=f0 (by omega)
   have c0:=a0 (by omega)
   have d0:=m0 (by omega)
   refine tt ⟨ix,tt ⟨w6,tt ⟨?_,oK⟩⟩⟩
   rw[Ni];exact FV (by omega) c0
 · refine tt (cd (fun RA=>?_) (fun RA=>?_))
   · have OB:(ws.length:Int)=2:=by rw[RA]at hl;exact hl
     have b0:=f0 (by omega)
     have c0:=a0 (by omega)
     have d0:=m0 (by omega)
     have b1:=f1 (by omega)
     have c1:=a1 (by omega)
     have d1:=m1 (by omega)
     have NG:=eO ((e7 (by omega)).1 h)
     have Q0:aB (ws.getD 1 0)=aB (ws.getD 0 0):=by rw[NG]
     refine tt ⟨ix,tt ⟨ix,tt ⟨⟨oK,(Bu (by omega) (by omega) (by omega) (by omega))⟩,tt ⟨?_,oK⟩⟩⟩⟩
     rw[RA];rfl
   · refine tt (cd (fun NP=>?_) (fun NP=>?_))
     · have OB:(ws.length:Int)=2:=by rw[NP]at hl;exact hl
       have b0:=f0 (by omega)
       have c0:=a0 (by omega)
       have d0:=m0 (by omega)
       have b1:=f1 (by omega)
       have c1:=a1 (by omega)
       have d1:=m1 (by omega)
       have NG:=eO ((e7 (by omega)).1 h)
       have Q0:aB (ws.getD 1 0)=aB (ws.getD 0 0):=by rw[NG]
       refine tt ⟨ix,tt ⟨ix,tt ⟨⟨oK,(Dl (by omega) (by omega) (by omega) (by omega))⟩,tt ⟨?_,oK⟩⟩⟩⟩
       rw[NP];rfl
     · refine tt (cd (fun O7=>?_) (fun O7=>?_))
       · have OB:(ws.length:Int)=2:=by rw[O7]at hl;exact hl
         have b0:=f0 (by omega)
         have c0:=a0 (by omega)
         have d0:=m0 (by omega)
         have b1:=f1 (by omega)
         have c1:=a1 (by omega)
         have d1:=m1 (by omega)
         have NG:=eO ((e7 (by omega)).1 h)
         have Q0:aB (ws.getD 1 0)=aB (ws.getD 0 0):=by rw[NG]
         refine tt ⟨ix,tt ⟨ix,tt ⟨⟨oK,(Bt (by omega) (by omega) (by omega) (by omega))⟩,tt ⟨?_,oK⟩⟩⟩⟩
         rw[O7];rfl
       · refine tt (cd (fun N4=>?_) (fun N4=>?_))
         · have OB:(ws.length:Int)=2:=by rw[N4]at hl;exact hl
           have b0:=f0 (by omega)
           have c0:=a0 (by omega)
           have d0:=m0 (by omega)
           have b1:=f1 (by omega)
           have c1:=a1 (by omega)
           have d1:=m1 (by omega)
           have NG:=eO ((e7 (by omega)).1 h)
           have Q0:aB (ws.getD 1 0)=aB (ws.getD 0 0):=by rw[NG]
           refine tt ⟨ix,tt ⟨ix,tt ⟨w6,tt ⟨w6,⟨⟨om,(xm (by omega) (by omega))⟩,tt ⟨?_,oK⟩⟩⟩⟩⟩⟩
           rw[N4];rfl
         · refine tt (cd (fun Qj=>?_) (fun Qj=>?_))
           · have OB:(ws.length:Int)=2:=by rw[Qj]at hl;exact hl
             have b0:=f0 (by omega)
             have c0:=a0 (by omega)
             have d0:=m0 (by omega)
             have b1:=f1 (by omega)
             have c1:=a1 (by omega)
             have d1:=m1 (by omega)
             have NG:=eO ((e7 (by omega)).1 h)
             have Q0:aB (ws.getD 1 0)=aB (ws.getD 0 0):=by rw[NG]
             refine tt ⟨ix,tt ⟨ix,tt ⟨w6,tt ⟨w6,⟨w6,tt ⟨w6,⟨⟨om,(FW (by omega) (by omega))⟩,tt ⟨?_,oK⟩⟩⟩⟩⟩⟩⟩⟩
             rw[Qj];rfl
           · refine tt (cd (fun hc73=>?_) (fun hc73=>?_))
             · have OB:(ws.length:Int)=2:=by rw[hc73]at hl;exact hl
               have b0:=f0 (by omega)
               have c0:=a0 (by omega)
               have d0:=m0 (by omega)
               have b1:=f1 (by omega)
               have c1:=a1 (by omega)
               have d1:=m1 (by omega)
               have NG:=eO ((qN (by omega)).1 h)
               have Q0:aB (ws.getD 1 0)=aB (ws.getD 0 0):=by rw[NG]
               refine tt ⟨ix,tt ⟨ix,tt ⟨(xn ((xs.getD 0 0)==(xs.getD 1 0))),tt ⟨?_,oK⟩⟩⟩⟩
               rw[hc73]
               show _=(if xs.getD 0 0=xs.getD 1 0 then (1:Int)else 0)
               by_cases hq:xs.getD 0 0=xs.getD 1 0
               · rw[KT hq,KT (by simpa using hq)]
               · rw[KK hq,KK (by simpa using hq)]
             · refine tt (cd (fun hc83=>?_) (fun hc83=>?_))
               · have OB:(ws.length:Int)=2:=by rw[hc83]at hl;exact hl
                 have b0:=f0 (by omega)
                 have c0:=a0 (by omega)
                 have d0:=m0 (by omega)
                 have b1:=f1 (by omega)
                 have c1:=a1 (by omega)
                 have d1:=m1 (by omega)
                 have NG:=eO ((qN (by omega)).1 h)
                 have Q0:aB (ws.getD 1 0)=aB (ws.getD 0 0):=by rw[NG]
                 refine tt ⟨ix,tt ⟨ix,tt ⟨(xn (decide ((xs.getD 0 0)<(xs.getD 1 0)))),tt ⟨?_,oK⟩⟩⟩⟩
                 rw[hc83]
                 show _=(if xs.getD 0 0<xs.getD 1 0 then (1:Int)else 0)
                 by_cases hq:xs.getD 0 0<xs.getD 1 0
                 · rw[KT hq,KT (by simpa using hq)]
                 · rw[KK hq,KK (by simpa using hq)]
               · refine tt (cd (fun PM=>?_) (fun PM=>?_))
                 · have OB:(ws.length:Int)=3:=by rw[PM]at hl;exact hl
                   have b0:=f0 (by omega)
                   have c0:=a0 (by omega)
                   have d0:=m0 (by omega)
                   have b1:=f1 (by omega)
                   have c1:=a1 (by omega)
                   have d1:=m1 (by omega)
                   have OP:=zX (by rw[PM]at h;exact h)
                   have hm1:aB (ws.getD 0 0)=1:=by rw[OP];decide
                   refine tt ⟨ix,tt (cd (fun Sj=>?_) (fun Sj=>?_))⟩
                   · refine tt ⟨ix,tt ⟨?_,oK⟩⟩
                     rw[PM]
                     show _=xs.getD (2-xs.getD 0 0).toNat 0
                     rw[Sj]
                     rfl
                   · refine tt ⟨ix,tt ⟨?_,oK⟩⟩
                     rw[PM]
                     show _=xs.getD (2-xs.getD 0 0).toNat 0
                     rw[show xs.getD 0 0=0 by omega]
                     rfl
                 · have N0:op=11:=by
                     have hn1:=hn.1;have hn2:=hn.2.1;have hn3:=hn.2.2
                     rcases hr with g | g | g | g | g | g | g | g | g | g | g | g | g<;>first | exact g | contradiction
                   have OB:(ws.length:Int)=2:=by rw[N0]at hl;exact hl
                   have b0:=f0 (by omega)
                   have c0:=a0 (by omega)
                   have d0:=m0 (by omega)
                   have b1:=f1 (by omega)
                   have c1:=a1 (by omega)
                   have d1:=m1 (by omega)
                   have Q0:=hw N0
                   refine tt ⟨ix,tt ⟨⟨by omega,oK⟩,tt ⟨⟨oK,(by rw[Q0];exact CW rfl (by omega) (by omega))⟩,⟨⟨(by omega),(Fg (by omega) (by omega))⟩,tt ⟨ix,tt ⟨⟨oK,(Fh (by omega) (by omega) (by omega))⟩,tt ⟨?_,oK⟩⟩⟩⟩⟩⟩⟩
                   rw[N0];rfl
abbrev Jx (op:Int) (ws xs MU:List Int):Ct:=⟨83,[(i6 op),(LI ws),(.agg [(LI xs),(LI MU)])],false,(.agg [(i6 (eb op ws xs MU)),(i6 0)])⟩
abbrev jm (op:Int) (ws:List Int) (xs:List Int) (MU:List Int):Lp (Nat):=il [0,1,6,7,8,10] 19 (fun (i:Nat)=>⟨[(0,(i6 op)),(1,(LI ws)),(6,(.ptr 1 0 0 0)),(7,(LI xs)),(8,(LI MU)),(10,(i6 (i:Int)))],[(.var 195 [(LI xs),(LI MU)]),(.var 192 [(i6 0),(i6 0)]),.dead,.dead,.dead,.dead,.dead,.dead,.dead,.dead,.dead,.dead,.dead,.dead,.dead,.dead,.dead,.dead,(.var 192 [(i6 (b7 op ws (MU.getD 0 0) (MU.getD 1 0))),(i6 0)])]⟩) (fun (i:Nat)=>i≤xs.length) (fun (i:Nat)=>xs.length-i)
set_option maxHeartbeats 1600000 in
theorem yY (op:Int) (ws xs MU:List Int) (h:gQ op ws (MU.getD 0 0) (MU.getD 1 0)=true) (hx:xs.length=ws.length) (NN:Bs ws xs=true) (hn:MU.length=2):CC (Jx op ws xs MU):=by
 have hr:=sG h
 obtain⟨hl,hf,-⟩:=jd h
 have hwl:ws.length≤3:=by
   have h2:cy op≤3:=by unfold cy;split<;>(try split)<;>(try split)<;>(try split)<;>omega
   omega
 have f0:0<ws.length→1≤ws.getD 0 0∧ws.getD 0 0≤8:=fun h=>dt hf h
 have f1:1<ws.length→1≤ws.getD 1 0∧ws.getD 1 0≤8:=fun h=>dt hf h
 have f2:2<ws.length→1≤ws.getD 2 0∧ws.getD 2 0≤8:=fun h=>dt hf h
 have a0:0<ws.length→0≤xs.getD 0 0∧xs.getD 0 0≤aB (ws.getD 0 0):=fun h=>gm NN (by omega)
 have a1:1<ws.length→0≤xs.getD 1 0∧xs.getD 1 0≤aB (ws.getD 1 0):=fun h=>gm NN (by omega)
 have a2:2<ws.length→0≤xs.getD 2 0∧xs.getD 2 0≤aB (ws.getD 2 0):=fun h=>gm NN (by omega)
 have m0:0<ws.length→0≤aB (ws.getD 0 0)∧aB (ws.getD 0 0)≤255:=fun h=>cN (by have:=f0 h;omega) (f0 h).2
 have m1:1<ws.length→0≤aB (ws.getD 1 0)∧aB (ws.getD 1 0)≤255:=fun h=>cN (by have:=f1 h;omega) (f1 h).2
 have m2:2<ws.length→0≤aB (ws.getD 2 0)∧aB (ws.getD 2 0)≤255:=fun h=>cN (by have:=f2 h;omega) (f2 h).2
 refine ai.vc (V:=TT 2 (((0≤(0:Int)∧0<(2:Int))∧True)∧TT 1 (((0≤(1:Int)∧1<(2:Int))∧True)∧TT 6 ((True∧(!decide ((MU.length:Int)=2))=false)∧TT 6 ((!decide ((xs.length:Int)=(ws.length:Int)))=false∧TT 3 (IX 0 MU.length∧TT 2 (IX 1 MU.length∧TT 2 (CC (Il op ws (MU.getD 0 0) (MU.getD 1 0))∧TT 6 (GO (jm op ws xs MU) 0 (∀i,(jm op ws xs MU).inv i→TT 4 (CD ((i:Int)<(xs.length:Int)) (TT 2 (IX (i:Int) xs.length∧TT 2 ((True∧(decide ((xs.getD i 0)<0))=false)∧TT 2 (IX (i:Int) xs.length∧TT 3 (IX (i:Int) ws.length∧TT 1 (CC (yX (ws.getD i 0))∧TT 2 ((decide ((xs.getD i 0)>(aB (ws.getD i 0))))=false∧TT 1 (W6 ((i+1:Nat):Int)∧TT 1 (AG (jm op ws xs MU) i (i+1)))))))))) (TT 3 (CD (op=1) (TT 1 (IX 0 MU.length∧TT 4 ((((MU.getD 0 0)=(eb op ws xs MU)∧(0:Int)=0∧True))∧((True∧True∧True))))) (TT 2 (CD (op=12) (TT 1 (IX 0 xs.length∧TT 2 (IX 0 MU.length∧TT 1 ((True∧(IntKind.wrap .u64 (MU.getD 0 0))=(MU.getD 0 0))∧(0≤(MU.getD 0 0)∧(Int.fdiv (xs.getD 0 0) (2^min ((MU.getD 0 0).toNat) 64))=(xs.getD 0 0 / 2^(MU.getD 0 0).toNat))∧TT 1 (IX 1 MU.length∧TT 1 (CC (yX (MU.getD 1 0))∧(True∧(IntKind.wrap .i64 (BitVec.ofInt (IntKind.i64).bits (xs.getD 0 0 / 2^(MU.getD 0 0).toNat) &&& BitVec.ofInt (IntKind.i64).bits (aB (MU.getD 1 0))).toNat)=((xs.getD 0 0 / 2^(MU.getD 0 0).toNat)%2^(MU.getD 1 0).toNat))∧TT 3 (((((xs.getD 0 0 / 2^(MU.getD 0 0).toNat)%2^(MU.getD 1 0).toNat)=(eb op ws xs MU)∧(0:Int)=0∧True))∧((True∧True∧True))))))))) (TT 2 (CD (op=13) (TT 1 (IX 0 xs.length∧TT 4 ((((xs.getD 0 0)=(eb op ws xs MU)∧(0:Int)=0∧True))∧((True∧True∧True))))) (TT 2 (CD (op=11) (TT 2 (IX 0 ws.length∧TT 2 (IX 1 ws.length∧TT 3 (CC (Im op ws xs (MU.getD 0 0) (MU.getD 1 0) (ws.getD 1 0))∧TT 3 ((((wc op ws xs (MU.getD 0 0) (MU.getD 1 0))=(eb op ws xs MU)∧(0:Int)=0∧True))∧((True∧True∧True))))))) (TT 2 (IX 0 ws.length∧TT 3 (CC (Im op ws xs (MU.getD 0 0) (MU.getD 1 0) 0)∧TT 3 ((((wc op ws xs (MU.getD 0 0) (MU.getD 1 0))=(eb op ws xs MU)∧(0:Int)=0∧True))∧((True∧True∧True))))))))))))))))))))))))) (.w 2 [(3,.val (dB false))]<|.u 24 (.w 4 [(9,(Il op ws (MU.getD 0 0) (MU.getD 1 0)).O)]<|.l (jm op ws xs MU) 0 (fun i=>.b 43 (.w 10 [(5,.val (dB false)),(14,(yX (ws.getD i 0)).O)]<|.u 62 (.w 9 [(1,.val (i6 ((i+1:Nat):Int)))]<|.e)) (.b 65 (.e) (.b 71 (.w 16 [(6,.val (dI .u64 (MU.getD 0 0))),(7,.val (i6 (xs.getD 0 0 / 2^(MU.getD 0 0).toNat))),(11,(yX (MU.getD 1 0)).O),(12,.val (i6 ((xs.getD 0 0 / 2^(MU.getD 0 0).toNat)%2^(MU.getD 1 0).toNat)))]<|.e) (.b 87 (.e) (.b 93 (.w 20 [(9,(Im op ws xs (MU.getD 0 0) (MU.getD 1 0) (ws.getD 1 0)).O)]<|.e) (.w 21 [(6,(Im op ws xs (MU.getD 0 0) (MU.getD 1 0) 0).O)]<|.e)))))))) Try.func83 rfl rfl rfl (by kernel_rfl) ?_
 refine tt ⟨⟨by omega,oK⟩,tt ⟨⟨by omega,oK⟩,tt ⟨(nF (by omega)),tt ⟨(Jc (by omega)),tt ⟨ix,tt ⟨ix,tt ⟨(sJ op ws (MU.getD 0 0) (MU.getD 1 0) h),tt ⟨rfl,(by omega),?_⟩⟩⟩⟩⟩⟩⟩⟩
 intro i J'
 have hi:=J'
 refine tt (cd (fun OQ=>?_) (fun OQ=>?_))
 · refine tt ⟨ix,tt ⟨(vF (by have:=gm NN (i:=i) (by omega);omega)),tt ⟨ix,tt ⟨ix,tt ⟨(gN (ws.getD i 0)),tt ⟨(KS (by have:=gm NN (i:=i) (by omega);omega)),tt ⟨w6,tt ⟨(i+1),rfl,(?_:(i+1)≤xs.length),(?_:xs.length-(i+1)<xs.length-i)⟩⟩⟩⟩⟩⟩⟩⟩
   · omega
   · omega
 · refine tt (cd (fun Si=>?_) (fun Si=>?_))
   · refine tt ⟨ix,tt ⟨⟨?_,rfl,oK⟩,⟨oK,oK,oK⟩⟩⟩
     rw[(oY hn hx h NN).1,Si];rfl
   · refine tt (cd (fun Pn=>?_) (fun Pn=>?_))
     · have OB:(ws.length:Int)=1:=by rw[Pn]at hl;exact hl
       have b0:=f0 (by omega)
       have c0:=a0 (by omega)
       have d0:=m0 (by omega)
       have hsk:=zY (by rw[Pn]at h;exact h)
       have hwf:=aJ.1 hsk.2.2
       refine tt ⟨ix,tt ⟨ix,tt ⟨⟨oK,(CW rfl (by omega) (by omega))⟩,⟨⟨(by omega),(zW hsk.1 (by omega))⟩,tt ⟨ix,tt ⟨(gN (MU.getD 1 0)),⟨⟨oK,(by rw[bW (by omega) (by omega)];exact nn (by omega))⟩,tt ⟨⟨?_,rfl,oK⟩,⟨oK,oK,oK⟩⟩⟩⟩⟩⟩⟩⟩⟩
       rw[(oY hn hx h NN).1,Pn];rfl
     · refine tt (cd (fun Ob=>?_) (fun Ob=>?_))
       · have OB:(ws.length:Int)=1:=by rw[Ob]at hl;exact hl
         have b0:=f0 (by omega)
         have c0:=a0 (by omega)
         have d0:=m0 (by omega)
         refine tt ⟨ix,tt ⟨⟨?_,rfl,oK⟩,⟨oK,oK,oK⟩⟩⟩
         rw[(oY hn hx h NN).1,Ob];rfl
       · refine tt (cd (fun PM=>?_) (fun PM=>?_))
         · have OB:(ws.length:Int)=2:=by rw[PM]at hl;exact hl
           have b0:=f0 (by omega)
           have c0:=a0 (by omega)
           have d0:=m0 (by omega)
           have b1:=f1 (by omega)
           have c1:=a1 (by omega)
           have d1:=m1 (by omega)
           refine tt ⟨ix,tt ⟨ix,tt ⟨(xo op ws xs (MU.getD 0 0) (MU.getD 1 0) (ws.getD 1 0) h hx NN om om),tt ⟨⟨?_,rfl,oK⟩,⟨oK,oK,oK⟩⟩⟩⟩⟩
           exact(oY hn hx h NN).1.symm
         · have OB:1≤ws.length:=by
             have h2:1≤cy op:=by rcases hr with rfl | rfl | rfl | rfl | rfl | rfl | rfl | rfl | rfl | rfl | rfl | rfl | rfl<;>first | omega | decide
             omega
           refine tt ⟨ix,tt ⟨(xo op ws xs (MU.getD 0 0) (MU.getD 1 0) 0 h hx NN om om),tt ⟨⟨?_,rfl,oK⟩,⟨oK,oK,oK⟩⟩⟩⟩
           exact(oY hn hx h NN).1.symm
end Go.Proofs.Ytgmpoenfoacofaa
