/-
  Package streams: prefixes, differences, valid inputs.
-/
import Derived.Test.YtckgpflobhpnpaaGreatQSuA
import Derived.Test.YtckgpflobhpnpaaGreatQStE
namespace Go.Proofs.YtckgpflobhpnpaaGreat
open Go.RowKit
set_option linter.unusedVariables false
set_option linter.unusedSimpArgs false
abbrev GZ (c:Ci) (n:Nat):D:=(.fn (.func 96) [] [(.iptr [(.sl 6 je aa c.procs),(.sl 5 gO ck c.chans)] 0),(.iptr [(.int .i64 (n:Int))] 0)])
set_option maxRecDepth 100000
abbrev Mq (a b:List Int):Ct:=⟨49,[(LI a),(LI b)],false,(i6 (((dm a b):Nat):Int))⟩
abbrev tS (a:List Int) (b:List Int):Lp (Nat):=lS [0,1,5] 0 (fun (n:Nat)=>⟨[(0,(LI a)),(1,(LI b)),(5,(i6 (n:Int)))],[]⟩) (fun (n:Nat)=>n≤a.length∧n≤b.length∧∀j,j<n→a.getD j 0=b.getD j 0) (fun (n:Nat)=>a.length-n)
theorem Dl (a b:List Int) (ha:a.length≤9223372036854775807):CC (Mq a b):=by
 refine ai.vc (V:=TT 2 (GO (tS a b) 0 (∀n,(tS a b).inv n→CS ((n:Int)<(((min a.length b.length):Nat):Int)) (TT 5 ((True∧(ta (a.length:Int) (b.length:Int))=(((min a.length b.length):Nat):Int))∧TT 1 ((True∧(decide ((n:Int)<(((min a.length b.length):Nat):Int)))=true)∧TT 2 (IX (n:Int) a.length∧TT 3 (IX (n:Int) b.length∧TT 3 (CD ((a.getD n 0)=(b.getD n 0)) (TT 1 (W6 ((n+1:Nat):Int)∧TT 1 (AG (tS a b) n (n+1)))) (TT 3 ((n:Int)=(((dm a b):Nat):Int)∧True)))))))) (TT 5 ((True∧(ta (a.length:Int) (b.length:Int))=(((min a.length b.length):Nat):Int))∧TT 1 ((True∧(decide ((n:Int)<(((min a.length b.length):Nat):Int)))=false)∧TT 4 ((n:Int)=(((dm a b):Nat):Int)∧True))))))) (.l (tS a b) 0 (fun n=>.s 2 ((n:Int)<(((min a.length b.length):Nat):Int)) (.w 2 [(5,.val (i6 (((min a.length b.length):Nat):Int))),(7,.val (dB true))]<|.b 23 (.w 3 [(1,.val (i6 ((n+1:Nat):Int)))]<|.e) (.e)) (.w 2 [(5,.val (i6 (((min a.length b.length):Nat):Int))),(7,.val (dB false))]<|.e))) Tryz.func49 rfl rfl rfl (by kernel_rfl) ?_
 refine tt ⟨rfl,⟨by omega,by omega,fun j hj=>by omega⟩,?_⟩
 intro n hinv
 obtain⟨hn1,hn2,hn3⟩:=hinv
 refine⟨fun hs0=>?_,fun hs0=>?_⟩
 · refine tt ⟨⟨oK,(by unfold ta;split<;>omega)⟩,tt ⟨(vT hs0),tt ⟨ix,tt ⟨ix,tt (cd (fun hc23=>?_) (fun hc23=>?_))⟩⟩⟩⟩
   · refine tt ⟨w6,tt ⟨(n+1),rfl,?_,(?_:a.length-(n+1)<a.length-n)⟩⟩
     · exact⟨by omega,by omega,cX hn3 hc23⟩
     · omega
   · refine tt ⟨?_,oK⟩
     first | exact congrArg _ (sx hn1 hn2 hn3 (by omega)).symm | exact congrArg _ (sx hn1 hn2 hn3 (fun q=>hc23 q.2.2)).symm
 · refine tt ⟨⟨oK,(by unfold ta;split<;>omega)⟩,tt ⟨(vF hs0),tt ⟨?_,oK⟩⟩⟩
   first | exact congrArg _ (sx hn1 hn2 hn3 (by omega)).symm | exact congrArg _ (sx hn1 hn2 hn3 (fun q=>hc23 q.2.2)).symm
abbrev Mr (a b:List (List Int)):Ct:=⟨17,[(dL 1 ae [] a),(dL 1 ae [] b)],false,(dB (fc a b))⟩
abbrev tT (a:List (List Int)) (b:List (List Int)):Lp (Nat):=lS [0,1,12,13] 0 (fun (i:Nat)=>⟨[(0,(dL 1 ae [] a)),(1,(dL 1 ae [] b)),(12,(i6 (a.length:Int))),(13,(i6 (i:Int)))],[]⟩) (fun (i:Nat)=>i≤a.length∧∀q,q<i→(!decide (dm (a.getD q []) (b.getD q [])<(a.getD q []).length))=true) (fun (i:Nat)=>a.length-i)
theorem Dm (a b:List (List Int)) (ha:a.length≤9223372036854775807) (hsa:∀i,(a.getD i []).length≤9223372036854775807):CC (Mr a b):=by
 refine ai.vc (V:=TT 6 (CN ((a.length:Int)=(b.length:Int)) (TT 2 (false=(fc a b)∧True)) (TT 3 (GO (tT a b) 0 (∀i,(tT a b).inv i→TT 1 (CD ((i:Int)<(a.length:Int)) (TT 4 (IX (i:Int) a.length∧TT 3 (IX (i:Int) b.length∧TT 1 (CC (Mq (a.getD i []) (b.getD i []))∧TT 2 (IX (i:Int) a.length∧TT 3 (CD ((((dm (a.getD i []) (b.getD i [])):Nat):Int)<(((a.getD i []).length:Nat):Int)) (TT 2 (false=(fc a b)∧True)) (W6 ((i+1:Nat):Int)∧TT 1 (AG (tT a b) i (i+1))))))))) (TT 2 (true=(fc a b)∧True)))))))) (.b 10 (.e) (.l (tT a b) 0 (fun i=>.b 14 (.w 6 [(8,(Mq (a.getD i []) (b.getD i [])).O)]<|.b 30 (.e) (.w 8 [(0,.val (i6 ((i+1:Nat):Int)))]<|.e)) (.e)))) Tryz.func17 rfl rfl rfl (by kernel_rfl) ?_
 refine tt (cn (fun hc10=>?_) (fun hc10=>?_))
 · refine tt ⟨?_,oK⟩
   first | exact(oe (by omega)).symm | exact(og (i:=i) (by omega) (by omega)).symm | exact(oh (by omega) (fun q hq=>h3 q (by omega))).symm
 · refine tt ⟨rfl,⟨by omega,fun q hq=>by omega⟩,?_⟩
   intro i hinv
   obtain⟨hi,h3⟩:=hinv
   refine tt (cd (fun hc14=>?_) (fun hc14=>?_))
   · refine tt ⟨ix,tt ⟨ix,tt ⟨(Dl (a.getD i []) (b.getD i []) (hsa i)),tt ⟨ix,tt (cd (fun hc30=>?_) (fun hc30=>?_))⟩⟩⟩⟩
     · refine tt ⟨?_,oK⟩
       first | exact(oe (by omega)).symm | exact(og (i:=i) (by omega) (by omega)).symm | exact(oh (by omega) (fun q hq=>h3 q (by omega))).symm
     · refine⟨w6,tt ⟨(i+1),rfl,?_,(?_:a.length-(i+1)<a.length-i)⟩⟩
       · exact⟨by omega,cX h3 (by rw[decide_eq_false (by omega)];rfl)⟩
       · omega
   · refine tt ⟨?_,oK⟩
     first | exact(oe (by omega)).symm | exact(og (i:=i) (by omega) (by omega)).symm | exact(oh (by omega) (fun q hq=>h3 q (by omega))).symm
abbrev N2 (a b:List (List Int)):Ct:=⟨51,[(dL 1 ae [] a),(dL 1 ae [] b)],false,(.tup [(i6 ((du a b).1)),(i6 ((du a b).2.1)),(dB ((du a b).2.2))])⟩
abbrev rm (a:List (List Int)) (b:List (List Int)):Lp (Nat):=lS [0,1,13,14] 0 (fun (i:Nat)=>⟨[(0,(dL 1 ae [] a)),(1,(dL 1 ae [] b)),(13,(i6 (((min a.length b.length):Nat):Int))),(14,(i6 (i:Int)))],[]⟩) (fun (i:Nat)=>i≤min a.length b.length∧tj a b (min a.length b.length-i) i=du a b) (fun (i:Nat)=>min a.length b.length-i)
theorem G0 (a b:List (List Int)) (ha:a.length≤9223372036854775807) (hsa:∀i,(a.getD i []).length≤9223372036854775807):CC (N2 a b):=by
 refine ai.vc (V:=TT 7 ((True∧(ta (a.length:Int) (b.length:Int))=(((min a.length b.length):Nat):Int))∧TT 1 (GO (rm a b) 0 (∀i,(rm a b).inv i→TT 1 (CD ((i:Int)<(((min a.length b.length):Nat):Int)) (TT 4 (IX (i:Int) a.length∧TT 3 (IX (i:Int) b.length∧TT 1 (CC (Mq (a.getD i []) (b.getD i []))∧TT 4 (IX (i:Int) a.length∧TT 4 (IX (i:Int) b.length∧TT 2 ((True∧(ta (((a.getD i []).length:Nat):Int) (((b.getD i []).length:Nat):Int))=(((min (a.getD i []).length (b.getD i []).length):Nat):Int))∧TT 1 (CD ((((dm (a.getD i []) (b.getD i [])):Nat):Int)<(((min (a.getD i []).length (b.getD i []).length):Nat):Int)) (TT 8 (((i:Int)=((du a b).1)∧(((dm (a.getD i []) (b.getD i [])):Nat):Int)=((du a b).2.1)∧true=((du a b).2.2)∧True)∧(True∧True∧True∧True))) (W6 ((i+1:Nat):Int)∧TT 1 (AG (rm a b) i (i+1))))))))))) (TT 6 (((0:Int)=((du a b).1)∧(0:Int)=((du a b).2.1)∧false=((du a b).2.2)∧True)∧(True∧True∧True∧True)))))))) (.w 1 [(4,.val (i6 (((min a.length b.length):Nat):Int)))]<|.l (rm a b) 0 (fun i=>.b 15 (.w 4 [(8,(Mq (a.getD i []) (b.getD i [])).O)]<|.w 5 [(11,.val (i6 (((min (a.getD i []).length (b.getD i []).length):Nat):Int)))]<|.b 38 (.e) (.w 7 [(0,.val (i6 ((i+1:Nat):Int)))]<|.e)) (.e))) Tryz.func51 rfl rfl rfl (by kernel_rfl) ?_
 refine tt ⟨⟨oK,(by unfold ta;split<;>omega)⟩,tt ⟨rfl,⟨by omega,rfl⟩,?_⟩⟩
 intro i hinv
 obtain⟨hi,h3⟩:=hinv
 refine tt (cd (fun hc15=>?_) (fun hc15=>?_))
 · refine tt ⟨ix,tt ⟨ix,tt ⟨(Dl (a.getD i []) (b.getD i []) (hsa i)),tt ⟨ix,tt ⟨ix,tt ⟨⟨oK,(by unfold ta;split<;>omega)⟩,tt (cd (fun hc38=>?_) (fun hc38=>?_))⟩⟩⟩⟩⟩⟩
   · refine tt ⟨⟨?_,?_,?_,oK⟩,⟨oK,oK,oK,oK⟩⟩
     all_goals (all_goals (rw[← h3];first | (rw[Dj (by omega) (by omega)];done) | (rw[Dk (by omega)];done)))
   · refine⟨w6,tt ⟨(i+1),rfl,?_,(?_:min a.length b.length-(i+1)<min a.length b.length-i)⟩⟩
     · exact⟨by omega,by rw[← h3];exact(K0 (by omega) (by omega)).symm⟩
     · omega
 · refine tt ⟨⟨?_,?_,?_,oK⟩,⟨oK,oK,oK,oK⟩⟩
   all_goals (all_goals (rw[← h3];first | (rw[Dj (by omega) (by omega)];done) | (rw[Dk (by omega)];done)))
abbrev N3 (v:Int) (c:Ci) (n:Nat):Ct:=⟨96,[(i6 v),(.iptr [(.sl 6 je aa c.procs),(.sl 5 gO ck c.chans)] 0),(.iptr [(.int .i64 (n:Int))] 0)],false,(dB (!(dQ v (fT c n).w)))⟩
theorem BC (v:Int) (c:Ci) (n:Nat) (hc:a6 c) (hn:n<c.chans.length):CC (N3 v c n):=by
 have hw:1≤(c.chans.getD n ck).w∧(c.chans.getD n ck).w≤8:=bf.1 (hc.cw n (by omega))
 refine ai.vc (V:=TT 1 (CS (v<0) (TT 2 ((True∧(decide (v<0))=true)∧TT 12 (true=(!(dQ v (fT c n).w))∧True))) (TT 2 ((True∧(decide (v<0))=false)∧TT 4 (IX (n:Int) c.chans.length∧TT 2 (SH ((c.chans.getD n ck).w)∧TT 4 ((decide (v≥(2^(((c.chans.getD n ck).w).toNat))))=(!(dQ v (fT c n).w))∧True))))))) (.s 1 (v<0) (.w 1 [(2,.val (dB true))]<|.e) (.w 1 [(2,.val (dB false)),(10,.val (i6 (2^(((c.chans.getD n ck).w).toNat))))]<|.e)) Tryz.func96 rfl rfl rfl (by kernel_rfl) ?_
 refine tt ⟨fun hs0=>?_,fun hs0=>?_⟩
 · refine tt ⟨(vT hs0),tt ⟨?_,oK⟩⟩
   show _=!(dQ v (c.chans.getD n ck).w)
   first | (unfold dQ;rw[decide_eq_false (by omega)];rfl) | (unfold dQ;rw[decide_eq_true (show(0:Int)≤v by omega),dq (by omega) (by omega),Bool.true_and];by_cases hq:v<2^(c.chans.getD n ck).w.toNat<;>first | (rw[decide_eq_false (by omega),decide_eq_true (by omega)];rfl) | (rw[decide_eq_true (by omega),decide_eq_false (by omega)];rfl))
 · refine tt ⟨(vF hs0),tt ⟨ix,tt ⟨(sh (by have:=mr (n:=(c.chans.getD n ck).w.toNat) (by omega);omega) (by have:=mr (n:=(c.chans.getD n ck).w.toNat) (by omega);omega)),tt ⟨?_,oK⟩⟩⟩⟩
   show _=!(dQ v (c.chans.getD n ck).w)
   first | (unfold dQ;rw[decide_eq_false (by omega)];rfl) | (unfold dQ;rw[decide_eq_true (show(0:Int)≤v by omega),dq (by omega) (by omega),Bool.true_and];by_cases hq:v<2^(c.chans.getD n ck).w.toNat<;>first | (rw[decide_eq_false (by omega),decide_eq_true (by omega)];rfl) | (rw[decide_eq_true (by omega),decide_eq_false (by omega)];rfl))
abbrev G1 (l:List Int) (c:Ci) (n:Nat):Ct:=⟨106,[(LI l),(GZ c n)],false,(i6 (th l (fT c n).w))⟩
abbrev tU (l:List Int) (c:Ci) (n:Nat):Lp (Nat):=lS [0,1,7,8] 0 (fun (i:Nat)=>⟨[(0,(LI l)),(1,(GZ c n)),(7,(i6 (l.length:Int))),(8,(i6 (i:Int)))],[]⟩) (fun (i:Nat)=>i≤l.length∧∀z,z<i→(!dQ (l.getD z 0) (fT c n).w)=false) (fun (i:Nat)=>l.length-i)
theorem IQ (l:List Int) (c:Ci) (n:Nat) (hc:a6 c) (hn:n<c.chans.length) (hl:l.length≤9223372036854775807):CC (G1 l c n):=by
 refine ai.vc (V:=TT 4 (GO (tU l c n) 0 (∀i,(tU l c n).inv i→TT 1 (CD ((i:Int)<(l.length:Int)) (TT 5 (IX (i:Int) l.length∧TT 1 (CC (N3 (l.getD i 0) c n)∧CB (!(dQ (l.getD i 0) (fT c n).w)) (TT 3 ((i:Int)=(th l (fT c n).w)∧True)) (W6 ((i+1:Nat):Int)∧TT 1 (AG (tU l c n) i (i+1)))))) (TT 2 ((-1)=(th l (fT c n).w)∧True)))))) (.l (tU l c n) 0 (fun i=>.b 9 (.w 4 [(5,(N3 (l.getD i 0) c n).O)]<|.b 16 (.e) (.w 6 [(0,.val (i6 ((i+1:Nat):Int)))]<|.e)) (.e))) Tryz.func106 rfl rfl rfl (by kernel_rfl) ?_
 refine tt ⟨rfl,⟨by omega,fun z hz=>by omega⟩,?_⟩
 intro i hinv
 obtain⟨hi,h3⟩:=hinv
 refine tt (cd (fun hc9=>?_) (fun hc9=>?_))
 · refine tt ⟨ix,tt ⟨(BC (l.getD i 0) c n hc hn),⟨fun hc16=>?_,fun hc16=>?_⟩⟩⟩
   · refine tt ⟨?_,oK⟩
     first | exact(pX (f:=fun i=>!dQ (l.getD i 0) (fT c n).w) hc16 h3 (by omega)).symm | exact(wR (f:=fun i=>!dQ (l.getD i 0) (fT c n).w) (fun z hz=>h3 z (by omega))).symm
   · refine⟨w6,tt ⟨(i+1),rfl,?_,(?_:l.length-(i+1)<l.length-i)⟩⟩
     · exact⟨by omega,cX h3 hc16⟩
     · omega
 · refine tt ⟨?_,oK⟩
   first | exact(pX (f:=fun i=>!dQ (l.getD i 0) (fT c n).w) hc16 h3 (by omega)).symm | exact(wR (f:=fun i=>!dQ (l.getD i 0) (fT c n).w) (fun z hz=>h3 z (by omega))).symm
abbrev G2 (l:List Int) (c:Ci) (n:Nat):Ct:=⟨82,[(LI l),(GZ c n)],false,(dB (decide (0≤th l (fT c n).w)))⟩
theorem Dn (l:List Int) (c:Ci) (n:Nat) (hc:a6 c) (hn:n<c.chans.length) (hl:l.length≤9223372036854775807):CC (G2 l c n):=by
 refine ai.vc (V:=TT 3 (CC (G1 l c n)∧TT 3 ((decide ((th l (fT c n).w)≥0))=(decide (0≤th l (fT c n).w))∧True))) (.w 1 [(2,(G1 l c n).O)]<|.e) Tryz.func82 rfl rfl rfl (by kernel_rfl) ?_
 refine tt ⟨(IQ l c n hc hn hl),tt ⟨?_,oK⟩⟩
 rfl
abbrev G3 (c:Ci) (inp:List (List Int)):Ct:=⟨65,[(.agg [(dL 6 je aa c.procs),(dL 5 gO ck c.chans)]),(dL 1 ae [] inp)],false,(dB (d4 c inp))⟩
abbrev kh (c:Ci) (inp:List (List Int)):Lp (Nat):=lS [2,14,15,16] 1 (fun (n:Nat)=>⟨[(2,(.iptr [(.sl 6 je aa c.procs),(.sl 5 gO ck c.chans)] 0)),(14,(dL 1 ae [] inp)),(15,(i6 (inp.length:Int))),(16,(i6 (n:Int)))],[.dead]⟩) (fun (n:Nat)=>n≤inp.length∧∀z,z<n→vN c inp z=true) (fun (n:Nat)=>inp.length-n)
theorem kk (c:Ci) (inp:List (List Int)) (hc:a6 c) (hl:inp.length≤9223372036854775807) (hs:∀i,(inp.getD i []).length≤9223372036854775807):CC (G3 c inp):=by
 have hnl:=hc.nl
 have hcl:=hc.cl
 refine ai.vc (V:=TT 8 (CN ((inp.length:Int)=(c.chans.length:Int)) (TT 2 (false=(d4 c inp)∧True)) (TT 3 (GO (kh c inp) 0 (∀n,(kh c inp).inv n→TT 1 (CD ((n:Int)<(inp.length:Int)) (TT 1 (IX (n:Int) inp.length∧TT 6 (CS ((((inp.getD n []).length:Nat):Int)>1000) (TT 3 ((True∧(decide ((((inp.getD n []).length:Nat):Int)>1000))=true)∧TT 20 (false=(d4 c inp)∧True))) (CS ((((inp.getD n []).length:Nat):Int)>0) (CS (((c.chans.getD n ck).frm)=(-1)) (TT 3 ((True∧(decide ((((inp.getD n []).length:Nat):Int)>1000))=false)∧TT 3 ((True∧(decide ((((inp.getD n []).length:Nat):Int)>0))=true)∧TT 3 (IX (n:Int) c.chans.length∧TT 5 ((True∧(!decide (((c.chans.getD n ck).frm)=(-1)))=false)∧TT 2 (CC (G2 (inp.getD n []) c n)∧TT 1 (CD (0≤th (inp.getD n []) (fT c n).w) (TT 2 (false=(d4 c inp)∧True)) (W6 ((n+1:Nat):Int)∧TT 1 (AG (kh c inp) n (n+1)))))))))) (TT 3 ((True∧(decide ((((inp.getD n []).length:Nat):Int)>1000))=false)∧TT 3 ((True∧(decide ((((inp.getD n []).length:Nat):Int)>0))=true)∧TT 3 (IX (n:Int) c.chans.length∧TT 5 ((True∧(!decide (((c.chans.getD n ck).frm)=(-1)))=true)∧TT 6 (false=(d4 c inp)∧True))))))) (TT 3 ((True∧(decide ((((inp.getD n []).length:Nat):Int)>1000))=false)∧TT 3 ((True∧(decide ((((inp.getD n []).length:Nat):Int)>0))=false)∧TT 12 (CC (G2 (inp.getD n []) c n)∧TT 1 (CD (0≤th (inp.getD n []) (fT c n).w) (TT 2 (false=(d4 c inp)∧True)) (W6 ((n+1:Nat):Int)∧TT 1 (AG (kh c inp) n (n+1)))))))))))) (TT 2 (true=(d4 c inp)∧True)))))))) (.b 13 (.e) (.f 3 0<|.l (kh c inp) 0 (fun n=>.b 17 (.f 6 1<|.s 7 ((((inp.getD n []).length:Nat):Int)>1000) (.w 7 [(3,.val (dB true))]<|.e) (.s 7 ((((inp.getD n []).length:Nat):Int)>0) (.s 7 (((c.chans.getD n ck).frm)=(-1)) (.w 7 [(3,.val (dB false)),(7,.val (dB true)),(17,.val (dB false)),(20,(G2 (inp.getD n []) c n).O)]<|.b 43 (.e) (.w 9 [(0,.val (i6 ((n+1:Nat):Int)))]<|.e)) (.w 7 [(3,.val (dB false)),(7,.val (dB true)),(17,.val (dB true))]<|.e)) (.w 7 [(3,.val (dB false)),(7,.val (dB false)),(20,(G2 (inp.getD n []) c n).O)]<|.b 43 (.e) (.w 9 [(0,.val (i6 ((n+1:Nat):Int)))]<|.e)))) (.e)))) Tryz.func65 rfl rfl rfl (by kernel_rfl) ?_
 refine tt (cn (fun hc13=>?_) (fun hc13=>?_))
 · refine tt ⟨?_,oK⟩
   first | exact(oi (by omega)).symm | exact(ol (n:=n) (by omega) (by omega)).symm | exact(oo (n:=n) (by omega) (by omega) (by show ¬(c.chans.getD n ck).frm=-1;omega)).symm | exact(oq (n:=n) (by omega) (by first | assumption | simpa using hc43)).symm | exact(ot (by omega) (fun z hz=>h3 z (by omega))).symm
 · refine tt ⟨rfl,⟨by omega,fun z hz=>by omega⟩,?_⟩
   intro n hinv
   obtain⟨hn,h3⟩:=hinv
   refine tt (cd (fun hc17=>?_) (fun hc17=>?_))
   · refine tt ⟨ix,tt ⟨fun hs0=>?_,fun hs0=>?_⟩⟩
     · refine tt ⟨(vT hs0),tt ⟨?_,oK⟩⟩
       first | exact(oi (by omega)).symm | exact(ol (n:=n) (by omega) (by omega)).symm | exact(oo (n:=n) (by omega) (by omega) (by show ¬(c.chans.getD n ck).frm=-1;omega)).symm | exact(oq (n:=n) (by omega) (by first | assumption | simpa using hc43)).symm | exact(ot (by omega) (fun z hz=>h3 z (by omega))).symm
     · refine⟨fun hs1=>?_,fun hs1=>?_⟩
       · refine⟨fun hs2=>?_,fun hs2=>?_⟩
         · refine tt ⟨(vF hs0),tt ⟨(vT hs1),tt ⟨ix,tt ⟨(nF hs2),tt ⟨(Dn (inp.getD n []) c n hc (show n<c.chans.length by omega) (hs n)),tt (cd (fun hc43=>?_) (fun hc43=>?_))⟩⟩⟩⟩⟩
           · refine tt ⟨?_,oK⟩
             first | exact(oi (by omega)).symm | exact(ol (n:=n) (by omega) (by omega)).symm | exact(oo (n:=n) (by omega) (by omega) (by show ¬(c.chans.getD n ck).frm=-1;omega)).symm | exact(oq (n:=n) (by omega) (by first | assumption | simpa using hc43)).symm | exact(ot (by omega) (fun z hz=>h3 z (by omega))).symm
           · refine⟨w6,tt ⟨(n+1),rfl,?_,(?_:inp.length-(n+1)<inp.length-n)⟩⟩
             · exact⟨by omega,cX h3 (JC (by omega) (by first | exact .inl (by omega) | exact .inr (by show(c.chans.getD n ck).frm=-1;omega)) (by first | assumption | simpa using hc43))⟩
             · omega
         · refine tt ⟨(vF hs0),tt ⟨(vT hs1),tt ⟨ix,tt ⟨(nT hs2),tt ⟨?_,oK⟩⟩⟩⟩⟩
           first | exact(oi (by omega)).symm | exact(ol (n:=n) (by omega) (by omega)).symm | exact(oo (n:=n) (by omega) (by omega) (by show ¬(c.chans.getD n ck).frm=-1;omega)).symm | exact(oq (n:=n) (by omega) (by first | assumption | simpa using hc43)).symm | exact(ot (by omega) (fun z hz=>h3 z (by omega))).symm
       · refine tt ⟨(vF hs0),tt ⟨(vF hs1),tt ⟨(Dn (inp.getD n []) c n hc (show n<c.chans.length by omega) (hs n)),tt (cd (fun hc43=>?_) (fun hc43=>?_))⟩⟩⟩
         · refine tt ⟨?_,oK⟩
           first | exact(oi (by omega)).symm | exact(ol (n:=n) (by omega) (by omega)).symm | exact(oo (n:=n) (by omega) (by omega) (by show ¬(c.chans.getD n ck).frm=-1;omega)).symm | exact(oq (n:=n) (by omega) (by first | assumption | simpa using hc43)).symm | exact(ot (by omega) (fun z hz=>h3 z (by omega))).symm
         · refine⟨w6,tt ⟨(n+1),rfl,?_,(?_:inp.length-(n+1)<inp.length-n)⟩⟩
           · exact⟨by omega,cX h3 (JC (by omega) (by first | exact .inl (by omega) | exact .inr (by show(c.chans.getD n ck).frm=-1;omega)) (by first | assumption | simpa using hc43))⟩
           · omega
   · refine tt ⟨?_,oK⟩
     first | exact(oi (by omega)).symm | exact(ol (n:=n) (by omega) (by omega)).symm | exact(oo (n:=n) (by omega) (by omega) (by show ¬(c.chans.getD n ck).frm=-1;omega)).symm | exact(oq (n:=n) (by omega) (by first | assumption | simpa using hc43)).symm | exact(ot (by omega) (fun z hz=>h3 z (by omega))).symm
end Go.Proofs.YtckgpflobhpnpaaGreat
