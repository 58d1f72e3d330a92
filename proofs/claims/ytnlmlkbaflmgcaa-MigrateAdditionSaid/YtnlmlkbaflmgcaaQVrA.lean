/- Parts of a proof. -/
import Derived.Test.YtnlmlkbaflmgcaaQMjH
namespace Go.Proofs.Ytnlmlkbaflmgcaa
open Go.RowKit
set_option linter.unusedVariables false
set_option linter.unusedSimpArgs false
abbrev JI (p:Pr):List (Nat×D):=[(2,(.ptr 0 0 0 0)),(3,(.ptr 1 0 0 0)),(4,(.ptr 2 0 0 0)),(5,(i6 ((p.Pe.length+p.Pd.length:Nat):Int))),(6,(.ptr 5 0 0 0))]
set_option maxRecDepth 100000
abbrev KX (k:Int):Ct:=⟨81,[(i6 k)],true,(dS (b3 k))⟩
theorem xt (k:Int) (h:0≤k):CC (KX k):=by
 refine aq.vc (V:=TT 1 (an [[(dS (bs [114]))],[(dS (bs [115]))],[(dS (bs [109,101,109]))],[(dS (bs [111,108,100]))],[(dS (bs [120]))],[(dS (bs [109,101,109]))]] ([(bs [114]),(bs [115]),(bs [109,101,109]),(bs [111,108,100]),(bs [120]),(bs [109,101,109])].map dk)∧TT 1 (QM k 6∧IX (k%6) ([(bs [114]),(bs [115]),(bs [109,101,109]),(bs [111,108,100]),(bs [120]),(bs [109,101,109])].length)∧TT 3 (([(bs [114]),(bs [115]),(bs [109,101,109]),(bs [111,108,100]),(bs [120]),(bs [109,101,109])].getD ((k%6).toNat) .empty)=(b3 k))))) (.w 1 [(0,.frz 9 1 dk .empty [(bs [114]),(bs [115]),(bs [109,101,109]),(bs [111,108,100]),(bs [120]),(bs [109,101,109])]),(2,.val (i6 (k%6)))]<|.e) Try.func81 rfl rfl rfl (by kernel_rfl) ?_
 refine tt ⟨⟨⟨rfl,oK⟩,⟨rfl,oK⟩,⟨rfl,oK⟩,⟨rfl,oK⟩,⟨rfl,oK⟩,⟨rfl,oK⟩,oK⟩,tt ⟨qm,⟨ix,tt ?_⟩⟩⟩
 rfl
abbrev II (n:Nat):Ct:=⟨56,[(i6 (n:Int))],true,(dS (cz n))⟩
theorem pP (n:Nat) (h:n≤99):CC (II n):=by
 refine aq.vc (V:=TT 2 (((10:Int)≠0∧(IntKind.wrap .i64 (Int.tdiv (n:Int) 10))=((n / 10:Nat):Int))∧TT 1 (((10:Int)≠0∧(IntKind.wrap .i64 (Int.tdiv (n:Int) 10))=((n / 10:Nat):Int))∧W6 (((n / 10)+1:Nat):Int)∧(0≤((n / 10:Nat):Int)∧((n / 10:Nat):Int)≤(((n / 10)+1:Nat):Int)∧(((n / 10)+1:Nat):Int)≤((bs [48,49,50,51,52,53,54,55,56,57]).size:Int))∧TT 1 (((10:Int)≠0∧(Int.tmod (n:Int) 10)=((n%10:Nat):Int))∧TT 1 (((10:Int)≠0∧(Int.tmod (n:Int) 10)=((n%10:Nat):Int))∧W6 (((n%10)+1:Nat):Int)∧(0≤((n%10:Nat):Int)∧((n%10:Nat):Int)≤(((n%10)+1:Nat):Int)∧(((n%10)+1:Nat):Int)≤((bs [48,49,50,51,52,53,54,55,56,57]).size:Int))∧((((bs [48,49,50,51,52,53,54,55,56,57]).extract (n / 10) ((n / 10)+1)).size+((bs [48,49,50,51,52,53,54,55,56,57]).extract (n%10) ((n%10)+1)).size:Nat):Int)≤IntKind.i64.max∧TT 2 ((((bs [48,49,50,51,52,53,54,55,56,57]).extract (n / 10) ((n / 10)+1))++((bs [48,49,50,51,52,53,54,55,56,57]).extract (n%10) ((n%10)+1)))=(cz n))))))) (.w 1 [(1,.val (i6 ((n / 10:Nat):Int))),(3,.val (i6 ((n / 10:Nat):Int))),(4,.val (i6 (((n / 10)+1:Nat):Int))),(7,.val (i6 ((n%10:Nat):Int))),(9,.val (i6 ((n%10:Nat):Int))),(10,.val (i6 (((n%10)+1:Nat):Int)))]<|.e) Try.func56 rfl rfl rfl (by kernel_rfl) ?_
 refine tt ⟨⟨om,(Mb (by omega))⟩,tt ⟨⟨om,(Mb (by omega))⟩,⟨w6,⟨(by have:(bs [48,49,50,51,52,53,54,55,56,57]).size=10:=rfl;omega),tt ⟨⟨om,(Mc n)⟩,tt ⟨⟨om,(Mc n)⟩,⟨w6,⟨(by have:(bs [48,49,50,51,52,53,54,55,56,57]).size=10:=rfl;omega),⟨(by rw[Rc,Rc];show _≤(9223372036854775807:Int);have:(bs [48,49,50,51,52,53,54,55,56,57]).size=10:=rfl;omega),tt ?_⟩⟩⟩⟩⟩⟩⟩⟩⟩
 rfl
abbrev NZ (p:Pr) (k0 k1 k2:Int):Ct:=⟨57,[(.agg [(dS p.name),(dS p.clock),(dL 13 bG aK p.Pe),(dL 27 bS aA p.Pd),(dL 9 dU bV p.I),(dL 16 dT b4 p.Pc)]),(.agg [(i6 k0),(i6 k1),(i6 k2)])],true,(.agg [(dS ((cL p k0 k1 k2).name)),(dS ((cL p k0 k1 k2).clock)),(dL 13 bG aK ((cL p k0 k1 k2).Pe)),(dL 27 bS aA ((cL p k0 k1 k2).Pd)),(dL 9 dU bV ((cL p k0 k1 k2).I)),(dL 16 dT b4 ((cL p k0 k1 k2).Pc))])⟩
abbrev jr (p:Pr) (k0:Int) (k1:Int) (k2:Int):Lp (ByteArray×Int):=o0 [2,3,4,5,6] 6 (fun (sv:ByteArray) (nv:Int)=>⟨(JI p),[(.var 80 [(dS p.name),(dS p.clock),(.own 3),(.own 4),(dL 9 dU bV p.I),(dL 16 dT b4 p.Pc)]),(.var 119 [(i6 k0),(i6 k1),(i6 k2)]),(.var 80 [(dS e0),(dS e0),.nils,.nils,.nils,.nils]),(.arr 66 13 bG aK p.Pe),(.arr 70 27 bS aA p.Pd),(.var 51 [(i6 (k1%4)),(dS sv),(i6 nv)])]⟩) (fun (sv:ByteArray) (nv:Int)=>sv=(gC k1 k2).src∧(nv:Int)=0) (fun (sv:ByteArray) (nv:Int)=>0)
abbrev js (p:Pr) (k0:Int) (k1:Int) (k2:Int):Lp (ByteArray×Int):=o0 [2,3,4,5,6] 6 (fun (su:ByteArray) (nu:Int)=>⟨(JI p),[(.var 80 [(dS p.name),(dS p.clock),(.own 3),(.own 4),(dL 9 dU bV p.I),(dL 16 dT b4 p.Pc)]),(.var 119 [(i6 k0),(i6 k1),(i6 k2)]),(.var 80 [(dS e0),(dS e0),.nils,.nils,.nils,.nils]),(.arr 66 13 bG aK p.Pe),(.arr 70 27 bS aA p.Pd),(.var 51 [(i6 (k1%4)),(dS su),(i6 nu)])]⟩) (fun (su:ByteArray) (nu:Int)=>su=(gC k1 k2).src∧(nu:Int)=(gC k1 k2).n) (fun (su:ByteArray) (nu:Int)=>0)
set_option maxHeartbeats 4000000 in
theorem GD (p:Pr) (k0 k1 k2:Int) (hz:p.Pe.length+p.Pd.length≤100) (h0:0≤k0) (h1:0≤k1∧k1≤1000) (h2:0≤k2∧k2≤1000):CC (NZ p k0 k1 k2):=by
 refine aq.vc (V:=TT 9 (W6 ((p.Pe.length+p.Pd.length:Nat):Int)∧TT 3 (CD (((p.Pe.length+p.Pd.length:Nat):Int)=0) (TT 3 (p.name=((cL p k0 k1 k2).name)∧p.clock=((cL p k0 k1 k2).clock)∧p.Pe.map bG=((cL p k0 k1 k2).Pe).map bG∧p.Pd.map bS=((cL p k0 k1 k2).Pd).map bS∧p.I.map dU=((cL p k0 k1 k2).I).map dU∧p.Pc.map dT=((cL p k0 k1 k2).Pc).map dT∧True)) (an [] (([]:List Rg).map bG)∧TT 2 ((([]:List Rg).length+(p.Pe.map bG).length≤137438953472∧([]:List Rg).map bG++p.Pe.map bG=p.Pe.map bG)∧TT 2 (an [] (([]:List Mm).map bS)∧TT 2 ((([]:List Mm).length+(p.Pd.map bS).length≤137438953472∧([]:List Mm).map bS++p.Pd.map bS=p.Pd.map bS)∧TT 2 (((0≤(1:Int)∧1<(3:Int))∧True)∧TT 1 (QM k1 4∧TT 3 (TT 3 (CD ((k1%4)≥2) (((0≤(1:Int)∧1<(3:Int))∧True)∧TT 1 (QD k1 4∧CC (KX (k1 / 4))∧TT 2 (AT (jr p k0 k1 k2) (b3 (k1 / 4),0)))) (AT (jr p k0 k1 k2) (e0,0)))∧∀sv nv,(jr p k0 k1 k2).inv (sv,nv)→(TT 3 (CD ((k1%4)=3) (((0≤(2:Int)∧2<(3:Int))∧True)∧TT 1 (W6 (k2-128)∧TT 2 (AT (js p k0 k1 k2) (sv,k2-128)))) (AT (js p k0 k1 k2) (sv,nv)))∧∀su nu,(js p k0 k1 k2).inv (su,nu)→(((0≤(0:Int)∧0<(3:Int))∧True)∧TT 2 ((((p.Pe.length+p.Pd.length:Nat):Int)≠0∧(Int.tmod k0 ((p.Pe.length+p.Pd.length:Nat):Int))=((aV p k0:Nat):Int))∧TT 6 (CD (((aV p k0:Nat):Int)<(p.Pe.length:Int)) (TT 4 (IX ((aV p k0:Nat):Int) p.Pe.length∧TT 1 ((aV p k0<p.Pe.length∧(p.Pe.map bG).set (aV p k0) ((bG (p.Pe.getD (aV p k0) aK)).take 10++[(.int .i64 (k1%4)),(.str su),(.int .i64 nu)]++(bG (p.Pe.getD (aV p k0) aK)).drop (10+3))=(p.Pe.set (aV p k0) { p.Pe.getD (aV p k0) aK with rule:=⟨k1%4,su,nu⟩ }).map bG)∧((0≤(2:Int)∧2<(3:Int))∧True)∧TT 1 (QM k2 8∧TT 1 (CD ((k2%8)=0) (TT 3 (((0≤(2:Int)∧2<(3:Int))∧True)∧TT 1 (QD k2 8∧CC (KX (k2 / 8))∧(((bs [114,101,103]).size+(b3 (k2 / 8)).size:Nat):Int)≤IntKind.i64.max∧TT 1 (CC (II (aV p k0))∧((((bs [114,101,103])++(b3 (k2 / 8))).size+(cz (aV p k0)).size:Nat):Int)≤IntKind.i64.max∧IX ((aV p k0:Nat):Int) ((p.Pe.set (aV p k0) { p.Pe.getD (aV p k0) aK with rule:=⟨k1%4,su,nu⟩ }).length)∧TT 1 ((aV p k0<(p.Pe.set (aV p k0) { p.Pe.getD (aV p k0) aK with rule:=⟨k1%4,su,nu⟩ }).length∧((p.Pe.set (aV p k0) { p.Pe.getD (aV p k0) aK with rule:=⟨k1%4,su,nu⟩ }).map bG).set (aV p k0) ((bG ((p.Pe.set (aV p k0) { p.Pe.getD (aV p k0) aK with rule:=⟨k1%4,su,nu⟩ }).getD (aV p k0) aK)).take 0++[(.str (((bs [114,101,103])++(b3 (k2 / 8)))++(cz (aV p k0))))]++(bG ((p.Pe.set (aV p k0) { p.Pe.getD (aV p k0) aK with rule:=⟨k1%4,su,nu⟩ }).getD (aV p k0) aK)).drop (0+1))=(p.Pe.set (aV p k0) { p.Pe.getD (aV p k0) aK with rule:=⟨k1%4,su,nu⟩,name:=((bs [114,101,103])++(b3 (k2 / 8)))++(cz (aV p k0)) }).map bG)∧TT 3 (p.name=((cL p k0 k1 k2).name)∧p.clock=((cL p k0 k1 k2).clock)∧(p.Pe.set (aV p k0) { p.Pe.getD (aV p k0) aK with rule:=⟨k1%4,su,nu⟩,name:=((bs [114,101,103])++(b3 (k2 / 8)))++(cz (aV p k0)) }).map bG=((cL p k0 k1 k2).Pe).map bG∧p.Pd.map bS=((cL p k0 k1 k2).Pd).map bS∧p.I.map dU=((cL p k0 k1 k2).I).map dU∧p.Pc.map dT=((cL p k0 k1 k2).Pc).map dT∧True)))))) (TT 3 (p.name=((cL p k0 k1 k2).name)∧p.clock=((cL p k0 k1 k2).clock)∧(p.Pe.set (aV p k0) { p.Pe.getD (aV p k0) aK with rule:=⟨k1%4,su,nu⟩ }).map bG=((cL p k0 k1 k2).Pe).map bG∧p.Pd.map bS=((cL p k0 k1 k2).Pd).map bS∧p.I.map dU=((cL p k0 k1 k2).I).map dU∧p.Pc.map dT=((cL p k0 k1 k2).Pc).map dT∧True))))))) (TT 6 ((True∧(IntKind.wrap .i64 (((aV p k0:Nat):Int)-(p.Pe.length:Int)))=((aV p k0-p.Pe.length:Nat):Int))∧TT 1 (IX ((aV p k0-p.Pe.length:Nat):Int) p.Pd.length∧TT 1 ((aV p k0-p.Pe.length<p.Pd.length∧(p.Pd.map bS).set (aV p k0-p.Pe.length) ((bS (p.Pd.getD (aV p k0-p.Pe.length) aA)).take 24++[(.int .i64 (k1%4)),(.str su),(.int .i64 nu)]++(bS (p.Pd.getD (aV p k0-p.Pe.length) aA)).drop (24+3))=(p.Pd.set (aV p k0-p.Pe.length) { p.Pd.getD (aV p k0-p.Pe.length) aA with rule:=⟨k1%4,su,nu⟩ }).map bS)∧((0≤(2:Int)∧2<(3:Int))∧True)∧TT 1 (QM k2 8∧TT 1 (CD ((k2%8)=0) (TT 6 ((True∧(IntKind.wrap .i64 (((aV p k0:Nat):Int)-(p.Pe.length:Int)))=((aV p k0-p.Pe.length:Nat):Int))∧((0≤(2:Int)∧2<(3:Int))∧True)∧TT 1 (QD k2 8∧CC (KX (k2 / 8))∧(((bs [109,101,109]).size+(b3 (k2 / 8)).size:Nat):Int)≤IntKind.i64.max∧TT 1 (CC (II (aV p k0))∧((((bs [109,101,109])++(b3 (k2 / 8))).size+(cz (aV p k0)).size:Nat):Int)≤IntKind.i64.max∧IX ((aV p k0-p.Pe.length:Nat):Int) ((p.Pd.set (aV p k0-p.Pe.length) { p.Pd.getD (aV p k0-p.Pe.length) aA with rule:=⟨k1%4,su,nu⟩ }).length)∧TT 1 ((aV p k0-p.Pe.length<(p.Pd.set (aV p k0-p.Pe.length) { p.Pd.getD (aV p k0-p.Pe.length) aA with rule:=⟨k1%4,su,nu⟩ }).length∧((p.Pd.set (aV p k0-p.Pe.length) { p.Pd.getD (aV p k0-p.Pe.length) aA with rule:=⟨k1%4,su,nu⟩ }).map bS).set (aV p k0-p.Pe.length) ((bS ((p.Pd.set (aV p k0-p.Pe.length) { p.Pd.getD (aV p k0-p.Pe.length) aA with rule:=⟨k1%4,su,nu⟩ }).getD (aV p k0-p.Pe.length) aA)).take 0++[(.str (((bs [109,101,109])++(b3 (k2 / 8)))++(cz (aV p k0))))]++(bS ((p.Pd.set (aV p k0-p.Pe.length) { p.Pd.getD (aV p k0-p.Pe.length) aA with rule:=⟨k1%4,su,nu⟩ }).getD (aV p k0-p.Pe.length) aA)).drop (0+1))=(p.Pd.set (aV p k0-p.Pe.length) { p.Pd.getD (aV p k0-p.Pe.length) aA with rule:=⟨k1%4,su,nu⟩,name:=((bs [109,101,109])++(b3 (k2 / 8)))++(cz (aV p k0)) }).map bS)∧TT 3 (p.name=((cL p k0 k1 k2).name)∧p.clock=((cL p k0 k1 k2).clock)∧p.Pe.map bG=((cL p k0 k1 k2).Pe).map bG∧(p.Pd.set (aV p k0-p.Pe.length) { p.Pd.getD (aV p k0-p.Pe.length) aA with rule:=⟨k1%4,su,nu⟩,name:=((bs [109,101,109])++(b3 (k2 / 8)))++(cz (aV p k0)) }).map bS=((cL p k0 k1 k2).Pd).map bS∧p.I.map dU=((cL p k0 k1 k2).I).map dU∧p.Pc.map dT=((cL p k0 k1 k2).Pc).map dT∧True)))))) (TT 3 (p.name=((cL p k0 k1 k2).name)∧p.clock=((cL p k0 k1 k2).clock)∧p.Pe.map bG=((cL p k0 k1 k2).Pe).map bG∧(p.Pd.set (aV p k0-p.Pe.length) { p.Pd.getD (aV p k0-p.Pe.length) aA with rule:=⟨k1%4,su,nu⟩ }).map bS=((cL p k0 k1 k2).Pd).map bS∧p.I.map dU=((cL p k0 k1 k2).I).map dU∧p.Pc.map dT=((cL p k0 k1 k2).Pc).map dT∧True)))))))))))))))))))))) (.w 1 [(6,.val (i6 ((p.Pe.length+p.Pd.length:Nat):Int)))]<|.b 16 (.e) (.w 4 [(0,.box 66 13 bG aK ([]:List Rg)),(3,.box 66 13 bG aK p.Pe)]<|.w 5 [(0,.box 70 27 bS aA ([]:List Mm)),(3,.box 70 27 bS aA p.Pd)]<|.w 6 [(2,.val (i6 (k1%4)))]<|.k 7 (jr p k0 k1 k2) (.b 34 (.w 8 [(2,.val (i6 (k1 / 4))),(3,(KX (k1 / 4)).O)]<|.e) (.e)) (fun ⟨sv,nv⟩=>.k 9 (js p k0 k1 k2) (.b 42 (.w 10 [(2,.val (i6 (k2-128)))]<|.e) (.e)) (fun ⟨su,nu⟩=>.w 11 [(3,.val (i6 ((aV p k0:Nat):Int)))]<|.b 55 (.w 13 [(6,.box 66 13 bG aK (p.Pe.set (aV p k0) { p.Pe.getD (aV p k0) aK with rule:=⟨k1%4,su,nu⟩ }))]<|.w 14 [(2,.val (i6 (k2%8)))]<|.b 65 (.w 15 [(5,.val (i6 (k2 / 8))),(6,(KX (k2 / 8)).O),(9,(II (aV p k0)).O),(13,.box 66 13 bG aK (p.Pe.set (aV p k0) { p.Pe.getD (aV p k0) aK with rule:=⟨k1%4,su,nu⟩,name:=((bs [114,101,103])++(b3 (k2 / 8)))++(cz (aV p k0)) }))]<|.e) (.e)) (.w 16 [(6,.val (i6 ((aV p k0-p.Pe.length:Nat):Int))),(10,.box 70 27 bS aA (p.Pd.set (aV p k0-p.Pe.length) { p.Pd.getD (aV p k0-p.Pe.length) aA with rule:=⟨k1%4,su,nu⟩ }))]<|.w 17 [(2,.val (i6 (k2%8)))]<|.b 92 (.w 18 [(6,.val (i6 ((aV p k0-p.Pe.length:Nat):Int))),(9,.val (i6 (k2 / 8))),(10,(KX (k2 / 8)).O),(13,(II (aV p k0)).O),(17,.box 70 27 bS aA (p.Pd.set (aV p k0-p.Pe.length) { p.Pd.getD (aV p k0-p.Pe.length) aA with rule:=⟨k1%4,su,nu⟩,name:=((bs [109,101,109])++(b3 (k2 / 8)))++(cz (aV p k0)) }))]<|.e) (.e)))))) Try.func57 rfl rfl rfl (by kernel_rfl) ?_
 refine tt ⟨w6,tt (cd (fun SP=>?_) (fun SP=>?_))⟩
 · refine tt ⟨?_,?_,(congrArg _ (?_:p.Pe=((cL p k0 k1 k2).Pe))),(congrArg _ (?_:p.Pd=((cL p k0 k1 k2).Pd))),(congrArg _ (?_:p.I=((cL p k0 k1 k2).I))),(congrArg _ (?_:p.Pc=((cL p k0 k1 k2).Pc))),oK⟩
   all_goals (all_goals (first | (exfalso;omega) | (rw[yV (by omega)];done) | (rw[nY (by omega) (by omega)];done) | (rw[nZ (by omega) (by omega)];done) | (rw[nY (by omega) (by omega)];unfold KA pO;rw[Ty.1,Ty.2];(first | rw[Pn (show k2%8=0 by omega)] | rw[Pj (show ¬k2%8=0 by omega)]);try rfl) | (rw[nZ (by omega) (by omega)];unfold KB pO;rw[Ty.1,Ty.2];(first | rw[Pn (show k2%8=0 by omega)] | rw[Pj (show ¬k2%8=0 by omega)]);try rfl)))
 · refine⟨oK,tt ⟨⟨by simp only[Py,PP];omega,by rfl⟩,tt ⟨oK,tt ⟨⟨by simp only[Py,PP];omega,by rfl⟩,tt ⟨⟨by omega,oK⟩,tt ⟨qm,tt ⟨?_,?_⟩⟩⟩⟩⟩⟩⟩
   · refine tt (cd (fun hc34=>?_) (fun hc34=>?_))
     · refine⟨⟨by omega,oK⟩,tt ⟨qd,⟨(xt (k1 / 4) (by omega)),tt ⟨(b3 (k1 / 4),0),rfl,(?_:(b3 (k1 / 4))=(gC k1 k2).src∧(0:Int)=0)⟩⟩⟩⟩
       · exact⟨by unfold gC;first | rw[Pn (show 2≤k1%4 by omega)] | rw[Pj (show ¬2≤k1%4 by omega)],rfl⟩
     · refine⟨(e0,0),rfl,(?_:e0=(gC k1 k2).src∧(0:Int)=0)⟩
       · exact⟨by unfold gC;first | rw[Pn (show 2≤k1%4 by omega)] | rw[Pj (show ¬2≤k1%4 by omega)],rfl⟩
   · intro sv nv F'
     have Ty:=F'
     refine⟨?_,?_⟩
     · refine tt (cd (fun R8=>?_) (fun R8=>?_))
       · refine⟨⟨by omega,oK⟩,tt ⟨w6,tt ⟨(sv,k2-128),rfl,(?_:sv=(gC k1 k2).src∧((k2-128):Int)=(gC k1 k2).n)⟩⟩⟩
         · exact⟨Ty.1,by unfold gC;first | rw[Pn (show k1%4=3 by omega)] | (rw[Pj (show ¬k1%4=3 by omega)];exact Ty.2)⟩
       · refine⟨(sv,nv),rfl,(?_:sv=(gC k1 k2).src∧(nv:Int)=(gC k1 k2).n)⟩
         · exact⟨Ty.1,by unfold gC;first | rw[Pn (show k1%4=3 by omega)] | (rw[Pj (show ¬k1%4=3 by omega)];exact Ty.2)⟩
     · intro su nu F'
       have Ty:=F'
       refine⟨⟨by omega,oK⟩,tt ⟨⟨om,(Ir h0)⟩,?_⟩⟩
       have Ux:=xj (p:=p) k0 (by omega)
       refine tt (cd (fun hc55=>?_) (fun hc55=>?_))
       · refine tt ⟨ix,tt ⟨⟨by omega,by simp only[P0];rfl⟩,⟨⟨by omega,oK⟩,tt ⟨qm,tt (cd (fun Vt=>?_) (fun Vt=>?_))⟩⟩⟩⟩
         · refine tt ⟨⟨by omega,oK⟩,tt ⟨qd,⟨(xt (k2 / 8) (by omega)),⟨(by have S9:=pN (k2 / 8);have Tg:=mG (aV p k0);have hq3:(bs [114,101,103]++b3 (k2 / 8)).size=(bs [114,101,103]).size+(b3 (k2 / 8)).size:=QZ;have:(bs [114,101,103]).size=3:=rfl;show _≤(9223372036854775807:Int);omega),tt ⟨(pP (aV p k0) (by omega)),⟨(by have S9:=pN (k2 / 8);have Tg:=mG (aV p k0);have hq3:(bs [114,101,103]++b3 (k2 / 8)).size=(bs [114,101,103]).size+(b3 (k2 / 8)).size:=QZ;have:(bs [114,101,103]).size=3:=rfl;show _≤(9223372036854775807:Int);omega),⟨ix,tt ⟨⟨by rw[PO];omega,by rw[xk (by omega)];simp only[P0,List.set_set];rfl⟩,tt ⟨?_,?_,(congrArg _ (?_:(p.Pe.set (aV p k0) { p.Pe.getD (aV p k0) aK with rule:=⟨k1%4,su,nu⟩,name:=((bs [114,101,103])++(b3 (k2 / 8)))++(cz (aV p k0)) })=((cL p k0 k1 k2).Pe))),(congrArg _ (?_:p.Pd=((cL p k0 k1 k2).Pd))),(congrArg _ (?_:p.I=((cL p k0 k1 k2).I))),(congrArg _ (?_:p.Pc=((cL p k0 k1 k2).Pc))),oK⟩⟩⟩⟩⟩⟩⟩⟩⟩
           all_goals (all_goals (first | (exfalso;omega) | (rw[yV (by omega)];done) | (rw[nY (by omega) (by omega)];done) | (rw[nZ (by omega) (by omega)];done) | (rw[nY (by omega) (by omega)];unfold KA pO;rw[Ty.1,Ty.2];(first | rw[Pn (show k2%8=0 by omega)] | rw[Pj (show ¬k2%8=0 by omega)]);try rfl) | (rw[nZ (by omega) (by omega)];unfold KB pO;rw[Ty.1,Ty.2];(first | rw[Pn (show k2%8=0 by omega)] | rw[Pj (show ¬k2%8=0 by omega)]);try rfl)))
         · refine tt ⟨?_,?_,(congrArg _ (?_:(p.Pe.set (aV p k0) { p.Pe.getD (aV p k0) aK with rule:=⟨k1%4,su,nu⟩ })=((cL p k0 k1 k2).Pe))),(congrArg _ (?_:p.Pd=((cL p k0 k1 k2).Pd))),(congrArg _ (?_:p.I=((cL p k0 k1 k2).I))),(congrArg _ (?_:p.Pc=((cL p k0 k1 k2).Pc))),oK⟩
           all_goals (all_goals (first | (exfalso;omega) | (rw[yV (by omega)];done) | (rw[nY (by omega) (by omega)];done) | (rw[nZ (by omega) (by omega)];done) | (rw[nY (by omega) (by omega)];unfold KA pO;rw[Ty.1,Ty.2];(first | rw[Pn (show k2%8=0 by omega)] | rw[Pj (show ¬k2%8=0 by omega)]);try rfl) | (rw[nZ (by omega) (by omega)];unfold KB pO;rw[Ty.1,Ty.2];(first | rw[Pn (show k2%8=0 by omega)] | rw[Pj (show ¬k2%8=0 by omega)]);try rfl)))
       · refine tt ⟨⟨oK,(rY (by omega) (by omega) (by omega))⟩,tt ⟨ix,tt ⟨⟨by omega,by simp only[P0];rfl⟩,⟨⟨by omega,oK⟩,tt ⟨qm,tt (cd (fun hc92=>?_) (fun hc92=>?_))⟩⟩⟩⟩⟩
         · refine tt ⟨⟨oK,(rY (by omega) (by omega) (by omega))⟩,⟨⟨by omega,oK⟩,tt ⟨qd,⟨(xt (k2 / 8) (by omega)),⟨(by have S9:=pN (k2 / 8);have Tg:=mG (aV p k0);have hq3:(bs [109,101,109]++b3 (k2 / 8)).size=(bs [109,101,109]).size+(b3 (k2 / 8)).size:=QZ;have:(bs [109,101,109]).size=3:=rfl;show _≤(9223372036854775807:Int);omega),tt ⟨(pP (aV p k0) (by omega)),⟨(by have S9:=pN (k2 / 8);have Tg:=mG (aV p k0);have hq3:(bs [109,101,109]++b3 (k2 / 8)).size=(bs [109,101,109]).size+(b3 (k2 / 8)).size:=QZ;have:(bs [109,101,109]).size=3:=rfl;show _≤(9223372036854775807:Int);omega),⟨ix,tt ⟨⟨by rw[PO];omega,by rw[xk (by omega)];simp only[P0,List.set_set];rfl⟩,tt ⟨?_,?_,(congrArg _ (?_:p.Pe=((cL p k0 k1 k2).Pe))),(congrArg _ (?_:(p.Pd.set (aV p k0-p.Pe.length) { p.Pd.getD (aV p k0-p.Pe.length) aA with rule:=⟨k1%4,su,nu⟩,name:=((bs [109,101,109])++(b3 (k2 / 8)))++(cz (aV p k0)) })=((cL p k0 k1 k2).Pd))),(congrArg _ (?_:p.I=((cL p k0 k1 k2).I))),(congrArg _ (?_:p.Pc=((cL p k0 k1 k2).Pc))),oK⟩⟩⟩⟩⟩⟩⟩⟩⟩⟩
           all_goals (all_goals (first | (exfalso;omega) | (rw[yV (by omega)];done) | (rw[nY (by omega) (by omega)];done) | (rw[nZ (by omega) (by omega)];done) | (rw[nY (by omega) (by omega)];unfold KA pO;rw[Ty.1,Ty.2];(first | rw[Pn (show k2%8=0 by omega)] | rw[Pj (show ¬k2%8=0 by omega)]);try rfl) | (rw[nZ (by omega) (by omega)];unfold KB pO;rw[Ty.1,Ty.2];(first | rw[Pn (show k2%8=0 by omega)] | rw[Pj (show ¬k2%8=0 by omega)]);try rfl)))
         · refine tt ⟨?_,?_,(congrArg _ (?_:p.Pe=((cL p k0 k1 k2).Pe))),(congrArg _ (?_:(p.Pd.set (aV p k0-p.Pe.length) { p.Pd.getD (aV p k0-p.Pe.length) aA with rule:=⟨k1%4,su,nu⟩ })=((cL p k0 k1 k2).Pd))),(congrArg _ (?_:p.I=((cL p k0 k1 k2).I))),(congrArg _ (?_:p.Pc=((cL p k0 k1 k2).Pc))),oK⟩
           all_goals (all_goals (first | (exfalso;omega) | (rw[yV (by omega)];done) | (rw[nY (by omega) (by omega)];done) | (rw[nZ (by omega) (by omega)];done) | (rw[nY (by omega) (by omega)];unfold KA pO;rw[Ty.1,Ty.2];(first | rw[Pn (show k2%8=0 by omega)] | rw[Pj (show ¬k2%8=0 by omega)]);try rfl) | (rw[nZ (by omega) (by omega)];unfold KB pO;rw[Ty.1,Ty.2];(first | rw[Pn (show k2%8=0 by omega)] | rw[Pj (show ¬k2%8=0 by omega)]);try rfl)))
abbrev MA (c:Ci) (b:List Int):Ct:=⟨31,[(.agg [(dL 6 bp ac c.U),(dL 5 bP aF c.J)]),(LY b)],true,(.agg [(dL 6 bp ac ((dj c b).U)),(dL 5 bP aF ((dj c b).J))])⟩
abbrev bX (c:Ci) (b:List Int):Lp (Nat×Ci):=o0 [1,4,5,6] 12 (fun (t:Nat) (u:Ci)=>⟨[(1,(LY b)),(4,(.ptr 1 0 0 0)),(5,(.ptr 11 0 0 0)),(6,(i6 ((4*t:Nat):Int)))],[(.var 31 [(dL 6 bp ac c.U),(dL 5 bP aF c.J)]),(.var 31 [.nils,.nils]),.dead,.dead,.dead,(.arr 80 6 bp ac u.U),.dead,.dead,.dead,(.arr 53 5 bP aF u.J),.dead,(.var 31 [(.own 5),(.own 9)])]⟩) (fun (t:Nat) (u:Ci)=>t≤uq b∧u=uo c b t) (fun (t:Nat) (u:Ci)=>6-t)
set_option maxHeartbeats 4000000 in
theorem GE (c:Ci) (b:List Int) (h1:c.U.length≤1000000) (h2:c.J.length≤1000000) (hz:∀j,Hf (c.U.getD j ac)) (hb:gf b):CC (MA c b):=by
 refine aq.vc (V:=TT 2 (an [] (([]:List Pr).map bp)∧TT 2 ((([]:List Pr).length+(c.U.map bp).length≤137438953472∧([]:List Pr).map bp++c.U.map bp=c.U.map bp)∧an [] (([]:List Ch).map bP)∧TT 2 ((([]:List Ch).length+(c.J.map bP).length≤137438953472∧([]:List Ch).map bP++c.J.map bP=c.J.map bP)∧TT 4 (GO (bX c b) (0,c) (∀t u,(bX c b).inv (t,u)→CS ((((4*t)+3:Nat):Int)<(b.length:Int)) (TT 1 (W6 (((4*t)+3:Nat):Int)∧TT 3 ((True∧(decide ((((4*t)+3:Nat):Int)<(b.length:Int)))=true)∧TT 3 (CD (((4*t:Nat):Int)<24) (TT 2 (W6 (((4*t)+1:Nat):Int)∧IX (((4*t)+1:Nat):Int) b.length∧TT 1 (W6 (b.getD ((4*t)+1) 0)∧TT 2 (W6 (((4*t)+2:Nat):Int)∧IX (((4*t)+2:Nat):Int) b.length∧TT 1 (W6 (b.getD ((4*t)+2) 0)∧TT 4 (IX ((4*t:Nat):Int) b.length∧TT 1 (QM (b.getD (4*t) 0) 8∧TT 2 (CD (((b.getD (4*t) 0)%8)=0) (TT 4 (CD ((u.J.length:Int)>0) (TT 6 (((u.J.length:Int)≠0∧(Int.tmod (b.getD ((4*t)+1) 0) (u.J.length:Int))=((bB u.J (b.getD (4*t+1) 0):Nat):Int))∧TT 1 (CC (II (4*t))∧(((bs [99,104,97,110]).size+(cz (4*t)).size:Nat):Int)≤IntKind.i64.max∧IX ((bB u.J (b.getD (4*t+1) 0):Nat):Int) u.J.length∧TT 1 ((bB u.J (b.getD (4*t+1) 0)<u.J.length∧(u.J.map bP).set (bB u.J (b.getD (4*t+1) 0)) ((bP (u.J.getD (bB u.J (b.getD (4*t+1) 0)) aF)).take 0++[(.str ((bs [99,104,97,110])++(cz (4*t))))]++(bP (u.J.getD (bB u.J (b.getD (4*t+1) 0)) aF)).drop (0+1))=(u.J.set (bB u.J (b.getD (4*t+1) 0)) { u.J.getD (bB u.J (b.getD (4*t+1) 0)) aF with name:=(bs [99,104,97,110])++(cz (4*t)) }).map bP)∧TT 1 ((True∧(IntKind.wrap .i64 (((4*t:Nat):Int)+4))=((4*(t+1):Nat):Int))∧TT 1 (AG (bX c b) (t,u) (t+1,(⟨u.U,u.J.set (bB u.J (b.getD (4*t+1) 0)) { u.J.getD (bB u.J (b.getD (4*t+1) 0)) aF with name:=(bs [99,104,97,110])++(cz (4*t)) }⟩:Ci)))))))) (TT 1 ((True∧(IntKind.wrap .i64 (((4*t:Nat):Int)+4))=((4*(t+1):Nat):Int))∧TT 1 (AG (bX c b) (t,u) (t+1,u)))))) (TT 2 (CD (((b.getD (4*t) 0)%8)=1) ((decide (((b.getD (4*t) 0)%8)=1))=true∧CS ((u.J.length:Int)>0) (TT 4 ((True∧(decide ((u.J.length:Int)>0))=true)∧TT 6 (((u.J.length:Int)≠0∧(Int.tmod (b.getD ((4*t)+1) 0) (u.J.length:Int))=((bB u.J (b.getD (4*t+1) 0):Nat):Int))∧IX ((bB u.J (b.getD (4*t+1) 0):Nat):Int) u.J.length∧TT 1 ((bB u.J (b.getD (4*t+1) 0)<u.J.length∧True)∧TT 2 (CD (((u.J.getD (bB u.J (b.getD (4*t+1) 0)) aF).cap)>0) (TT 6 (((u.J.length:Int)≠0∧(Int.tmod (b.getD ((4*t)+1) 0) (u.J.length:Int))=((bB u.J (b.getD (4*t+1) 0):Nat):Int))∧TT 1 (QM (b.getD ((4*t)+2) 0) 8∧W6 (1+((b.getD ((4*t)+2) 0)%8))∧IX ((bB u.J (b.getD (4*t+1) 0):Nat):Int) u.J.length∧TT 1 ((bB u.J (b.getD (4*t+1) 0)<u.J.length∧(u.J.map bP).set (bB u.J (b.getD (4*t+1) 0)) ((bP (u.J.getD (bB u.J (b.getD (4*t+1) 0)) aF)).take 2++[(.int .i64 (1+((b.getD ((4*t)+2) 0)%8)))]++(bP (u.J.getD (bB u.J (b.getD (4*t+1) 0)) aF)).drop (2+1))=(u.J.set (bB u.J (b.getD (4*t+1) 0)) { u.J.getD (bB u.J (b.getD (4*t+1) 0)) aF with cap:=1+((b.getD ((4*t)+2) 0)%8) }).map bP)∧TT 1 ((True∧(IntKind.wrap .i64 (((4*t:Nat):Int)+4))=((4*(t+1):Nat):Int))∧TT 1 (AG (bX c b) (t,u) (t+1,(⟨u.U,u.J.set (bB u.J (b.getD (4*t+1) 0)) { u.J.getD (bB u.J (b.getD (4*t+1) 0)) aF with cap:=1+((b.getD ((4*t)+2) 0)%8) }⟩:Ci)))))))) (TT 1 ((True∧(IntKind.wrap .i64 (((4*t:Nat):Int)+4))=((4*(t+1):Nat):Int))∧TT 1 (AG (bX c b) (t,u) (t+1,u))))))))) (TT 4 ((True∧(decide ((u.J.length:Int)>0))=false)∧TT 2 ((True∧(IntKind.wrap .i64 (((4*t:Nat):Int)+4))=((4*(t+1):Nat):Int))∧TT 1 (AG (bX c b) (t,u) (t+1,u)))))) (TT 2 (CD (((b.getD (4*t) 0)%8)=2) (CS ((u.J.length:Int)>0) (TT 4 ((True∧(decide ((u.J.length:Int)>0))=true)∧TT 6 (((u.J.length:Int)≠0∧(Int.tmod (b.getD ((4*t)+1) 0) (u.J.length:Int))=((bB u.J (b.getD (4*t+1) 0):Nat):Int))∧IX ((bB u.J (b.getD (4*t+1) 0):Nat):Int) u.J.length∧TT 1 ((bB u.J (b.getD (4*t+1) 0)<u.J.length∧True)∧TT 2 (CD (((u.J.getD (bB u.J (b.getD (4*t+1) 0)) aF).cap)>0) (TT 6 (((u.J.length:Int)≠0∧(Int.tmod (b.getD ((4*t)+1) 0) (u.J.length:Int))=((bB u.J (b.getD (4*t+1) 0):Nat):Int))∧TT 1 (QM (b.getD ((4*t)+2) 0) 8∧W6 (1+((b.getD ((4*t)+2) 0)%8))∧IX ((bB u.J (b.getD (4*t+1) 0):Nat):Int) u.J.length∧TT 1 ((bB u.J (b.getD (4*t+1) 0)<u.J.length∧(u.J.map bP).set (bB u.J (b.getD (4*t+1) 0)) ((bP (u.J.getD (bB u.J (b.getD (4*t+1) 0)) aF)).take 2++[(.int .i64 (1+((b.getD ((4*t)+2) 0)%8)))]++(bP (u.J.getD (bB u.J (b.getD (4*t+1) 0)) aF)).drop (2+1))=(u.J.set (bB u.J (b.getD (4*t+1) 0)) { u.J.getD (bB u.J (b.getD (4*t+1) 0)) aF with cap:=1+((b.getD ((4*t)+2) 0)%8) }).map bP)∧TT 1 ((True∧(IntKind.wrap .i64 (((4*t:Nat):Int)+4))=((4*(t+1):Nat):Int))∧TT 1 (AG (bX c b) (t,u) (t+1,(⟨u.U,u.J.set (bB u.J (b.getD (4*t+1) 0)) { u.J.getD (bB u.J (b.getD (4*t+1) 0)) aF with cap:=1+((b.getD ((4*t)+2) 0)%8) }⟩:Ci)))))))) (TT 1 ((True∧(IntKind.wrap .i64 (((4*t:Nat):Int)+4))=((4*(t+1):Nat):Int))∧TT 1 (AG (bX c b) (t,u) (t+1,u))))))))) (TT 4 ((True∧(decide ((u.J.length:Int)>0))=false)∧TT 2 ((True∧(IntKind.wrap .i64 (((4*t:Nat):Int)+4))=((4*(t+1):Nat):Int))∧TT 1 (AG (bX c b) (t,u) (t+1,u)))))) (TT 2 (CD (((b.getD (4*t) 0)%8)=3) (TT 4 (CD ((u.U.length:Int)>0) (TT 6 (((u.U.length:Int)≠0∧(Int.tmod (b.getD ((4*t)+1) 0) (u.U.length:Int))=((bB u.U (b.getD (4*t+1) 0):Nat):Int))∧TT 1 (CC (II (4*t))∧(((bs [112,114,111,99]).size+(cz (4*t)).size:Nat):Int)≤IntKind.i64.max∧IX ((bB u.U (b.getD (4*t+1) 0):Nat):Int) u.U.length∧TT 1 ((bB u.U (b.getD (4*t+1) 0)<u.U.length∧(u.U.map bp).set (bB u.U (b.getD (4*t+1) 0)) ((bp (u.U.getD (bB u.U (b.getD (4*t+1) 0)) ac)).take 0++[(.str ((bs [112,114,111,99])++(cz (4*t))))]++(bp (u.U.getD (bB u.U (b.getD (4*t+1) 0)) ac)).drop (0+1))=(u.U.set (bB u.U (b.getD (4*t+1) 0)) { u.U.getD (bB u.U (b.getD (4*t+1) 0)) ac with name:=(bs [112,114,111,99])++(cz (4*t)) }).map bp)∧TT 1 ((True∧(IntKind.wrap .i64 (((4*t:Nat):Int)+4))=((4*(t+1):Nat):Int))∧TT 1 (AG (bX c b) (t,u) (t+1,(⟨u.U.set (bB u.U (b.getD (4*t+1) 0)) { u.U.getD (bB u.U (b.getD (4*t+1) 0)) ac with name:=(bs [112,114,111,99])++(cz (4*t)) },u.J⟩:Ci)))))))) (TT 1 ((True∧(IntKind.wrap .i64 (((4*t:Nat):Int)+4))=((4*(t+1):Nat):Int))∧TT 1 (AG (bX c b) (t,u) (t+1,u)))))) (TT 4 (CD ((u.U.length:Int)>0) (TT 6 (((u.U.length:Int)≠0∧(Int.tmod (b.getD ((4*t)+1) 0) (u.U.length:Int))=((bB u.U (b.getD (4*t+1) 0):Nat):Int))∧TT 6 (((u.U.length:Int)≠0∧(Int.tmod (b.getD ((4*t)+1) 0) (u.U.length:Int))=((bB u.U (b.getD (4*t+1) 0):Nat):Int))∧IX ((bB u.U (b.getD (4*t+1) 0):Nat):Int) u.U.length∧(bB u.U (b.getD (4*t+1) 0)<u.U.length∧True)∧TT 3 (W6 (((4*t)+3:Nat):Int)∧IX (((4*t)+3:Nat):Int) b.length∧TT 1 (W6 (b.getD ((4*t)+3) 0)∧TT 2 (IX ((4*t:Nat):Int) b.length∧TT 1 (W6 (b.getD (4*t) 0)∧TT 1 (W6 ((b.getD (4*t) 0)+(b.getD ((4*t)+2) 0))∧TT 1 (CC (NZ (u.U.getD (bB u.U (b.getD (4*t+1) 0)) ac) (b.getD ((4*t)+2) 0) (b.getD ((4*t)+3) 0) ((b.getD (4*t) 0)+(b.getD ((4*t)+2) 0)))∧IX ((bB u.U (b.getD (4*t+1) 0):Nat):Int) u.U.length∧(bB u.U (b.getD (4*t+1) 0)<u.U.length∧(u.U.map bp).set (bB u.U (b.getD (4*t+1) 0)) ((bp (u.U.getD (bB u.U (b.getD (4*t+1) 0)) ac)).take 0++[(.str ((cL (u.U.getD (bB u.U (b.getD (4*t+1) 0)) ac) (b.getD ((4*t)+2) 0) (b.getD ((4*t)+3) 0) ((b.getD (4*t) 0)+(b.getD ((4*t)+2) 0))).name)),(.str ((cL (u.U.getD (bB u.U (b.getD (4*t+1) 0)) ac) (b.getD ((4*t)+2) 0) (b.getD ((4*t)+3) 0) ((b.getD (4*t) 0)+(b.getD ((4*t)+2) 0))).clock)),(.sl 13 bG aK ((cL (u.U.getD (bB u.U (b.getD (4*t+1) 0)) ac) (b.getD ((4*t)+2) 0) (b.getD ((4*t)+3) 0) ((b.getD (4*t) 0)+(b.getD ((4*t)+2) 0))).Pe)),(.sl 27 bS aA ((cL (u.U.getD (bB u.U (b.getD (4*t+1) 0)) ac) (b.getD ((4*t)+2) 0) (b.getD ((4*t)+3) 0) ((b.getD (4*t) 0)+(b.getD ((4*t)+2) 0))).Pd)),(.sl 9 dU bV ((cL (u.U.getD (bB u.U (b.getD (4*t+1) 0)) ac) (b.getD ((4*t)+2) 0) (b.getD ((4*t)+3) 0) ((b.getD (4*t) 0)+(b.getD ((4*t)+2) 0))).I)),(.sl 16 dT b4 ((cL (u.U.getD (bB u.U (b.getD (4*t+1) 0)) ac) (b.getD ((4*t)+2) 0) (b.getD ((4*t)+3) 0) ((b.getD (4*t) 0)+(b.getD ((4*t)+2) 0))).Pc))]++(bp (u.U.getD (bB u.U (b.getD (4*t+1) 0)) ac)).drop (0+6))=(u.U.set (bB u.U (b.getD (4*t+1) 0)) (cL (u.U.getD (bB u.U (b.getD (4*t+1) 0)) ac) (b.getD ((4*t)+2) 0) (b.getD ((4*t)+3) 0) ((b.getD (4*t) 0)+(b.getD ((4*t)+2) 0)))).map bp)∧TT 1 ((True∧(IntKind.wrap .i64 (((4*t:Nat):Int)+4))=((4*(t+1):Nat):Int))∧TT 1 (AG (bX c b) (t,u) (t+1,(⟨u.U.set (bB u.U (b.getD (4*t+1) 0)) (cL (u.U.getD (bB u.U (b.getD (4*t+1) 0)) ac) (b.getD ((4*t)+2) 0) (b.getD ((4*t)+3) 0) ((b.getD (4*t) 0)+(b.getD ((4*t)+2) 0))),u.J⟩:Ci))))))))))))) (TT 1 ((True∧(IntKind.wrap .i64 (((4*t:Nat):Int)+4))=((4*(t+1):Nat):Int))∧TT 1 (AG (bX c b) (t,u) (t+1,u)))))))))))))))))))) (TT 3 (u.U.map bp=((dj c b).U).map bp∧u.J.map bP=((dj c b).J).map bP∧True)))))) (TT 1 (W6 (((4*t)+3:Nat):Int)∧TT 3 ((True∧(decide ((((4*t)+3:Nat):Int)<(b.length:Int)))=false)∧TT 6 (u.U.map bp=((dj c b).U).map bp∧u.J.map bP=((dj c b).J).map bP∧True)))))))))) (.w 1 [(0,.app false 80 6 bp ac ([]:List Pr)),(3,.app false 80 6 bp ac c.U),(4,.app false 53 5 bP aF ([]:List Ch)),(7,.app false 53 5 bP aF c.J)]<|.l (bX c b) (0,c) (fun ⟨t,u⟩=>.s 3 ((((4*t)+3:Nat):Int)<(b.length:Int)) (.w 3 [(1,.val (i6 (((4*t)+3:Nat):Int))),(5,.val (dB true))]<|.b 26 (.w 5 [(2,.val (i6 (((4*t)+1:Nat):Int))),(5,.val (i6 (b.getD ((4*t)+1) 0))),(8,.val (i6 (((4*t)+2:Nat):Int))),(11,.val (i6 (b.getD ((4*t)+2) 0)))]<|.w 6 [(4,.val (dI .u8 ((b.getD (4*t) 0)%8)))]<|.b 83 (.b 88 (.w 11 [(6,.val (i6 ((bB u.J (b.getD (4*t+1) 0):Nat):Int))),(8,(II (4*t)).O),(12,.box 53 5 bP aF (u.J.set (bB u.J (b.getD (4*t+1) 0)) { u.J.getD (bB u.J (b.getD (4*t+1) 0)) aF with name:=(bs [99,104,97,110])++(cz (4*t)) }))]<|.w 4 [(1,.val (i6 ((4*(t+1):Nat):Int)))]<|.e) (.w 4 [(1,.val (i6 ((4*(t+1):Nat):Int)))]<|.e)) (.b 101 (.t 101 (.s 14 ((u.J.length:Int)>0) (.w 14 [(4,.val (dB true)),(11,.val (i6 ((bB u.J (b.getD (4*t+1) 0):Nat):Int)))]<|.b 120 (.w 15 [(6,.val (i6 ((bB u.J (b.getD (4*t+1) 0):Nat):Int))),(8,.val (i6 ((b.getD ((4*t)+2) 0)%8))),(9,.val (i6 (1+((b.getD ((4*t)+2) 0)%8)))),(12,.box 53 5 bP aF (u.J.set (bB u.J (b.getD (4*t+1) 0)) { u.J.getD (bB u.J (b.getD (4*t+1) 0)) aF with cap:=1+((b.getD ((4*t)+2) 0)%8) }))]<|.w 4 [(1,.val (i6 ((4*(t+1):Nat):Int)))]<|.e) (.w 4 [(1,.val (i6 ((4*(t+1):Nat):Int)))]<|.e)) (.w 14 [(4,.val (dB false))]<|.w 4 [(1,.val (i6 ((4*(t+1):Nat):Int)))]<|.e))) (.b 101 (.s 14 ((u.J.length:Int)>0) (.w 14 [(4,.val (dB true)),(11,.val (i6 ((bB u.J (b.getD (4*t+1) 0):Nat):Int)))]<|.b 120 (.w 15 [(6,.val (i6 ((bB u.J (b.getD (4*t+1) 0):Nat):Int))),(8,.val (i6 ((b.getD ((4*t)+2) 0)%8))),(9,.val (i6 (1+((b.getD ((4*t)+2) 0)%8)))),(12,.box 53 5 bP aF (u.J.set (bB u.J (b.getD (4*t+1) 0)) { u.J.getD (bB u.J (b.getD (4*t+1) 0)) aF with cap:=1+((b.getD ((4*t)+2) 0)%8) }))]<|.w 4 [(1,.val (i6 ((4*(t+1):Nat):Int)))]<|.e) (.w 4 [(1,.val (i6 ((4*(t+1):Nat):Int)))]<|.e)) (.w 14 [(4,.val (dB false))]<|.w 4 [(1,.val (i6 ((4*(t+1):Nat):Int)))]<|.e)) (.b 133 (.b 138 (.w 18 [(6,.val (i6 ((bB u.U (b.getD (4*t+1) 0):Nat):Int))),(8,(II (4*t)).O),(12,.box 80 6 bp ac (u.U.set (bB u.U (b.getD (4*t+1) 0)) { u.U.getD (bB u.U (b.getD (4*t+1) 0)) ac with name:=(bs [112,114,111,99])++(cz (4*t)) }))]<|.w 4 [(1,.val (i6 ((4*(t+1):Nat):Int)))]<|.e) (.w 4 [(1,.val (i6 ((4*(t+1):Nat):Int)))]<|.e)) (.b 49 (.w 8 [(6,.val (i6 ((bB u.U (b.getD (4*t+1) 0):Nat):Int))),(13,.val (i6 ((bB u.U (b.getD (4*t+1) 0):Nat):Int))),(19,.val (i6 (((4*t)+3:Nat):Int))),(22,.val (i6 (b.getD ((4*t)+3) 0))),(27,.val (i6 (b.getD (4*t) 0))),(29,.val (i6 ((b.getD (4*t) 0)+(b.getD ((4*t)+2) 0)))),(31,(NZ (u.U.getD (bB u.U (b.getD (4*t+1) 0)) ac) (b.getD ((4*t)+2) 0) (b.getD ((4*t)+3) 0) ((b.getD (4*t) 0)+(b.getD ((4*t)+2) 0))).O),(33,.box 80 6 bp ac (u.U.set (bB u.U (b.getD (4*t+1) 0)) (cL (u.U.getD (bB u.U (b.getD (4*t+1) 0)) ac) (b.getD ((4*t)+2) 0) (b.getD ((4*t)+3) 0) ((b.getD (4*t) 0)+(b.getD ((4*t)+2) 0)))))]<|.w 4 [(1,.val (i6 ((4*(t+1):Nat):Int)))]<|.e) (.w 4 [(1,.val (i6 ((4*(t+1):Nat):Int)))]<|.e)))))) (.e)) (.w 3 [(1,.val (i6 (((4*t)+3:Nat):Int))),(5,.val (dB false))]<|.e))) Try.func31 rfl rfl rfl (by kernel_rfl) ?_
 refine tt ⟨oK,tt ⟨⟨by simp only[Py,PP];omega,by rfl⟩,⟨oK,tt ⟨⟨by simp only[Py,PP];omega,by rfl⟩,tt ⟨rfl,⟨by unfold uq;omega,rfl⟩,?_⟩⟩⟩⟩⟩
 intro t u F'
 obtain⟨ht,hu⟩:=F'
 have hN:uq b=min 6 (b.length / 4):=rfl
 have VF:=b5 hb (4*t)
 have Uu:=b5 hb (4*t+1)
 have SD:=b5 hb (4*t+2)
 have Wx:=b5 hb (4*t+3)
 have hul:=Cn c b t
 rw[← hu]at hul
 have RU:=Gt (b:=b) hz t
 rw[← hu]at RU
 refine⟨fun Ru=>?_,fun Ru=>?_⟩
 · refine tt ⟨w6,tt ⟨(vT Ru),tt (cd (fun We=>?_) (fun We=>?_))⟩⟩
   · refine tt ⟨w6,⟨ix,tt ⟨w6,tt ⟨w6,⟨ix,tt ⟨w6,tt ⟨ix,tt ⟨qm,tt (cd (fun UY=>?_) (fun UY=>?_))⟩⟩⟩⟩⟩⟩⟩⟩
     · have hic:0<u.J.length→bB u.J (b.getD (4*t+1) 0)<u.J.length:=fun h=>eP _ h
       refine tt (cd (fun hc88=>?_) (fun hc88=>?_))
       · refine tt ⟨⟨om,(lS Uu.1)⟩,tt ⟨(pP (4*t) (by omega)),⟨(by have Tg:=mG (4*t);have:(bs [99,104,97,110]).size=4:=rfl;show _≤(9223372036854775807:Int);omega),⟨ix,tt ⟨⟨by omega,by simp only[P0];rfl⟩,tt ⟨⟨oK,(rY (by omega) (by omega) (by omega))⟩,tt ⟨(t+1,(⟨u.U,u.J.set (bB u.J (b.getD (4*t+1) 0)) { u.J.getD (bB u.J (b.getD (4*t+1) 0)) aF with name:=(bs [99,104,97,110])++(cz (4*t)) }⟩:Ci)),rfl,?_,(?_:6-(t+1)<6-t)⟩⟩⟩⟩⟩⟩⟩
         · refine⟨by unfold uq;omega,?_⟩
           rw[uo,← hu]
           first | exact(yR (by omega) (by omega)).symm | exact(yS (by omega) (by omega) (by omega)).symm | exact(yT (by omega) (by omega)).symm | exact(yU (by omega) (by omega) (by omega) (by omega) (by omega)).symm
         · omega
       · refine tt ⟨⟨oK,(rY (by omega) (by omega) (by omega))⟩,tt ⟨(t+1,u),rfl,?_,(?_:6-(t+1)<6-t)⟩⟩
         · refine⟨by unfold uq;omega,?_⟩
           rw[uo,← hu]
           first | exact(oQ (by omega) (by omega)).symm | exact(oS (by omega) (by omega)).symm | exact(oT (by omega) (by omega)).symm | exact(oU (by omega) (by omega) (by omega) (by omega) (by omega)).symm
         · omega
     · refine tt (cd (fun Vf=>?_) (fun Vf=>?_))
       · refine⟨(Pq Vf),?_⟩
         have hic:0<u.J.length→bB u.J (b.getD (4*t+1) 0)<u.J.length:=fun h=>eP _ h
         refine⟨fun RQ=>?_,fun RQ=>?_⟩
         · refine tt ⟨(vT RQ),tt ⟨⟨om,(lS Uu.1)⟩,⟨ix,tt ⟨⟨om,oK⟩,tt (cd (fun Wh=>?_) (fun Wh=>?_))⟩⟩⟩⟩
           · refine tt ⟨⟨om,(lS Uu.1)⟩,tt ⟨qm,⟨w6,⟨ix,tt ⟨⟨by omega,by simp only[P0];rfl⟩,tt ⟨⟨oK,(rY (by omega) (by omega) (by omega))⟩,tt ⟨(t+1,(⟨u.U,u.J.set (bB u.J (b.getD (4*t+1) 0)) { u.J.getD (bB u.J (b.getD (4*t+1) 0)) aF with cap:=1+((b.getD ((4*t)+2) 0)%8) }⟩:Ci)),rfl,?_,(?_:6-(t+1)<6-t)⟩⟩⟩⟩⟩⟩⟩
             · refine⟨by unfold uq;omega,?_⟩
               rw[uo,← hu]
               first | exact(yR (by omega) (by omega)).symm | exact(yS (by omega) (by omega) (by omega)).symm | exact(yT (by omega) (by omega)).symm | exact(yU (by omega) (by omega) (by omega) (by omega) (by omega)).symm
             · omega
           · refine tt ⟨⟨oK,(rY (by omega) (by omega) (by omega))⟩,tt ⟨(t+1,u),rfl,?_,(?_:6-(t+1)<6-t)⟩⟩
             · refine⟨by unfold uq;omega,?_⟩
               rw[uo,← hu]
               first | exact(oQ (by omega) (by omega)).symm | exact(oS (by omega) (by omega)).symm | exact(oT (by omega) (by omega)).symm | exact(oU (by omega) (by omega) (by omega) (by omega) (by omega)).symm
             · omega
         · refine tt ⟨(vF RQ),tt ⟨⟨oK,(rY (by omega) (by omega) (by omega))⟩,tt ⟨(t+1,u),rfl,?_,(?_:6-(t+1)<6-t)⟩⟩⟩
           · refine⟨by unfold uq;omega,?_⟩
             rw[uo,← hu]
             first | exact(oQ (by omega) (by omega)).symm | exact(oS (by omega) (by omega)).symm | exact(oT (by omega) (by omega)).symm | exact(oU (by omega) (by omega) (by omega) (by omega) (by omega)).symm
           · omega
       · refine tt (cd (fun Vf=>?_) (fun Vf=>?_))
         · have hic:0<u.J.length→bB u.J (b.getD (4*t+1) 0)<u.J.length:=fun h=>eP _ h
           refine⟨fun SZ=>?_,fun SZ=>?_⟩
           · refine tt ⟨(vT SZ),tt ⟨⟨om,(lS Uu.1)⟩,⟨ix,tt ⟨⟨om,oK⟩,tt (cd (fun Wh=>?_) (fun Wh=>?_))⟩⟩⟩⟩
             · refine tt ⟨⟨om,(lS Uu.1)⟩,tt ⟨qm,⟨w6,⟨ix,tt ⟨⟨by omega,by simp only[P0];rfl⟩,tt ⟨⟨oK,(rY (by omega) (by omega) (by omega))⟩,tt ⟨(t+1,(⟨u.U,u.J.set (bB u.J (b.getD (4*t+1) 0)) { u.J.getD (bB u.J (b.getD (4*t+1) 0)) aF with cap:=1+((b.getD ((4*t)+2) 0)%8) }⟩:Ci)),rfl,?_,(?_:6-(t+1)<6-t)⟩⟩⟩⟩⟩⟩⟩
               · refine⟨by unfold uq;omega,?_⟩
                 rw[uo,← hu]
                 first | exact(yR (by omega) (by omega)).symm | exact(yS (by omega) (by omega) (by omega)).symm | exact(yT (by omega) (by omega)).symm | exact(yU (by omega) (by omega) (by omega) (by omega) (by omega)).symm
               · omega
             · refine tt ⟨⟨oK,(rY (by omega) (by omega) (by omega))⟩,tt ⟨(t+1,u),rfl,?_,(?_:6-(t+1)<6-t)⟩⟩
               · refine⟨by unfold uq;omega,?_⟩
                 rw[uo,← hu]
                 first | exact(oQ (by omega) (by omega)).symm | exact(oS (by omega) (by omega)).symm | exact(oT (by omega) (by omega)).symm | exact(oU (by omega) (by omega) (by omega) (by omega) (by omega)).symm
               · omega
           · refine tt ⟨(vF SZ),tt ⟨⟨oK,(rY (by omega) (by omega) (by omega))⟩,tt ⟨(t+1,u),rfl,?_,(?_:6-(t+1)<6-t)⟩⟩⟩
             · refine⟨by unfold uq;omega,?_⟩
               rw[uo,← hu]
               first | exact(oQ (by omega) (by omega)).symm | exact(oS (by omega) (by omega)).symm | exact(oT (by omega) (by omega)).symm | exact(oU (by omega) (by omega) (by omega) (by omega) (by omega)).symm
             · omega
         · refine tt (cd (fun hc133=>?_) (fun hc133=>?_))
           · have hip:0<u.U.length→bB u.U (b.getD (4*t+1) 0)<u.U.length:=fun h=>eP _ h
             refine tt (cd (fun hc138=>?_) (fun hc138=>?_))
             · refine tt ⟨⟨om,(lS Uu.1)⟩,tt ⟨(pP (4*t) (by omega)),⟨(by have Tg:=mG (4*t);have:(bs [112,114,111,99]).size=4:=rfl;show _≤(9223372036854775807:Int);omega),⟨ix,tt ⟨⟨by omega,by simp only[P0];rfl⟩,tt ⟨⟨oK,(rY (by omega) (by omega) (by omega))⟩,tt ⟨(t+1,(⟨u.U.set (bB u.U (b.getD (4*t+1) 0)) { u.U.getD (bB u.U (b.getD (4*t+1) 0)) ac with name:=(bs [112,114,111,99])++(cz (4*t)) },u.J⟩:Ci)),rfl,?_,(?_:6-(t+1)<6-t)⟩⟩⟩⟩⟩⟩⟩
               · refine⟨by unfold uq;omega,?_⟩
                 rw[uo,← hu]
                 first | exact(yR (by omega) (by omega)).symm | exact(yS (by omega) (by omega) (by omega)).symm | exact(yT (by omega) (by omega)).symm | exact(yU (by omega) (by omega) (by omega) (by omega) (by omega)).symm
               · omega
             · refine tt ⟨⟨oK,(rY (by omega) (by omega) (by omega))⟩,tt ⟨(t+1,u),rfl,?_,(?_:6-(t+1)<6-t)⟩⟩
               · refine⟨by unfold uq;omega,?_⟩
                 rw[uo,← hu]
                 first | exact(oQ (by omega) (by omega)).symm | exact(oS (by omega) (by omega)).symm | exact(oT (by omega) (by omega)).symm | exact(oU (by omega) (by omega) (by omega) (by omega) (by omega)).symm
               · omega
           · have hip:0<u.U.length→bB u.U (b.getD (4*t+1) 0)<u.U.length:=fun h=>eP _ h
             refine tt (cd (fun hc49=>?_) (fun hc49=>?_))
             · have RB:=RU (bB u.U (b.getD (4*t+1) 0))
               refine tt ⟨⟨om,(lS Uu.1)⟩,tt ⟨⟨om,(lS Uu.1)⟩,⟨ix,⟨⟨om,oK⟩,tt ⟨w6,⟨ix,tt ⟨w6,tt ⟨ix,tt ⟨w6,tt ⟨w6,tt ⟨(GD (u.U.getD (bB u.U (b.getD (4*t+1) 0)) ac) (b.getD ((4*t)+2) 0) (b.getD ((4*t)+3) 0) ((b.getD (4*t) 0)+(b.getD ((4*t)+2) 0)) RB SD.1 (by omega) (by omega)),⟨ix,⟨⟨by omega,by simp only[P0];rfl⟩,tt ⟨⟨oK,(rY (by omega) (by omega) (by omega))⟩,tt ⟨(t+1,(⟨u.U.set (bB u.U (b.getD (4*t+1) 0)) (cL (u.U.getD (bB u.U (b.getD (4*t+1) 0)) ac) (b.getD ((4*t)+2) 0) (b.getD ((4*t)+3) 0) ((b.getD (4*t) 0)+(b.getD ((4*t)+2) 0))),u.J⟩:Ci)),rfl,?_,(?_:6-(t+1)<6-t)⟩⟩⟩⟩⟩⟩⟩⟩⟩⟩⟩⟩⟩⟩⟩
               · refine⟨by unfold uq;omega,?_⟩
                 rw[uo,← hu]
                 first | exact(yR (by omega) (by omega)).symm | exact(yS (by omega) (by omega) (by omega)).symm | exact(yT (by omega) (by omega)).symm | exact(yU (by omega) (by omega) (by omega) (by omega) (by omega)).symm
               · omega
             · refine tt ⟨⟨oK,(rY (by omega) (by omega) (by omega))⟩,tt ⟨(t+1,u),rfl,?_,(?_:6-(t+1)<6-t)⟩⟩
               · refine⟨by unfold uq;omega,?_⟩
                 rw[uo,← hu]
                 first | exact(oQ (by omega) (by omega)).symm | exact(oS (by omega) (by omega)).symm | exact(oT (by omega) (by omega)).symm | exact(oU (by omega) (by omega) (by omega) (by omega) (by omega)).symm
               · omega
   · refine tt ⟨(congrArg _ (?_:u.U=((dj c b).U))),(congrArg _ (?_:u.J=((dj c b).J))),oK⟩
     all_goals (all_goals (rw[hu,show t=uq b by unfold uq;omega];rfl))
 · refine tt ⟨w6,tt ⟨(vF Ru),tt ⟨(congrArg _ (?_:u.U=((dj c b).U))),(congrArg _ (?_:u.J=((dj c b).J))),oK⟩⟩⟩
   all_goals (all_goals (rw[hu,show t=uq b by unfold uq;omega];rfl))
abbrev dF (n:Int):Ct:=⟨106,[(i6 n)],false,(dB (aI n))⟩
theorem dG (n:Int):CC (dF n):=by
 refine aq.vc (V:=TT 1 (CS (n≥1) (TT 2 ((True∧(decide (n≥1))=true)∧TT 5 ((decide (n≤8))=(aI n)∧True))) (TT 2 ((True∧(decide (n≥1))=false)∧TT 5 (false=(aI n)∧True))))) (.s 1 (n≥1) (.w 1 [(2,.val (dB true))]<|.e) (.w 1 [(2,.val (dB false))]<|.e)) Try.func106 rfl rfl rfl (by kernel_rfl) ?_
 refine tt ⟨fun Ru=>?_,fun Ru=>?_⟩
 · refine tt ⟨(vT Ru),tt ⟨?_,oK⟩⟩
   unfold aI;simp;omega
 · refine tt ⟨(vF Ru),tt ⟨?_,oK⟩⟩
   unfold aI;simp;omega
abbrev AO (w:Int):Ct:=⟨54,[(i6 w)],false,(i6 (aE w))⟩
theorem i5 (w:Int):CC (AO w):=by
 refine aq.vc (V:=TT 1 (CS (w<0) (TT 2 ((True∧(decide (w<0))=true)∧TT 5 ((0:Int)=(aE w)∧True))) (TT 2 ((True∧(decide (w<0))=false)∧TT 3 (CD (w>62) (TT 2 ((0:Int)=(aE w)∧True)) (TT 1 ((True∧IntKind.u64.wrap w=w)∧SH w∧W6 ((2^w.toNat)-1)∧TT 2 (((2^w.toNat)-1)=(aE w)∧True)))))))) (.s 1 (w<0) (.w 1 [(2,.val (dB true))]<|.e) (.w 1 [(2,.val (dB false))]<|.b 8 (.e) (.w 3 [(1,.val (dI .u64 w)),(2,.val (i6 (2^w.toNat))),(3,.val (i6 ((2^w.toNat)-1)))]<|.e))) Try.func54 rfl rfl rfl (by kernel_rfl) ?_
 refine tt ⟨fun Ru=>?_,fun Ru=>?_⟩
 · refine tt ⟨(vT Ru),tt ⟨?_,oK⟩⟩
   unfold aE;first | exact(Pn (by omega)).symm | exact(Pj (by omega)).symm
 · refine tt ⟨(vF Ru),tt (cd (fun WR=>?_) (fun WR=>?_))⟩
   · refine tt ⟨?_,oK⟩
     unfold aE;first | exact(Pn (by omega)).symm | exact(Pj (by omega)).symm
   · refine tt ⟨⟨oK,Dx rfl om om⟩,⟨sh,⟨(w6 (by have:=lJ (n:=w.toNat) (by omega);omega) (by have:=lJ (n:=w.toNat) (by omega);omega)),tt ⟨?_,oK⟩⟩⟩⟩
     unfold aE;first | exact(Pn (by omega)).symm | exact(Pj (by omega)).symm
abbrev GH (b:Bool):Ct:=⟨109,[(dB b)],false,(i6 (if b=true then 1 else 0))⟩
theorem zc (b:Bool):CC (GH b):=by
 refine aq.vc (V:=TT 2 (CB (b) (TT 2 ((1:Int)=(if b=true then 1 else 0)∧True)) (TT 2 ((0:Int)=(if b=true then 1 else 0)∧True)))) (.b 3 (.e) (.e)) Try.func109 rfl rfl rfl (by kernel_rfl) ?_
 refine tt ⟨fun hc3=>?_,fun hc3=>?_⟩
 · refine tt ⟨?_,oK⟩
   first | exact(Pn hc3).symm | exact(Pj (by rw[hc3];simp)).symm
 · refine tt ⟨?_,oK⟩
   first | exact(Pn hc3).symm | exact(Pj (by rw[hc3];simp)).symm
abbrev i7 (ws:List Int) (n:Nat):Ct:=⟨107,[(LI ws),(i6 (n:Int))],false,(dB true)⟩
abbrev mN (ws:List Int) (n:Nat):Lp (Nat):=iC [0,1,5] 0 (fun (i:Nat)=>⟨[(0,(LI ws)),(1,(i6 (n:Int))),(5,(i6 (i:Int)))],[]⟩) (fun (i:Nat)=>i≤n) (fun (i:Nat)=>n-i)
theorem df (ws:List Int) (n:Nat) (h:eC ws n=true) (hn:n≤3):CC (i7 ws n):=by
 have hl:=(bf h).1
 refine aq.vc (V:=TT 5 ((!decide ((ws.length:Int)=(n:Int)))=false∧TT 1 (GO (mN ws n) 0 (∀i,(mN ws n).inv i→TT 3 (CD ((i:Int)<(n:Int)) (TT 2 (IX (i:Int) ws.length∧TT 1 (CC (dF (ws.getD i 0))∧TT 1 ((!(aI (ws.getD i 0)))=false∧TT 1 (W6 ((i+1:Nat):Int)∧TT 1 (AG (mN ws n) i (i+1))))))) (CS ((n:Int)<2) (TT 2 ((True∧(decide ((n:Int)<2))=true)∧TT 3 (true=true∧True))) (TT 2 ((True∧(decide ((n:Int)<2))=false)∧TT 2 ((True∧(IntKind.wrap .i64 ((n:Int)-1))=((n-1:Nat):Int))∧IX ((n-1:Nat):Int) ws.length∧TT 3 ((True∧(IntKind.wrap .i64 ((n:Int)-2))=((n-2:Nat):Int))∧IX ((n-2:Nat):Int) ws.length∧TT 5 (((ws.getD (n-1) 0)==(ws.getD (n-2) 0))=true∧True))))))))))) (.u 9 (.l (mN ws n) 0 (fun i=>.b 12 (.w 6 [(4,(dF (ws.getD i 0)).O)]<|.u 20 (.w 5 [(1,.val (i6 ((i+1:Nat):Int)))]<|.e)) (.s 8 ((n:Int)<2) (.w 8 [(2,.val (dB true))]<|.e) (.w 8 [(2,.val (dB false)),(5,.val (i6 ((n-1:Nat):Int))),(10,.val (i6 ((n-2:Nat):Int)))]<|.e))))) Try.func107 rfl rfl rfl (by kernel_rfl) ?_
 refine tt ⟨(Nb (by omega)),tt ⟨rfl,(by omega),?_⟩⟩
 intro i F'
 have hi:=F'
 refine tt (cd (fun SQ=>?_) (fun SQ=>?_))
 · refine tt ⟨ix,tt ⟨(dG (ws.getD i 0)),tt ⟨(yf (cu h (by omega))),tt ⟨w6,tt ⟨(i+1),rfl,(?_:(i+1)≤n),(?_:n-(i+1)<n-i)⟩⟩⟩⟩⟩
   · omega
   · omega
 · refine⟨fun Ru=>?_,fun Ru=>?_⟩
   · exact tt ⟨(vT Ru),tt ⟨rfl,oK⟩⟩
   · refine tt ⟨(vF Ru),tt ⟨⟨oK,(rY (by omega) (by omega) (by omega))⟩,⟨ix,tt ⟨⟨oK,(rY (by omega) (by omega) (by omega))⟩,⟨ix,tt ⟨?_,oK⟩⟩⟩⟩⟩⟩
     have h3:=(bf h).2.2
     simpa using(h3.resolve_left (by omega))
abbrev GI (op:Int) (ws:List Int) (k w:Int):Ct:=⟨104,[(i6 op),(LI ws),(.agg [(i6 k),(i6 w)])],false,(.agg [(i6 (cB op ws k w)),(i6 0)])⟩
theorem tY (op:Int) (ws:List Int) (k w:Int) (h:jc op ws k w=true):CC (GI op ws k w):=by
 have hr:=tW h
 have hwl:ws.length≤3:=by
   have h1:=(km h).1
   have h2:cO op≤3:=by unfold cO;split<;>(try split)<;>(try split)<;>(try split)<;>omega
   omega
 refine aq.vc (V:=TT 2 (((0≤(0:Int)∧0<(2:Int))∧True)∧TT 1 (((0≤(1:Int)∧1<(2:Int))∧True)∧TT 7 (CD (op=1) (TT 3 ((True∧(decide ((ws.length:Int)=0))=true)∧TT 1 (CC (dF w)∧TT 1 ((True∧(aI w)=true)∧TT 3 ((True∧(decide (k≥0))=true)∧TT 2 (CC (AO w)∧TT 2 ((decide (k≤(aE w)))=true∧TT 3 (CC (dF w)∧TT 1 ((!(aI w))=false∧TT 4 (((w=(cB op ws k w)∧(0:Int)=0∧True))∧((True∧True∧True)))))))))))) (TT 2 (CD (op=2) (TT 1 (CC (i7 ws 1)∧TT 1 (IX 0 ws.length∧TT 3 (CC (dF (ws.getD 0 0))∧TT 1 ((!(aI (ws.getD 0 0)))=false∧TT 4 ((((ws.getD 0 0)=(cB op ws k w)∧(0:Int)=0∧True))∧((True∧True∧True)))))))) (TT 2 (CD (op=3) ((decide (op=3))=true∧TT 1 (CC (i7 ws 2)∧TT 1 (IX 0 ws.length∧TT 3 (CC (dF (ws.getD 0 0))∧TT 1 ((!(aI (ws.getD 0 0)))=false∧TT 4 ((((ws.getD 0 0)=(cB op ws k w)∧(0:Int)=0∧True))∧((True∧True∧True)))))))) (TT 2 (CD (op=4) ((decide (op=4))=true∧TT 1 (CC (i7 ws 2)∧TT 1 (IX 0 ws.length∧TT 3 (CC (dF (ws.getD 0 0))∧TT 1 ((!(aI (ws.getD 0 0)))=false∧TT 4 ((((ws.getD 0 0)=(cB op ws k w)∧(0:Int)=0∧True))∧((True∧True∧True)))))))) (TT 2 (CD (op=5) ((decide (op=5))=true∧TT 1 (CC (i7 ws 2)∧TT 1 (IX 0 ws.length∧TT 3 (CC (dF (ws.getD 0 0))∧TT 1 ((!(aI (ws.getD 0 0)))=false∧TT 4 ((((ws.getD 0 0)=(cB op ws k w)∧(0:Int)=0∧True))∧((True∧True∧True)))))))) (TT 2 (CD (op=6) ((decide (op=6))=true∧TT 1 (CC (i7 ws 2)∧TT 1 (IX 0 ws.length∧TT 3 (CC (dF (ws.getD 0 0))∧TT 1 ((!(aI (ws.getD 0 0)))=false∧TT 4 ((((ws.getD 0 0)=(cB op ws k w)∧(0:Int)=0∧True))∧((True∧True∧True)))))))) (TT 2 (CD (op=7) (TT 1 (CC (i7 ws 2)∧TT 1 (IX 0 ws.length∧TT 3 (CC (dF (ws.getD 0 0))∧TT 1 ((!(aI (ws.getD 0 0)))=false∧TT 4 ((((ws.getD 0 0)=(cB op ws k w)∧(0:Int)=0∧True))∧((True∧True∧True)))))))) (TT 2 (CD (op=8) ((decide (op=8))=true∧TT 1 (CC (i7 ws 2)∧TT 2 (CC (dF 1)∧TT 1 ((!(aI 1))=false∧TT 4 ((((1:Int)=(cB op ws k w)∧(0:Int)=0∧True))∧((True∧True∧True))))))) (TT 2 (CD (op=9) (TT 1 (CC (i7 ws 2)∧TT 2 (CC (dF 1)∧TT 1 ((!(aI 1))=false∧TT 4 ((((1:Int)=(cB op ws k w)∧(0:Int)=0∧True))∧((True∧True∧True))))))) (TT 2 (CD (op=10) (TT 1 (CC (i7 ws 3)∧TT 2 (IX 0 ws.length∧TT 3 ((decide ((ws.getD 0 0)=1))=true∧TT 1 (IX 1 ws.length∧TT 3 (CC (dF (ws.getD 1 0))∧TT 1 ((!(aI (ws.getD 1 0)))=false∧TT 4 ((((ws.getD 1 0)=(cB op ws k w)∧(0:Int)=0∧True))∧((True∧True∧True)))))))))) (TT 2 (CD (op=11) (TT 3 ((True∧(decide ((ws.length:Int)=2))=true)∧TT 1 (IX 0 ws.length∧TT 1 (CC (dF (ws.getD 0 0))∧TT 1 ((True∧(aI (ws.getD 0 0))=true)∧TT 1 (IX 1 ws.length∧TT 1 (CC (dF (ws.getD 1 0))∧TT 1 ((aI (ws.getD 1 0))=true∧TT 1 (IX 0 ws.length∧TT 2 (IX 1 ws.length∧TT 1 (W6 ((ws.getD 0 0)+(ws.getD 1 0))∧TT 2 (CC (dF ((ws.getD 0 0)+(ws.getD 1 0)))∧TT 1 ((!(aI ((ws.getD 0 0)+(ws.getD 1 0))))=false∧TT 4 (((((ws.getD 0 0)+(ws.getD 1 0))=(cB op ws k w)∧(0:Int)=0∧True))∧((True∧True∧True)))))))))))))))) (TT 2 (CD (op=12) (TT 1 (CC (i7 ws 1)∧TT 2 (CC (dF w)∧TT 1 ((True∧(aI w)=true)∧TT 3 ((True∧(decide (k≥0))=true)∧TT 2 (IX 0 ws.length∧TT 2 (W6 ((ws.getD 0 0)-w)∧TT 2 ((decide (k≤((ws.getD 0 0)-w)))=true∧TT 3 (CC (dF w)∧TT 1 ((!(aI w))=false∧TT 4 (((w=(cB op ws k w)∧(0:Int)=0∧True))∧((True∧True∧True))))))))))))) (TT 2 ((decide (op=13))=true∧TT 1 (CC (i7 ws 1)∧TT 3 (IX 0 ws.length∧TT 3 ((decide (w≥(ws.getD 0 0)))=true∧TT 3 (CC (dF w)∧TT 1 ((!(aI w))=false∧TT 4 (((w=(cB op ws k w)∧(0:Int)=0∧True))∧((True∧True∧True)))))))))))))))))))))))))))))))))))) (.b 15 (.w 4 [(3,.val (dB true)),(5,(dF w).O),(7,.val (dB true)),(11,.val (dB true)),(14,(AO w).O)]<|.t 33 (.w 32 [(1,(dF w).O)]<|.u 131 (.e))) (.b 35 (.w 7 [(1,(i7 ws 1).O)]<|.w 32 [(1,(dF (ws.getD 0 0)).O)]<|.u 131 (.e)) (.b 42 (.t 42 (.w 14 [(1,(i7 ws 2).O)]<|.w 32 [(1,(dF (ws.getD 0 0)).O)]<|.u 131 (.e))) (.b 42 (.t 42 (.w 14 [(1,(i7 ws 2).O)]<|.w 32 [(1,(dF (ws.getD 0 0)).O)]<|.u 131 (.e))) (.b 42 (.t 42 (.w 14 [(1,(i7 ws 2).O)]<|.w 32 [(1,(dF (ws.getD 0 0)).O)]<|.u 131 (.e))) (.b 42 (.t 42 (.w 14 [(1,(i7 ws 2).O)]<|.w 32 [(1,(dF (ws.getD 0 0)).O)]<|.u 131 (.e))) (.b 42 (.w 14 [(1,(i7 ws 2).O)]<|.w 32 [(1,(dF (ws.getD 0 0)).O)]<|.u 131 (.e)) (.b 53 (.t 53 (.w 18 [(1,(i7 ws 2).O)]<|.w 32 [(1,(dF 1).O)]<|.u 131 (.e))) (.b 53 (.w 18 [(1,(i7 ws 2).O)]<|.w 32 [(1,(dF 1).O)]<|.u 131 (.e)) (.b 58 (.w 21 [(1,(i7 ws 3).O)]<|.t 67 (.w 32 [(1,(dF (ws.getD 1 0)).O)]<|.u 131 (.e))) (.b 71 (.w 24 [(3,.val (dB true)),(7,(dF (ws.getD 0 0)).O),(9,.val (dB true)),(13,(dF (ws.getD 1 0)).O)]<|.t 87 (.w 25 [(6,.val (i6 ((ws.getD 0 0)+(ws.getD 1 0))))]<|.w 32 [(1,(dF ((ws.getD 0 0)+(ws.getD 1 0))).O)]<|.u 131 (.e))) (.b 95 (.w 27 [(1,(i7 ws 1).O),(4,(dF w).O),(6,.val (dB true)),(10,.val (dB true)),(16,.val (i6 ((ws.getD 0 0)-w)))]<|.t 115 (.w 32 [(1,(dF w).O)]<|.u 131 (.e))) (.t 117 (.w 30 [(1,(i7 ws 1).O)]<|.t 127 (.w 32 [(1,(dF w).O)]<|.u 131 (.e)))))))))))))))) Try.func104 rfl rfl rfl (by kernel_rfl) ?_
 refine tt ⟨⟨by omega,oK⟩,tt ⟨⟨by omega,oK⟩,tt (cd (fun R3=>?_) (fun R3=>?_))⟩⟩
 · obtain⟨q1,q2,q3,q4⟩:=D7.1 (by rw[R3]at h;exact h)
   have hv:fh op ws k w=w:=(by rw[R3];first | done | exact GF q2 q3 q4)
   have hw:=(f7 h hv).1
   have RP:=q2
   refine tt ⟨(vT (by omega)),tt ⟨(dG w),tt ⟨(bT q2),tt ⟨(vT (by omega)),tt ⟨(i5 w),tt ⟨(Pq (by omega)),tt ⟨(dG w),tt ⟨(yf RP),tt ⟨⟨?_,rfl,oK⟩,⟨oK,oK,oK⟩⟩⟩⟩⟩⟩⟩⟩⟩⟩
   exact hw
 · refine tt (cd (fun RX=>?_) (fun RX=>?_))
   · have hq:=IL.1 (by rw[RX]at h;exact h)
     have hv:fh op ws k w=ws.getD 0 0:=(by rw[RX];first | done | exact rfl)
     have hw:=(f7 h hv).1
     have RP:=cu hq (i:=0) (by omega)
     have T4:=(bf hq).1
     refine tt ⟨(df ws 1 hq om),tt ⟨ix,tt ⟨(dG (ws.getD 0 0)),tt ⟨(yf RP),tt ⟨⟨?_,rfl,oK⟩,⟨oK,oK,oK⟩⟩⟩⟩⟩⟩
     exact hw
   · refine tt (cd (fun R8=>?_) (fun R8=>?_))
     · have hq:=(gj (by omega)).1 (h)
       have hv:fh op ws k w=ws.getD 0 0:=(by first | done | exact pQ (by omega) hq)
       have hw:=(f7 h hv).1
       have RP:=cu hq (i:=0) (by omega)
       have T4:=(bf hq).1
       refine⟨(Pq R8),tt ⟨(df ws 2 hq om),tt ⟨ix,tt ⟨(dG (ws.getD 0 0)),tt ⟨(yf RP),tt ⟨⟨?_,rfl,oK⟩,⟨oK,oK,oK⟩⟩⟩⟩⟩⟩⟩
       exact hw
     · refine tt (cd (fun R8=>?_) (fun R8=>?_))
       · have hq:=(gj (by omega)).1 (h)
         have hv:fh op ws k w=ws.getD 0 0:=(by first | done | exact pQ (by omega) hq)
         have hw:=(f7 h hv).1
         have RP:=cu hq (i:=0) (by omega)
         have T4:=(bf hq).1
         refine⟨(Pq R8),tt ⟨(df ws 2 hq om),tt ⟨ix,tt ⟨(dG (ws.getD 0 0)),tt ⟨(yf RP),tt ⟨⟨?_,rfl,oK⟩,⟨oK,oK,oK⟩⟩⟩⟩⟩⟩⟩
         exact hw
       · refine tt (cd (fun R8=>?_) (fun R8=>?_))
         · have hq:=(gj (by omega)).1 (h)
           have hv:fh op ws k w=ws.getD 0 0:=(by first | done | exact pQ (by omega) hq)
           have hw:=(f7 h hv).1
           have RP:=cu hq (i:=0) (by omega)
           have T4:=(bf hq).1
           refine⟨(Pq R8),tt ⟨(df ws 2 hq om),tt ⟨ix,tt ⟨(dG (ws.getD 0 0)),tt ⟨(yf RP),tt ⟨⟨?_,rfl,oK⟩,⟨oK,oK,oK⟩⟩⟩⟩⟩⟩⟩
           exact hw
         · refine tt (cd (fun R8=>?_) (fun R8=>?_))
           · have hq:=(gj (by omega)).1 (h)
             have hv:fh op ws k w=ws.getD 0 0:=(by first | done | exact pQ (by omega) hq)
             have hw:=(f7 h hv).1
             have RP:=cu hq (i:=0) (by omega)
             have T4:=(bf hq).1
             refine⟨(Pq R8),tt ⟨(df ws 2 hq om),tt ⟨ix,tt ⟨(dG (ws.getD 0 0)),tt ⟨(yf RP),tt ⟨⟨?_,rfl,oK⟩,⟨oK,oK,oK⟩⟩⟩⟩⟩⟩⟩
             exact hw
           · refine tt (cd (fun R8=>?_) (fun R8=>?_))
             · have hq:=(gj (by omega)).1 (h)
               have hv:fh op ws k w=ws.getD 0 0:=(by first | done | exact pQ (by omega) hq)
               have hw:=(f7 h hv).1
               have RP:=cu hq (i:=0) (by omega)
               have T4:=(bf hq).1
               refine tt ⟨(df ws 2 hq om),tt ⟨ix,tt ⟨(dG (ws.getD 0 0)),tt ⟨(yf RP),tt ⟨⟨?_,rfl,oK⟩,⟨oK,oK,oK⟩⟩⟩⟩⟩⟩
               exact hw
             · refine tt (cd (fun W1=>?_) (fun W1=>?_))
               · have hq:=(sn (by omega)).1 (h)
                 have hv:fh op ws k w=1:=(by first | done | exact xv (by omega) hq)
                 have hw:=(f7 h hv).1
                 have RP:=(by decide:aI 1=true)
                 have T4:=(bf hq).1
                 refine⟨(Pq W1),tt ⟨(df ws 2 hq om),tt ⟨(dG 1),tt ⟨(yf RP),tt ⟨⟨?_,rfl,oK⟩,⟨oK,oK,oK⟩⟩⟩⟩⟩⟩
                 exact hw
               · refine tt (cd (fun W1=>?_) (fun W1=>?_))
                 · have hq:=(sn (by omega)).1 (h)
                   have hv:fh op ws k w=1:=(by first | done | exact xv (by omega) hq)
                   have hw:=(f7 h hv).1
                   have RP:=(by decide:aI 1=true)
                   have T4:=(bf hq).1
                   refine tt ⟨(df ws 2 hq om),tt ⟨(dG 1),tt ⟨(yf RP),tt ⟨⟨?_,rfl,oK⟩,⟨oK,oK,oK⟩⟩⟩⟩⟩
                   exact hw
                 · refine tt (cd (fun U3=>?_) (fun U3=>?_))
                   · obtain⟨hq,q2⟩:=IM.1 (by rw[U3]at h;exact h)
                     have hv:fh op ws k w=ws.getD 1 0:=(by rw[U3];first | done | exact CG hq q2)
                     have hw:=(f7 h hv).1
                     have RP:=cu hq (i:=1) (by omega)
                     have T4:=(bf hq).1
                     refine tt ⟨(df ws 3 hq om),tt ⟨ix,tt ⟨(Pq (by omega)),tt ⟨ix,tt ⟨(dG (ws.getD 1 0)),tt ⟨(yf RP),tt ⟨⟨?_,rfl,oK⟩,⟨oK,oK,oK⟩⟩⟩⟩⟩⟩⟩⟩
                     exact hw
                   · refine tt (cd (fun RG=>?_) (fun RG=>?_))
                     · obtain⟨q1,q2,q3,q4⟩:=IP.1 (by rw[RG]at h;exact h)
                       have hv:fh op ws k w=ws.getD 0 0+ws.getD 1 0:=(by rw[RG];first | done | exact rfl)
                       have hw:=(f7 h hv).1
                       have RP:=q4
                       have f0:=aR.1 q2;have f1:=aR.1 q3
                       refine tt ⟨(vT (by omega)),tt ⟨ix,tt ⟨(dG (ws.getD 0 0)),tt ⟨(bT q2),tt ⟨ix,tt ⟨(dG (ws.getD 1 0)),tt ⟨(OS q3),tt ⟨ix,tt ⟨ix,tt ⟨w6,tt ⟨(dG ((ws.getD 0 0)+(ws.getD 1 0))),tt ⟨(yf RP),tt ⟨⟨?_,rfl,oK⟩,⟨oK,oK,oK⟩⟩⟩⟩⟩⟩⟩⟩⟩⟩⟩⟩⟩⟩
                       exact hw
                     · refine tt (cd (fun Wp=>?_) (fun Wp=>?_))
                       · obtain⟨hq,q2,q3,q4⟩:=D8.1 (by rw[Wp]at h;exact h)
                         have hv:fh op ws k w=w:=(by rw[Wp];first | done | exact vY q2 q3 q4)
                         have hw:=(f7 h hv).1
                         have RP:=q2
                         have T4:=(bf hq).1
                         have f0:=aR.1 (cu hq (i:=0) (by omega));have f1:=aR.1 q2
                         refine tt ⟨(df ws 1 hq om),tt ⟨(dG w),tt ⟨(bT q2),tt ⟨(vT (by omega)),tt ⟨ix,tt ⟨w6,tt ⟨(Pq (by omega)),tt ⟨(dG w),tt ⟨(yf RP),tt ⟨⟨?_,rfl,oK⟩,⟨oK,oK,oK⟩⟩⟩⟩⟩⟩⟩⟩⟩⟩⟩
                         exact hw
                       · refine tt ⟨(Pq (by omega)),?_⟩
                         have Xt:op=13:=by
                           rcases hr with g | g | g | g | g | g | g | g | g | g | g | g | g<;>first | exact g | contradiction
                         obtain⟨hq,q2,q3⟩:=IQ.1 (by rw[Xt]at h;exact h)
                         have hv:fh op ws k w=w:=(by rw[Xt];first | done | exact CH q2)
                         have hw:=(f7 h hv).1
                         have RP:=q3
                         have T4:=(bf hq).1
                         refine tt ⟨(df ws 1 hq om),tt ⟨ix,tt ⟨(Pq (by omega)),tt ⟨(dG w),tt ⟨(yf RP),tt ⟨⟨?_,rfl,oK⟩,⟨oK,oK,oK⟩⟩⟩⟩⟩⟩⟩
                         exact hw
abbrev GJ (op:Int) (ws xs:List Int) (k w w1:Int):Ct:=⟨108,[(i6 op),(.agg [(i6 (ws.getD 0 0)),(i6 w1)]),(LI xs)],false,(i6 (xE op ws xs k w))⟩
set_option maxHeartbeats 1600000 in
theorem zd (op:Int) (ws xs:List Int) (k w w1:Int) (h:jc op ws k w=true) (hx:xs.length=ws.length) (So:DD ws xs=true) (hn:op≠1∧op≠12∧op≠13) (hw:op=11→w1=ws.getD 1 0):CC (GJ op ws xs k w w1):=by
 have hr:=tW h
 obtain⟨hl,hf,-⟩:=km h
 have f0:0<ws.length→1≤ws.getD 0 0∧ws.getD 0 0≤8:=fun h=>d6 hf h
 have f1:1<ws.length→1≤ws.getD 1 0∧ws.getD 1 0≤8:=fun h=>d6 hf h
 have f2:2<ws.length→1≤ws.getD 2 0∧ws.getD 2 0≤8:=fun h=>d6 hf h
 have a0:0<ws.length→0≤xs.getD 0 0∧xs.getD 0 0≤aE (ws.getD 0 0):=fun h=>iG So (by omega)
 have a1:1<ws.length→0≤xs.getD 1 0∧xs.getD 1 0≤aE (ws.getD 1 0):=fun h=>iG So (by omega)
 have a2:2<ws.length→0≤xs.getD 2 0∧xs.getD 2 0≤aE (ws.getD 2 0):=fun h=>iG So (by omega)
 have m0:0<ws.length→0≤aE (ws.getD 0 0)∧aE (ws.getD 0 0)≤255:=fun h=>cH (by have:=f0 h;omega) (f0 h).2
 have m1:1<ws.length→0≤aE (ws.getD 1 0)∧aE (ws.getD 1 0)≤255:=fun h=>cH (by have:=f1 h;omega) (f1 h).2
 have m2:2<ws.length→0≤aE (ws.getD 2 0)∧aE (ws.getD 2 0)≤255:=fun h=>cH (by have:=f2 h;omega) (f2 h).2
 refine aq.vc (V:=TT 2 (((0≤(0:Int)∧0<(2:Int))∧True)∧TT 1 (CC (AO (ws.getD 0 0))∧TT 4 (CD (op=2) (TT 2 (IX 0 xs.length∧TT 1 (W6 ((aE (ws.getD 0 0))-(xs.getD 0 0))∧TT 2 (((aE (ws.getD 0 0))-(xs.getD 0 0))=(xE op ws xs k w)∧True)))) (TT 2 (CD (op=3) (TT 1 (IX 0 xs.length∧TT 2 (IX 1 xs.length∧TT 1 ((True∧(IntKind.wrap .i64 (BitVec.ofInt (IntKind.i64).bits (xs.getD 0 0) &&& BitVec.ofInt (IntKind.i64).bits (xs.getD 1 0)).toNat)=(((xs.getD 0 0).toNat &&& (xs.getD 1 0).toNat:Nat):Int))∧TT 2 ((((xs.getD 0 0).toNat &&& (xs.getD 1 0).toNat:Nat):Int)=(xE op ws xs k w)∧True))))) (TT 2 (CD (op=4) (TT 1 (IX 0 xs.length∧TT 2 (IX 1 xs.length∧TT 1 ((True∧(IntKind.wrap .i64 (BitVec.ofInt (IntKind.i64).bits (xs.getD 0 0) ||| BitVec.ofInt (IntKind.i64).bits (xs.getD 1 0)).toNat)=(((xs.getD 0 0).toNat ||| (xs.getD 1 0).toNat:Nat):Int))∧TT 2 ((((xs.getD 0 0).toNat ||| (xs.getD 1 0).toNat:Nat):Int)=(xE op ws xs k w)∧True))))) (TT 2 (CD (op=5) (TT 1 (IX 0 xs.length∧TT 2 (IX 1 xs.length∧TT 1 ((True∧(IntKind.wrap .i64 (BitVec.ofInt (IntKind.i64).bits (xs.getD 0 0) ^^^ BitVec.ofInt (IntKind.i64).bits (xs.getD 1 0)).toNat)=(((xs.getD 0 0).toNat ^^^ (xs.getD 1 0).toNat:Nat):Int))∧TT 2 ((((xs.getD 0 0).toNat ^^^ (xs.getD 1 0).toNat:Nat):Int)=(xE op ws xs k w)∧True))))) (TT 2 (CD (op=6) (TT 1 (IX 0 xs.length∧TT 2 (IX 1 xs.length∧TT 1 (W6 ((xs.getD 0 0)+(xs.getD 1 0))∧TT 1 (W6 ((aE (ws.getD 0 0))+1)∧(((aE (ws.getD 0 0))+1)≠0∧(Int.tmod ((xs.getD 0 0)+(xs.getD 1 0)) ((aE (ws.getD 0 0))+1))=((xs.getD 0 0+xs.getD 1 0)%2^(ws.getD 0 0).toNat))∧TT 2 (((xs.getD 0 0+xs.getD 1 0)%2^(ws.getD 0 0).toNat)=(xE op ws xs k w)∧True)))))) (TT 2 (CD (op=7) (TT 1 (IX 0 xs.length∧TT 2 (IX 1 xs.length∧TT 1 (W6 ((xs.getD 0 0)-(xs.getD 1 0))∧TT 1 (W6 (((xs.getD 0 0)-(xs.getD 1 0))+(aE (ws.getD 0 0)))∧W6 ((((xs.getD 0 0)-(xs.getD 1 0))+(aE (ws.getD 0 0)))+1)∧TT 1 (W6 ((aE (ws.getD 0 0))+1)∧(((aE (ws.getD 0 0))+1)≠0∧(Int.tmod ((((xs.getD 0 0)-(xs.getD 1 0))+(aE (ws.getD 0 0)))+1) ((aE (ws.getD 0 0))+1))=((xs.getD 0 0-xs.getD 1 0)%2^(ws.getD 0 0).toNat))∧TT 2 (((xs.getD 0 0-xs.getD 1 0)%2^(ws.getD 0 0).toNat)=(xE op ws xs k w)∧True))))))) (TT 2 (CD (op=8) (TT 1 (IX 0 xs.length∧TT 2 (IX 1 xs.length∧TT 2 (CC (GH ((xs.getD 0 0)==(xs.getD 1 0)))∧TT 2 ((if ((xs.getD 0 0)==(xs.getD 1 0))=true then 1 else 0)=(xE op ws xs k w)∧True))))) (TT 2 (CD (op=9) (TT 1 (IX 0 xs.length∧TT 2 (IX 1 xs.length∧TT 2 (CC (GH (decide ((xs.getD 0 0)<(xs.getD 1 0))))∧TT 2 ((if (decide ((xs.getD 0 0)<(xs.getD 1 0)))=true then 1 else 0)=(xE op ws xs k w)∧True))))) (TT 2 (CD (op=10) (TT 1 (IX 0 xs.length∧TT 2 (CD ((xs.getD 0 0)=1) (TT 1 (IX 1 xs.length∧TT 3 ((xs.getD 1 0)=(xE op ws xs k w)∧True))) (TT 1 (IX 2 xs.length∧TT 3 ((xs.getD 2 0)=(xE op ws xs k w)∧True)))))) (TT 1 (IX 0 xs.length∧TT 1 (((0≤(1:Int)∧1<(2:Int))∧True)∧TT 1 ((True∧(IntKind.wrap .u64 w1)=(ws.getD 1 0))∧(0≤(ws.getD 1 0)∧(IntKind.wrap .i64 ((xs.getD 0 0)*2^min ((ws.getD 1 0).toNat) 64))=(((xs.getD 0 0).toNat*2^(ws.getD 1 0).toNat:Nat):Int))∧TT 1 (IX 1 xs.length∧TT 1 ((True∧(IntKind.wrap .i64 (BitVec.ofInt (IntKind.i64).bits (((xs.getD 0 0).toNat*2^(ws.getD 1 0).toNat:Nat):Int) ||| BitVec.ofInt (IntKind.i64).bits (xs.getD 1 0)).toNat)=(((xs.getD 0 0).toNat*2^(ws.getD 1 0).toNat ||| (xs.getD 1 0).toNat:Nat):Int))∧TT 2 ((((xs.getD 0 0).toNat*2^(ws.getD 1 0).toNat ||| (xs.getD 1 0).toNat:Nat):Int)=(xE op ws xs k w)∧True))))))))))))))))))))))))))) (.w 1 [(2,(AO (ws.getD 0 0)).O)]<|.b 12 (.w 4 [(4,.val (i6 ((aE (ws.getD 0 0))-(xs.getD 0 0))))]<|.e) (.b 19 (.w 6 [(6,.val (i6 (((xs.getD 0 0).toNat &&& (xs.getD 1 0).toNat:Nat):Int)))]<|.e) (.b 28 (.w 8 [(6,.val (i6 (((xs.getD 0 0).toNat ||| (xs.getD 1 0).toNat:Nat):Int)))]<|.e) (.b 37 (.w 10 [(6,.val (i6 (((xs.getD 0 0).toNat ^^^ (xs.getD 1 0).toNat:Nat):Int)))]<|.e) (.b 46 (.w 12 [(6,.val (i6 ((xs.getD 0 0)+(xs.getD 1 0)))),(8,.val (i6 ((aE (ws.getD 0 0))+1))),(9,.val (i6 ((xs.getD 0 0+xs.getD 1 0)%2^(ws.getD 0 0).toNat)))]<|.e) (.b 58 (.w 14 [(6,.val (i6 ((xs.getD 0 0)-(xs.getD 1 0)))),(8,.val (i6 (((xs.getD 0 0)-(xs.getD 1 0))+(aE (ws.getD 0 0))))),(9,.val (i6 ((((xs.getD 0 0)-(xs.getD 1 0))+(aE (ws.getD 0 0)))+1))),(11,.val (i6 ((aE (ws.getD 0 0))+1))),(12,.val (i6 ((xs.getD 0 0-xs.getD 1 0)%2^(ws.getD 0 0).toNat)))]<|.e) (.b 73 (.w 16 [(7,(GH ((xs.getD 0 0)==(xs.getD 1 0))).O)]<|.e) (.b 83 (.w 18 [(7,(GH (decide ((xs.getD 0 0)<(xs.getD 1 0)))).O)]<|.e) (.b 93 (.b 98 (.e) (.e)) (.w 23 [(5,.val (dI .u64 (ws.getD 1 0))),(6,.val (i6 (((xs.getD 0 0).toNat*2^(ws.getD 1 0).toNat:Nat):Int))),(10,.val (i6 (((xs.getD 0 0).toNat*2^(ws.getD 1 0).toNat ||| (xs.getD 1 0).toNat:Nat):Int)))]<|.e)))))))))) Try.func108 rfl rfl rfl (by kernel_rfl) ?_
 refine tt ⟨⟨by omega,oK⟩,tt ⟨(i5 (ws.getD 0 0)),tt (cd (fun SQ=>?_) (fun SQ=>?_))⟩⟩
 · have Ts:(ws.length:Int)=1:=by rw[SQ]at hl;exact hl
   have b0:=f0 (by omega)
   have c0:=a0 (by omega)
   have d0:=m0 (by omega)
   refine tt ⟨ix,tt ⟨w6,tt ⟨?_,oK⟩⟩⟩
   rw[SQ];exact IR (by omega) c0
 · refine tt (cd (fun Uw=>?_) (fun Uw=>?_))
   · have Ts:(ws.length:Int)=2:=by rw[Uw]at hl;exact hl
     have b0:=f0 (by omega)
     have c0:=a0 (by omega)
     have d0:=m0 (by omega)
     have b1:=f1 (by omega)
     have c1:=a1 (by omega)
     have d1:=m1 (by omega)
     have Se:=fZ ((gj (by omega)).1 h)
     have VI:aE (ws.getD 1 0)=aE (ws.getD 0 0):=by rw[Se]
     refine tt ⟨ix,tt ⟨ix,tt ⟨⟨oK,(DF (by omega) (by omega) (by omega) (by omega))⟩,tt ⟨?_,oK⟩⟩⟩⟩
     rw[Uw];rfl
   · refine tt (cd (fun SL=>?_) (fun SL=>?_))
     · have Ts:(ws.length:Int)=2:=by rw[SL]at hl;exact hl
       have b0:=f0 (by omega)
       have c0:=a0 (by omega)
       have d0:=m0 (by omega)
       have b1:=f1 (by omega)
       have c1:=a1 (by omega)
       have d1:=m1 (by omega)
       have Se:=fZ ((gj (by omega)).1 h)
       have VI:aE (ws.getD 1 0)=aE (ws.getD 0 0):=by rw[Se]
       refine tt ⟨ix,tt ⟨ix,tt ⟨⟨oK,(Fh (by omega) (by omega) (by omega) (by omega))⟩,tt ⟨?_,oK⟩⟩⟩⟩
       rw[SL];rfl
     · refine tt (cd (fun TR=>?_) (fun TR=>?_))
       · have Ts:(ws.length:Int)=2:=by rw[TR]at hl;exact hl
         have b0:=f0 (by omega)
         have c0:=a0 (by omega)
         have d0:=m0 (by omega)
         have b1:=f1 (by omega)
         have c1:=a1 (by omega)
         have d1:=m1 (by omega)
         have Se:=fZ ((gj (by omega)).1 h)
         have VI:aE (ws.getD 1 0)=aE (ws.getD 0 0):=by rw[Se]
         refine tt ⟨ix,tt ⟨ix,tt ⟨⟨oK,(DE (by omega) (by omega) (by omega) (by omega))⟩,tt ⟨?_,oK⟩⟩⟩⟩
         rw[TR];rfl
       · refine tt (cd (fun SB=>?_) (fun SB=>?_))
         · have Ts:(ws.length:Int)=2:=by rw[SB]at hl;exact hl
           have b0:=f0 (by omega)
           have c0:=a0 (by omega)
           have d0:=m0 (by omega)
           have b1:=f1 (by omega)
           have c1:=a1 (by omega)
           have d1:=m1 (by omega)
           have Se:=fZ ((gj (by omega)).1 h)
           have VI:aE (ws.getD 1 0)=aE (ws.getD 0 0):=by rw[Se]
           refine tt ⟨ix,tt ⟨ix,tt ⟨w6,tt ⟨w6,⟨⟨om,(zb (by omega) (by omega))⟩,tt ⟨?_,oK⟩⟩⟩⟩⟩⟩
           rw[SB];rfl
         · refine tt (cd (fun U3=>?_) (fun U3=>?_))
           · have Ts:(ws.length:Int)=2:=by rw[U3]at hl;exact hl
             have b0:=f0 (by omega)
             have c0:=a0 (by omega)
             have d0:=m0 (by omega)
             have b1:=f1 (by omega)
             have c1:=a1 (by omega)
             have d1:=m1 (by omega)
             have Se:=fZ ((gj (by omega)).1 h)
             have VI:aE (ws.getD 1 0)=aE (ws.getD 0 0):=by rw[Se]
             refine tt ⟨ix,tt ⟨ix,tt ⟨w6,tt ⟨w6,⟨w6,tt ⟨w6,⟨⟨om,(IT (by omega) (by omega))⟩,tt ⟨?_,oK⟩⟩⟩⟩⟩⟩⟩⟩
             rw[U3];rfl
           · refine tt (cd (fun hc73=>?_) (fun hc73=>?_))
             · have Ts:(ws.length:Int)=2:=by rw[hc73]at hl;exact hl
               have b0:=f0 (by omega)
               have c0:=a0 (by omega)
               have d0:=m0 (by omega)
               have b1:=f1 (by omega)
               have c1:=a1 (by omega)
               have d1:=m1 (by omega)
               have Se:=fZ ((sn (by omega)).1 h)
               have VI:aE (ws.getD 1 0)=aE (ws.getD 0 0):=by rw[Se]
               refine tt ⟨ix,tt ⟨ix,tt ⟨(zc ((xs.getD 0 0)==(xs.getD 1 0))),tt ⟨?_,oK⟩⟩⟩⟩
               rw[hc73]
               show _=(if xs.getD 0 0=xs.getD 1 0 then (1:Int)else 0)
               by_cases hq:xs.getD 0 0=xs.getD 1 0
               · rw[Pn hq,Pn (by simpa using hq)]
               · rw[Pj hq,Pj (by simpa using hq)]
             · refine tt (cd (fun UY=>?_) (fun UY=>?_))
               · have Ts:(ws.length:Int)=2:=by rw[UY]at hl;exact hl
                 have b0:=f0 (by omega)
                 have c0:=a0 (by omega)
                 have d0:=m0 (by omega)
                 have b1:=f1 (by omega)
                 have c1:=a1 (by omega)
                 have d1:=m1 (by omega)
                 have Se:=fZ ((sn (by omega)).1 h)
                 have VI:aE (ws.getD 1 0)=aE (ws.getD 0 0):=by rw[Se]
                 refine tt ⟨ix,tt ⟨ix,tt ⟨(zc (decide ((xs.getD 0 0)<(xs.getD 1 0)))),tt ⟨?_,oK⟩⟩⟩⟩
                 rw[UY]
                 show _=(if xs.getD 0 0<xs.getD 1 0 then (1:Int)else 0)
                 by_cases hq:xs.getD 0 0<xs.getD 1 0
                 · rw[Pn hq,Pn (by simpa using hq)]
                 · rw[Pj hq,Pj (by simpa using hq)]
               · refine tt (cd (fun UB=>?_) (fun UB=>?_))
                 · have Ts:(ws.length:Int)=3:=by rw[UB]at hl;exact hl
                   have b0:=f0 (by omega)
                   have c0:=a0 (by omega)
                   have d0:=m0 (by omega)
                   have b1:=f1 (by omega)
                   have c1:=a1 (by omega)
                   have d1:=m1 (by omega)
                   have TK:=BF (by rw[UB]at h;exact h)
                   have hm1:aE (ws.getD 0 0)=1:=by rw[TK];decide
                   refine tt ⟨ix,tt (cd (fun W0=>?_) (fun W0=>?_))⟩
                   · refine tt ⟨ix,tt ⟨?_,oK⟩⟩
                     rw[UB]
                     show _=xs.getD (2-xs.getD 0 0).toNat 0
                     rw[W0]
                     rfl
                   · refine tt ⟨ix,tt ⟨?_,oK⟩⟩
                     rw[UB]
                     show _=xs.getD (2-xs.getD 0 0).toNat 0
                     rw[show xs.getD 0 0=0 by omega]
                     rfl
                 · have Sz:op=11:=by
                     have hn1:=hn.1;have hn2:=hn.2.1;have hn3:=hn.2.2
                     rcases hr with g | g | g | g | g | g | g | g | g | g | g | g | g<;>first | exact g | contradiction
                   have Ts:(ws.length:Int)=2:=by rw[Sz]at hl;exact hl
                   have b0:=f0 (by omega)
                   have c0:=a0 (by omega)
                   have d0:=m0 (by omega)
                   have b1:=f1 (by omega)
                   have c1:=a1 (by omega)
                   have d1:=m1 (by omega)
                   have VI:=hw Sz
                   refine tt ⟨ix,tt ⟨⟨by omega,oK⟩,tt ⟨⟨oK,(by rw[VI];exact Dx rfl (by omega) (by omega))⟩,⟨⟨(by omega),(HI (by omega) (by omega))⟩,tt ⟨ix,tt ⟨⟨oK,(HJ (by omega) (by omega) (by omega))⟩,tt ⟨?_,oK⟩⟩⟩⟩⟩⟩⟩
                   rw[Sz];rfl
abbrev KY (op:Int) (ws xs N':List Int):Ct:=⟨105,[(i6 op),(LI ws),(.agg [(LI xs),(LI N')])],false,(.agg [(i6 (fu op ws xs N')),(i6 0)])⟩
abbrev kK (op:Int) (ws:List Int) (xs:List Int) (N':List Int):Lp (Nat):=iC [0,1,6,7,8,10] 19 (fun (i:Nat)=>⟨[(0,(i6 op)),(1,(LI ws)),(6,(.ptr 1 0 0 0)),(7,(LI xs)),(8,(LI N')),(10,(i6 (i:Int)))],[(.var 190 [(LI xs),(LI N')]),(.var 187 [(i6 0),(i6 0)]),.dead,.dead,.dead,.dead,.dead,.dead,.dead,.dead,.dead,.dead,.dead,.dead,.dead,.dead,.dead,.dead,(.var 187 [(i6 (cB op ws (N'.getD 0 0) (N'.getD 1 0))),(i6 0)])]⟩) (fun (i:Nat)=>i≤xs.length) (fun (i:Nat)=>xs.length-i)
set_option maxHeartbeats 1600000 in
theorem AP (op:Int) (ws xs N':List Int) (h:jc op ws (N'.getD 0 0) (N'.getD 1 0)=true) (hx:xs.length=ws.length) (So:DD ws xs=true) (hn:N'.length=2):CC (KY op ws xs N'):=by
 have hr:=tW h
 obtain⟨hl,hf,-⟩:=km h
 have hwl:ws.length≤3:=by
   have h2:cO op≤3:=by unfold cO;split<;>(try split)<;>(try split)<;>(try split)<;>omega
   omega
 have f0:0<ws.length→1≤ws.getD 0 0∧ws.getD 0 0≤8:=fun h=>d6 hf h
 have f1:1<ws.length→1≤ws.getD 1 0∧ws.getD 1 0≤8:=fun h=>d6 hf h
 have f2:2<ws.length→1≤ws.getD 2 0∧ws.getD 2 0≤8:=fun h=>d6 hf h
 have a0:0<ws.length→0≤xs.getD 0 0∧xs.getD 0 0≤aE (ws.getD 0 0):=fun h=>iG So (by omega)
 have a1:1<ws.length→0≤xs.getD 1 0∧xs.getD 1 0≤aE (ws.getD 1 0):=fun h=>iG So (by omega)
 have a2:2<ws.length→0≤xs.getD 2 0∧xs.getD 2 0≤aE (ws.getD 2 0):=fun h=>iG So (by omega)
 have m0:0<ws.length→0≤aE (ws.getD 0 0)∧aE (ws.getD 0 0)≤255:=fun h=>cH (by have:=f0 h;omega) (f0 h).2
 have m1:1<ws.length→0≤aE (ws.getD 1 0)∧aE (ws.getD 1 0)≤255:=fun h=>cH (by have:=f1 h;omega) (f1 h).2
 have m2:2<ws.length→0≤aE (ws.getD 2 0)∧aE (ws.getD 2 0)≤255:=fun h=>cH (by have:=f2 h;omega) (f2 h).2
 refine aq.vc (V:=TT 2 (((0≤(0:Int)∧0<(2:Int))∧True)∧TT 1 (((0≤(1:Int)∧1<(2:Int))∧True)∧TT 6 ((True∧(!decide ((N'.length:Int)=2))=false)∧TT 6 ((!decide ((xs.length:Int)=(ws.length:Int)))=false∧TT 3 (IX 0 N'.length∧TT 2 (IX 1 N'.length∧TT 2 (CC (GI op ws (N'.getD 0 0) (N'.getD 1 0))∧TT 6 (GO (kK op ws xs N') 0 (∀i,(kK op ws xs N').inv i→TT 4 (CD ((i:Int)<(xs.length:Int)) (TT 2 (IX (i:Int) xs.length∧TT 2 ((True∧(decide ((xs.getD i 0)<0))=false)∧TT 2 (IX (i:Int) xs.length∧TT 3 (IX (i:Int) ws.length∧TT 1 (CC (AO (ws.getD i 0))∧TT 2 ((decide ((xs.getD i 0)>(aE (ws.getD i 0))))=false∧TT 1 (W6 ((i+1:Nat):Int)∧TT 1 (AG (kK op ws xs N') i (i+1)))))))))) (TT 3 (CD (op=1) (TT 1 (IX 0 N'.length∧TT 4 ((((N'.getD 0 0)=(fu op ws xs N')∧(0:Int)=0∧True))∧((True∧True∧True))))) (TT 2 (CD (op=12) (TT 1 (IX 0 xs.length∧TT 2 (IX 0 N'.length∧TT 1 ((True∧(IntKind.wrap .u64 (N'.getD 0 0))=(N'.getD 0 0))∧(0≤(N'.getD 0 0)∧(Int.fdiv (xs.getD 0 0) (2^min ((N'.getD 0 0).toNat) 64))=(xs.getD 0 0 / 2^(N'.getD 0 0).toNat))∧TT 1 (IX 1 N'.length∧TT 1 (CC (AO (N'.getD 1 0))∧(True∧(IntKind.wrap .i64 (BitVec.ofInt (IntKind.i64).bits (xs.getD 0 0 / 2^(N'.getD 0 0).toNat) &&& BitVec.ofInt (IntKind.i64).bits (aE (N'.getD 1 0))).toNat)=((xs.getD 0 0 / 2^(N'.getD 0 0).toNat)%2^(N'.getD 1 0).toNat))∧TT 3 (((((xs.getD 0 0 / 2^(N'.getD 0 0).toNat)%2^(N'.getD 1 0).toNat)=(fu op ws xs N')∧(0:Int)=0∧True))∧((True∧True∧True))))))))) (TT 2 (CD (op=13) (TT 1 (IX 0 xs.length∧TT 4 ((((xs.getD 0 0)=(fu op ws xs N')∧(0:Int)=0∧True))∧((True∧True∧True))))) (TT 2 (CD (op=11) (TT 2 (IX 0 ws.length∧TT 2 (IX 1 ws.length∧TT 3 (CC (GJ op ws xs (N'.getD 0 0) (N'.getD 1 0) (ws.getD 1 0))∧TT 3 ((((xE op ws xs (N'.getD 0 0) (N'.getD 1 0))=(fu op ws xs N')∧(0:Int)=0∧True))∧((True∧True∧True))))))) (TT 2 (IX 0 ws.length∧TT 3 (CC (GJ op ws xs (N'.getD 0 0) (N'.getD 1 0) 0)∧TT 3 ((((xE op ws xs (N'.getD 0 0) (N'.getD 1 0))=(fu op ws xs N')∧(0:Int)=0∧True))∧((True∧True∧True))))))))))))))))))))))))) (.w 2 [(3,.val (dB false))]<|.u 24 (.w 4 [(9,(GI op ws (N'.getD 0 0) (N'.getD 1 0)).O)]<|.l (kK op ws xs N') 0 (fun i=>.b 43 (.w 10 [(5,.val (dB false)),(14,(AO (ws.getD i 0)).O)]<|.u 62 (.w 9 [(1,.val (i6 ((i+1:Nat):Int)))]<|.e)) (.b 65 (.e) (.b 71 (.w 16 [(6,.val (dI .u64 (N'.getD 0 0))),(7,.val (i6 (xs.getD 0 0 / 2^(N'.getD 0 0).toNat))),(11,(AO (N'.getD 1 0)).O),(12,.val (i6 ((xs.getD 0 0 / 2^(N'.getD 0 0).toNat)%2^(N'.getD 1 0).toNat)))]<|.e) (.b 87 (.e) (.b 93 (.w 20 [(9,(GJ op ws xs (N'.getD 0 0) (N'.getD 1 0) (ws.getD 1 0)).O)]<|.e) (.w 21 [(6,(GJ op ws xs (N'.getD 0 0) (N'.getD 1 0) 0).O)]<|.e)))))))) Try.func105 rfl rfl rfl (by kernel_rfl) ?_
 refine tt ⟨⟨by omega,oK⟩,tt ⟨⟨by omega,oK⟩,tt ⟨(nF (by omega)),tt ⟨(Nb (by omega)),tt ⟨ix,tt ⟨ix,tt ⟨(tY op ws (N'.getD 0 0) (N'.getD 1 0) h),tt ⟨rfl,(by omega),?_⟩⟩⟩⟩⟩⟩⟩⟩
 intro i F'
 have hi:=F'
 refine tt (cd (fun Tz=>?_) (fun Tz=>?_))
 · refine tt ⟨ix,tt ⟨(vF (by have:=iG So (i:=i) (by omega);omega)),tt ⟨ix,tt ⟨ix,tt ⟨(i5 (ws.getD i 0)),tt ⟨(Pv (by have:=iG So (i:=i) (by omega);omega)),tt ⟨w6,tt ⟨(i+1),rfl,(?_:(i+1)≤xs.length),(?_:xs.length-(i+1)<xs.length-i)⟩⟩⟩⟩⟩⟩⟩⟩
   · omega
   · omega
 · refine tt (cd (fun Vt=>?_) (fun Vt=>?_))
   · refine tt ⟨ix,tt ⟨⟨?_,rfl,oK⟩,⟨oK,oK,oK⟩⟩⟩
     rw[(qq hn hx h So).1,Vt];rfl
   · refine tt (cd (fun RG=>?_) (fun RG=>?_))
     · have Ts:(ws.length:Int)=1:=by rw[RG]at hl;exact hl
       have b0:=f0 (by omega)
       have c0:=a0 (by omega)
       have d0:=m0 (by omega)
       have hsk:=BG (by rw[RG]at h;exact h)
       have hwf:=aR.1 hsk.2.2
       refine tt ⟨ix,tt ⟨ix,tt ⟨⟨oK,(Dx rfl (by omega) (by omega))⟩,⟨⟨(by omega),(BE hsk.1 (by omega))⟩,tt ⟨ix,tt ⟨(i5 (N'.getD 1 0)),⟨⟨oK,(by rw[cZ (by omega) (by omega)];exact lI (by omega))⟩,tt ⟨⟨?_,rfl,oK⟩,⟨oK,oK,oK⟩⟩⟩⟩⟩⟩⟩⟩⟩
       rw[(qq hn hx h So).1,RG];rfl
     · refine tt (cd (fun S7=>?_) (fun S7=>?_))
       · have Ts:(ws.length:Int)=1:=by rw[S7]at hl;exact hl
         have b0:=f0 (by omega)
         have c0:=a0 (by omega)
         have d0:=m0 (by omega)
         refine tt ⟨ix,tt ⟨⟨?_,rfl,oK⟩,⟨oK,oK,oK⟩⟩⟩
         rw[(qq hn hx h So).1,S7];rfl
       · refine tt (cd (fun UB=>?_) (fun UB=>?_))
         · have Ts:(ws.length:Int)=2:=by rw[UB]at hl;exact hl
           have b0:=f0 (by omega)
           have c0:=a0 (by omega)
           have d0:=m0 (by omega)
           have b1:=f1 (by omega)
           have c1:=a1 (by omega)
           have d1:=m1 (by omega)
           refine tt ⟨ix,tt ⟨ix,tt ⟨(zd op ws xs (N'.getD 0 0) (N'.getD 1 0) (ws.getD 1 0) h hx So om om),tt ⟨⟨?_,rfl,oK⟩,⟨oK,oK,oK⟩⟩⟩⟩⟩
           exact(qq hn hx h So).1.symm
         · have Ts:1≤ws.length:=by
             have h2:1≤cO op:=by rcases hr with rfl | rfl | rfl | rfl | rfl | rfl | rfl | rfl | rfl | rfl | rfl | rfl | rfl<;>first | omega | decide
             omega
           refine tt ⟨ix,tt ⟨(zd op ws xs (N'.getD 0 0) (N'.getD 1 0) 0 h hx So om om),tt ⟨⟨?_,rfl,oK⟩,⟨oK,oK,oK⟩⟩⟩⟩
           exact(qq hn hx h So).1.symm
end Go.Proofs.Ytnlmlkbaflmgcaa
