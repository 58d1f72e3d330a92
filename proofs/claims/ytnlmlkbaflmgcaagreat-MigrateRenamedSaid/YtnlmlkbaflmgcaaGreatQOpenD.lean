/- Parts of a proof. -/
import Derived.Test.YtnlmlkbaflmgcaaGreatQPrC
namespace Go.Proofs.YtnlmlkbaflmgcaaGreat
open Go.RowKit
set_option linter.unusedVariables false
set_option linter.unusedSimpArgs false
abbrev CA (b:List Int) (i k j:Nat):List D:=[(LI (tab (bW (b.getD i 0)) k)),(LI (List.replicate j (2:Int))),.nils,(dB true)]
abbrev Gu:aC:=(.var 105 [(dS e0),(dS e0),.nils,.nils,.nils,.nils,.nils,(i6 0)])
set_option maxRecDepth 100000
theorem AL (b:List Int) (i:Nat) (s:Sg) (w:Int) (n:Nat) (hb:ic b) (h1:1≤w) (h2:w≤6) (hi:i+16≤9223372036854775807) (hm:s.Uk.length≤100) (hr:s.Ul.length≤100) (ht:s.I.length≤100):CC (vN b i s w 2 (n+1)) :=
  Gt b i s w 0 n hb h1 (by omega) (by omega) (by omega) hm hr ht (fun i w a1 a2 a3=>MW b i s w 1 n hb a1 (by omega) (by omega) (by omega) hm hr ht (by omega))
theorem MX (b:List Int) (i:Nat) (s:Sg) (w:Int) (n:Nat) (hb:ic b) (h1:1≤w) (h2:w≤5) (hi:i+64≤9223372036854775807) (hm:s.Uk.length≤100) (hr:s.Ul.length≤100) (ht:s.I.length≤100):CC (vN b i s w 3 (n+2)) :=
  Gt b i s w 1 (n+1) hb h1 (by omega) (by omega) (by omega) hm hr ht (fun i w a1 a2 a3=>AL b i s w n hb a1 (by omega) (by omega) hm hr ht)
abbrev Tl:Ct:=⟨78,[],true,(.agg [(i6 iQ.op),(dS iQ.name),(i6 iQ.k.n),(dS iQ.k.p),(i6 iQ.w.n),(dS iQ.w.p),(dL 7 (eA 2) dE iQ.args)])⟩
theorem KO  : CC Tl:=by
 refine ah.vc (V:=TT 6 ((1:Int)=iQ.op∧e0=iQ.name∧(1:Int)=iQ.k.n∧e0=iQ.k.p∧(1:Int)=iQ.w.n∧e0=iQ.w.p∧iQ.args=[]∧True)) (.e) Tryz.func78 rfl rfl rfl (by kernel_rfl) ?_
 refine tt ⟨?_,?_,?_,?_,?_,?_,?_,oK⟩
 all_goals (rfl)
abbrev Pm (b:List Int) (i:Nat) (s:Sg):Ct:=⟨61,[(.agg [(LY b),(i6 (i:Int))]),(.agg [(LI s.Ul),(LI s.I),(dL 27 b8 ay s.Uk),(dB s.data)])],true,(.agg [(i6 (((a5 s b i).1).op)),(dS (((a5 s b i).1).name)),(i6 ((((a5 s b i).1).k).n)),(dS ((((a5 s b i).1).k).p)),(i6 ((((a5 s b i).1).w).n)),(dS ((((a5 s b i).1).w).p)),(dL 7 (eA 2) dE (((a5 s b i).1).args)),(LY b),(i6 (((a5 s b i).2:Nat):Int))])⟩
theorem Gv (b:List Int) (i:Nat) (s:Sg) (hb:ic b) (hi:i+100≤9223372036854775807) (hm:s.Uk.length≤100) (hr:s.Ul.length≤100) (ht:s.I.length≤100):CC (Pm b i s):=by
 have hy:=cO hb i
 refine ah.vc (V:=TT 4 (CC (HO b i)∧QM (b.getD i 0) 4∧TT 1 (CN (((b.getD i 0)%4)=1) (CC Tl∧TT 1 (CC (Ek b i 1)∧TT 3 (iQ.op=(((a5 s b i).1).op)∧iQ.name=(((a5 s b i).1).name)∧iQ.k.n=((((a5 s b i).1).k).n)∧iQ.k.p=((((a5 s b i).1).k).p)∧iQ.w.n=((((a5 s b i).1).w).n)∧iQ.w.p=((((a5 s b i).1).w).p)∧iQ.args.map (eA 2)=(((a5 s b i).1).args).map (eA 2)∧b.map (ab .u8)=b.map (ab .u8)∧((i+1:Nat):Int)=(((a5 s b i).2:Nat):Int)∧True))) (TT 1 (CC (Ek b i 1)∧TT 2 (CC (vN b (i+1) s 1 2 2)∧TT 2 ((((av s b 2 (i+1) 1).1).op)=(((a5 s b i).1).op)∧(((av s b 2 (i+1) 1).1).name)=(((a5 s b i).1).name)∧((((av s b 2 (i+1) 1).1).k).n)=((((a5 s b i).1).k).n)∧((((av s b 2 (i+1) 1).1).k).p)=((((a5 s b i).1).k).p)∧((((av s b 2 (i+1) 1).1).w).n)=((((a5 s b i).1).w).n)∧((((av s b 2 (i+1) 1).1).w).p)=((((a5 s b i).1).w).p)∧(((av s b 2 (i+1) 1).1).args).map (eA 2)=(((a5 s b i).1).args).map (eA 2)∧b.map (ab .u8)=b.map (ab .u8)∧(((av s b 2 (i+1) 1).2:Nat):Int)=(((a5 s b i).2:Nat):Int)∧True))))))) (.w 1 [(1,(HO b i).O),(2,.val (i6 ((b.getD i 0)%4)))]<|.b 8 (.w 2 [(0,Tl.O),(2,(Ek b i 1).O)]<|.e) (.w 3 [(1,(Ek b i 1).O),(4,(vN b (i+1) s 1 2 2).O)]<|.e)) Tryz.func61 rfl rfl rfl (by kernel_rfl) ?_
 refine tt ⟨(pO b i hb),⟨qm,tt (cn (fun hc8=>?_) (fun hc8=>?_))⟩⟩
 · refine⟨(KO),tt ⟨(w9 b i 1 om),tt ⟨?_,?_,?_,?_,?_,?_,(congrArg _ (?_:iQ.args=(((a5 s b i).1).args))),rfl,?_,oK⟩⟩⟩
   all_goals (first | rfl | (rw[Ah (by omega)]) | (rw[Ai (by omega)]) | (rw[Ah (by omega)];rfl) | (rw[Ai (by omega)];rfl))
 · refine tt ⟨(w9 b i 1 om),tt ⟨(AL b (i+1) s 1 1 hb (by omega) (by omega) (by omega) hm hr ht),tt ⟨?_,?_,?_,?_,?_,?_,(congrArg _ (?_:(((av s b 2 (i+1) 1).1).args)=(((a5 s b i).1).args))),rfl,?_,oK⟩⟩⟩
   all_goals (first | rfl | (rw[Ah (by omega)]) | (rw[Ai (by omega)]) | (rw[Ah (by omega)];rfl) | (rw[Ai (by omega)];rfl))
abbrev Pn (l:List Int) (n:Int):Ct:=⟨37,[(LI l),(i6 n)],false,(dB (u7 l n))⟩
abbrev AM (l:List Int) (n:Int):Lp (Nat):=gD [0,1,5] 0 (fun (i:Nat)=>⟨[(0,(LI l)),(1,(i6 n)),(5,(i6 (i:Int)))],[]⟩) (fun (i:Nat)=>i≤l.length∧∀z,z<i→¬l.getD z 0=n) (fun (i:Nat)=>l.length-i)
theorem El (l:List Int) (n:Int) (hl:l.length≤1000000):CC (Pn l n):=by
 refine ah.vc (V:=TT 2 (GO (AM l n) 0 (∀i,(AM l n).inv i→TT 4 (CD ((i:Int)<(l.length:Int)) (TT 2 (IX (i:Int) l.length∧TT 3 (CD ((l.getD i 0)=n) (TT 2 (true=(u7 l n)∧True)) (TT 1 (W6 ((i+1:Nat):Int)∧TT 1 (AG (AM l n) i (i+1))))))) (TT 2 (false=(u7 l n)∧True)))))) (.l (AM l n) 0 (fun i=>.b 9 (.b 17 (.e) (.w 3 [(1,.val (i6 ((i+1:Nat):Int)))]<|.e)) (.e))) Tryz.func37 rfl rfl rfl (by kernel_rfl) ?_
 refine tt ⟨rfl,⟨by omega,fun z hz=>by omega⟩,?_⟩
 intro i F'
 obtain⟨hi,h3⟩:=F'
 refine tt (cd (fun hc9=>?_) (fun hc9=>?_))
 · refine tt ⟨ix,tt (cd (fun XT=>?_) (fun XT=>?_))⟩
   · refine tt ⟨?_,oK⟩
     first | exact(B4 (i:=i) (by omega) XT).symm | exact(FQ (fun z hz=>h3 z (by omega))).symm
   · refine tt ⟨w6,tt ⟨(i+1),rfl,?_,(?_:l.length-(i+1)<l.length-i)⟩⟩
     · exact⟨by omega,bD h3 XT⟩
     · omega
 · refine tt ⟨?_,oK⟩
   first | exact(B4 (i:=i) (by omega) XT).symm | exact(FQ (fun z hz=>h3 z (by omega))).symm
abbrev Tm (s:Int):Ct:=⟨35,[(dI .u8 s)],true,(dL 2 sD dj (aj s))⟩
theorem MY (s:Int) (h0:0≤s) (h1:s≤255):CC (Tm s):=by
 refine ah.vc (V:=TT 2 (QM s 6∧TT 2 (CD ((s%6)=0) (am [[(i6 0)]] ([0].map (ab .i64))∧am [[(i6 1)]] ([1].map (ab .i64))∧TT 1 (am [[(LI [0]),(LI [1])]] ([(⟨[0],[1]⟩:En)].map sD)∧TT 2 ([(⟨[0],[1]⟩:En)].map sD=(aj s).map sD))) (TT 2 (CD ((s%6)=1) (am [[(i6 0)]] ([0].map (ab .i64))∧am [[(i6 1)]] ([1].map (ab .i64))∧TT 1 (am [[(i6 1)]] ([1].map (ab .i64))∧am [[(i6 2)]] ([2].map (ab .i64))∧TT 1 (am [[(LI [0]),(LI [1])],[(LI [1]),(LI [2])]] ([(⟨[0],[1]⟩:En),(⟨[1],[2]⟩:En)].map sD)∧TT 2 ([(⟨[0],[1]⟩:En),(⟨[1],[2]⟩:En)].map sD=(aj s).map sD)))) (TT 2 (CD ((s%6)=2) (am [[(i6 0)]] ([0].map (ab .i64))∧am [[(i6 1)],[(i6 2)]] ([1,2].map (ab .i64))∧TT 1 (am [[(i6 1)]] ([1].map (ab .i64))∧am [[(i6 3)]] ([3].map (ab .i64))∧TT 1 (am [[(i6 2)]] ([2].map (ab .i64))∧am [[(i6 4)]] ([4].map (ab .i64))∧TT 1 (am [[(LI [0]),(LI [1,2])],[(LI [1]),(LI [3])],[(LI [2]),(LI [4])]] ([(⟨[0],[1,2]⟩:En),(⟨[1],[3]⟩:En),(⟨[2],[4]⟩:En)].map sD)∧TT 2 ([(⟨[0],[1,2]⟩:En),(⟨[1],[3]⟩:En),(⟨[2],[4]⟩:En)].map sD=(aj s).map sD))))) (TT 2 (CD ((s%6)=3) (am [[(i6 0)],[(i6 2)]] ([0,2].map (ab .i64))∧am [[(i6 1)]] ([1].map (ab .i64))∧TT 1 (am [[(i6 1)]] ([1].map (ab .i64))∧am [[(i6 2)],[(i6 3)]] ([2,3].map (ab .i64))∧TT 1 (am [[(LI [0,2]),(LI [1])],[(LI [1]),(LI [2,3])]] ([(⟨[0,2],[1]⟩:En),(⟨[1],[2,3]⟩:En)].map sD)∧TT 2 ([(⟨[0,2],[1]⟩:En),(⟨[1],[2,3]⟩:En)].map sD=(aj s).map sD)))) (TT 2 (CD ((s%6)=4) (am [[(i6 0)]] ([0].map (ab .i64))∧am [[(i6 2)]] ([2].map (ab .i64))∧TT 1 (am [[(i6 1)]] ([1].map (ab .i64))∧am [[(i6 3)]] ([3].map (ab .i64))∧TT 1 (am [[(i6 2)],[(i6 3)]] ([2,3].map (ab .i64))∧am [[(i6 4)]] ([4].map (ab .i64))∧TT 1 (am [[(LI [0]),(LI [2])],[(LI [1]),(LI [3])],[(LI [2,3]),(LI [4])]] ([(⟨[0],[2]⟩:En),(⟨[1],[3]⟩:En),(⟨[2,3],[4]⟩:En)].map sD)∧TT 2 ([(⟨[0],[2]⟩:En),(⟨[1],[3]⟩:En),(⟨[2,3],[4]⟩:En)].map sD=(aj s).map sD))))) (am [[(i6 0)]] ([0].map (ab .i64))∧am [[(i6 1)]] ([1].map (ab .i64))∧TT 1 (am [[(i6 1)]] ([1].map (ab .i64))∧am [[(i6 2)]] ([2].map (ab .i64))∧TT 1 (am [[(i6 2)]] ([2].map (ab .i64))∧am [[(i6 3)]] ([3].map (ab .i64))∧TT 1 (am [[(i6 3)]] ([3].map (ab .i64))∧am [[(i6 4)]] ([4].map (ab .i64))∧TT 1 (am [[(LI [0]),(LI [1])],[(LI [1]),(LI [2])],[(LI [2]),(LI [3])],[(LI [3]),(LI [4])]] ([(⟨[0],[1]⟩:En),(⟨[1],[2]⟩:En),(⟨[2],[3]⟩:En),(⟨[3],[4]⟩:En)].map sD)∧TT 2 ([(⟨[0],[1]⟩:En),(⟨[1],[2]⟩:En),(⟨[2],[3]⟩:En),(⟨[3],[4]⟩:En)].map sD=(aj s).map sD))))))))))))))))) (.w 1 [(1,.val (dI .u8 (s%6)))]<|.b 5 (.w 3 [(0,.frz 3 1 (ab .i64) 0 [0]),(1,.frz 3 1 (ab .i64) 0 [1]),(3,.box 108 2 sD dj [(⟨[0],[1]⟩:En)])]<|.e) (.b 11 (.w 5 [(0,.frz 3 1 (ab .i64) 0 [0]),(1,.frz 3 1 (ab .i64) 0 [1]),(3,.frz 3 1 (ab .i64) 0 [1]),(4,.frz 3 1 (ab .i64) 0 [2]),(6,.box 108 2 sD dj [(⟨[0],[1]⟩:En),(⟨[1],[2]⟩:En)])]<|.e) (.b 20 (.w 7 [(0,.frz 3 1 (ab .i64) 0 [0]),(1,.frz 3 1 (ab .i64) 0 [1,2]),(3,.frz 3 1 (ab .i64) 0 [1]),(4,.frz 3 1 (ab .i64) 0 [3]),(6,.frz 3 1 (ab .i64) 0 [2]),(7,.frz 3 1 (ab .i64) 0 [4]),(9,.box 108 2 sD dj [(⟨[0],[1,2]⟩:En),(⟨[1],[3]⟩:En),(⟨[2],[4]⟩:En)])]<|.e) (.b 32 (.w 9 [(0,.frz 3 1 (ab .i64) 0 [0,2]),(1,.frz 3 1 (ab .i64) 0 [1]),(3,.frz 3 1 (ab .i64) 0 [1]),(4,.frz 3 1 (ab .i64) 0 [2,3]),(6,.box 108 2 sD dj [(⟨[0,2],[1]⟩:En),(⟨[1],[2,3]⟩:En)])]<|.e) (.b 41 (.w 11 [(0,.frz 3 1 (ab .i64) 0 [0]),(1,.frz 3 1 (ab .i64) 0 [2]),(3,.frz 3 1 (ab .i64) 0 [1]),(4,.frz 3 1 (ab .i64) 0 [3]),(6,.frz 3 1 (ab .i64) 0 [2,3]),(7,.frz 3 1 (ab .i64) 0 [4]),(9,.box 108 2 sD dj [(⟨[0],[2]⟩:En),(⟨[1],[3]⟩:En),(⟨[2,3],[4]⟩:En)])]<|.e) (.w 12 [(0,.frz 3 1 (ab .i64) 0 [0]),(1,.frz 3 1 (ab .i64) 0 [1]),(3,.frz 3 1 (ab .i64) 0 [1]),(4,.frz 3 1 (ab .i64) 0 [2]),(6,.frz 3 1 (ab .i64) 0 [2]),(7,.frz 3 1 (ab .i64) 0 [3]),(9,.frz 3 1 (ab .i64) 0 [3]),(10,.frz 3 1 (ab .i64) 0 [4]),(12,.box 108 2 sD dj [(⟨[0],[1]⟩:En),(⟨[1],[2]⟩:En),(⟨[2],[3]⟩:En),(⟨[3],[4]⟩:En)])]<|.e)))))) Tryz.func35 rfl rfl rfl (by kernel_rfl) ?_
 refine tt ⟨qm,tt (cd (fun hc5=>?_) (fun hc5=>?_))⟩
 · refine⟨⟨⟨rfl,oK⟩,oK⟩,⟨⟨⟨rfl,oK⟩,oK⟩,tt ⟨⟨⟨rfl,rfl,oK⟩,oK⟩,tt (congrArg _ (?_:[(⟨[0],[1]⟩:En)]=(aj s)))⟩⟩⟩
   unfold aj;simp[*]
 · refine tt (cd (fun YL=>?_) (fun YL=>?_))
   · refine⟨⟨⟨rfl,oK⟩,oK⟩,⟨⟨⟨rfl,oK⟩,oK⟩,tt ⟨⟨⟨rfl,oK⟩,oK⟩,⟨⟨⟨rfl,oK⟩,oK⟩,tt ⟨⟨⟨rfl,rfl,oK⟩,⟨rfl,rfl,oK⟩,oK⟩,tt (congrArg _ (?_:[(⟨[0],[1]⟩:En),(⟨[1],[2]⟩:En)]=(aj s)))⟩⟩⟩⟩⟩
     unfold aj;simp[*]
   · refine tt (cd (fun YM=>?_) (fun YM=>?_))
     · refine⟨⟨⟨rfl,oK⟩,oK⟩,⟨⟨⟨rfl,oK⟩,⟨rfl,oK⟩,oK⟩,tt ⟨⟨⟨rfl,oK⟩,oK⟩,⟨⟨⟨rfl,oK⟩,oK⟩,tt ⟨⟨⟨rfl,oK⟩,oK⟩,⟨⟨⟨rfl,oK⟩,oK⟩,tt ⟨⟨⟨rfl,rfl,oK⟩,⟨rfl,rfl,oK⟩,⟨rfl,rfl,oK⟩,oK⟩,tt (congrArg _ (?_:[(⟨[0],[1,2]⟩:En),(⟨[1],[3]⟩:En),(⟨[2],[4]⟩:En)]=(aj s)))⟩⟩⟩⟩⟩⟩⟩
       unfold aj;simp[*]
     · refine tt (cd (fun hc32=>?_) (fun hc32=>?_))
       · refine⟨⟨⟨rfl,oK⟩,⟨rfl,oK⟩,oK⟩,⟨⟨⟨rfl,oK⟩,oK⟩,tt ⟨⟨⟨rfl,oK⟩,oK⟩,⟨⟨⟨rfl,oK⟩,⟨rfl,oK⟩,oK⟩,tt ⟨⟨⟨rfl,rfl,oK⟩,⟨rfl,rfl,oK⟩,oK⟩,tt (congrArg _ (?_:[(⟨[0,2],[1]⟩:En),(⟨[1],[2,3]⟩:En)]=(aj s)))⟩⟩⟩⟩⟩
         unfold aj;simp[*]
       · refine tt (cd (fun Y8=>?_) (fun Y8=>?_))
         · refine⟨⟨⟨rfl,oK⟩,oK⟩,⟨⟨⟨rfl,oK⟩,oK⟩,tt ⟨⟨⟨rfl,oK⟩,oK⟩,⟨⟨⟨rfl,oK⟩,oK⟩,tt ⟨⟨⟨rfl,oK⟩,⟨rfl,oK⟩,oK⟩,⟨⟨⟨rfl,oK⟩,oK⟩,tt ⟨⟨⟨rfl,rfl,oK⟩,⟨rfl,rfl,oK⟩,⟨rfl,rfl,oK⟩,oK⟩,tt (congrArg _ (?_:[(⟨[0],[2]⟩:En),(⟨[1],[3]⟩:En),(⟨[2,3],[4]⟩:En)]=(aj s)))⟩⟩⟩⟩⟩⟩⟩
           unfold aj;simp[*]
         · refine⟨⟨⟨rfl,oK⟩,oK⟩,⟨⟨⟨rfl,oK⟩,oK⟩,tt ⟨⟨⟨rfl,oK⟩,oK⟩,⟨⟨⟨rfl,oK⟩,oK⟩,tt ⟨⟨⟨rfl,oK⟩,oK⟩,⟨⟨⟨rfl,oK⟩,oK⟩,tt ⟨⟨⟨rfl,oK⟩,oK⟩,⟨⟨⟨rfl,oK⟩,oK⟩,tt ⟨⟨⟨rfl,rfl,oK⟩,⟨rfl,rfl,oK⟩,⟨rfl,rfl,oK⟩,⟨rfl,rfl,oK⟩,oK⟩,tt (congrArg _ (?_:[(⟨[0],[1]⟩:En),(⟨[1],[2]⟩:En),(⟨[2],[3]⟩:En),(⟨[3],[4]⟩:En)]=(aj s)))⟩⟩⟩⟩⟩⟩⟩⟩⟩
           unfold aj;simp[*]
abbrev Tn (b:List Int) (i:Nat) (nm:ByteArray) (e:En):Ct:=⟨36,[(.agg [(LY b),(i6 (i:Int))]),(dS nm),(.agg [(LI e.I),(LI e.Uj)])],true,(.agg [(dS (((bH b i nm e).1).name)),(dS (((bH b i nm e).1).clock)),(dL 13 bO aI (((bH b i nm e).1).Ul)),(dL 27 b8 ay (((bH b i nm e).1).Uk)),(dL 9 dU bC (((bH b i nm e).1).I)),(dL 16 dQ bt (((bH b i nm e).1).Uj)),(LY b),(i6 (((bH b i nm e).2:Nat):Int))])⟩
abbrev mQ (b:List Int) (i:Nat) (nm:ByteArray) (e:En):Lp (Nat):=gD [3,5,6,7,8,9,10] 8 (fun (k:Nat)=>⟨[(3,(.ptr 0 0 0 0)),(5,(.ptr 1 0 0 0)),(6,(.ptr 2 0 0 0)),(7,(i6 (b.getD i 0))),(8,(.ptr 4 0 0 0)),(9,(.ptr 5 0 0 0)),(10,(i6 (k:Int)))],[(.var 103 [(LY b),(i6 ((i+1:Nat):Int))]),(.var 108 [(LI e.I),(LI e.Uj)]),Gu,.dead,(.var 76 [(dS nm),(dS ([(bs [97]),(bs [98])].getD (((b.getD i 0)%2).toNat) .empty)),(.own 6),.nils,.nils,.nils]),(.var 145 [(.own 7),.nils,.nils,(dB true)]),(.arr 60 13 bO aI (tab (wO (b.getD i 0)) k)),(.arr 3 1 (ab .i64) 0 (tab (bW (b.getD i 0)) k))]⟩) (fun (k:Nat)=>k≤qW (b.getD i 0)) (fun (k:Nat)=>qW (b.getD i 0)-k)
abbrev mR (b:List Int) (i:Nat) (nm:ByteArray) (e:En) (k:Nat):Lp (Nat×Nat):=nN [3,5,6,8,9,12] 10 (fun (j:Nat) (p1:Nat)=>⟨[(3,(.ptr 0 0 0 0)),(5,(.ptr 1 0 0 0)),(6,(.ptr 2 0 0 0)),(8,(.ptr 4 0 0 0)),(9,(.ptr 5 0 0 0)),(12,(i6 (j:Int)))],[(.var 103 [(LY b),(i6 (p1:Int))]),(.var 108 [(LI e.I),(LI e.Uj)]),Gu,.dead,(.var 76 [(dS nm),(dS ([(bs [97]),(bs [98])].getD (((b.getD i 0)%2).toNat) .empty)),(.own 6),.nils,(.own 8),.nils]),(.var 145 [(LI (tab (bW (b.getD i 0)) k)),(.own 9),.nils,(dB true)]),(.arr 60 13 bO aI (tab (wO (b.getD i 0)) k)),.dead,(.arr 150 9 dU bC (tab (FP b (b.getD i 0) (i+1) e) j)),(.arr 3 1 (ab .i64) 0 (List.replicate j (2:Int)))]⟩) (fun (j:Nat) (p1:Nat)=>j≤e.I.length∧p1=B3 b (b.getD i 0) (i+1) j) (fun (j:Nat) (p1:Nat)=>e.I.length-j)
abbrev mS (b:List Int) (i:Nat) (nm:ByteArray) (e:En) (k:Nat) (j:Nat):Lp (Nat×Nat×List Rg):=P0 [3,5,6,8,9,14] 10 (fun (q:Nat) (p2:Nat) (rl:List Rg)=>⟨[(3,(.ptr 0 0 0 0)),(5,(.ptr 1 0 0 0)),(6,(.ptr 2 0 0 0)),(8,(.ptr 4 0 0 0)),(9,(.ptr 5 0 0 0)),(14,(i6 (q:Int)))],[(.var 103 [(LY b),(i6 (p2:Int))]),(.var 108 [(LI e.I),(LI e.Uj)]),Gu,.dead,(.var 76 [(dS nm),(dS ([(bs [97]),(bs [98])].getD (((b.getD i 0)%2).toNat) .empty)),(.own 6),.nils,(.own 8),.nils]),(.var 145 (CA b i k j)),(.arr 60 13 bO aI rl),.dead,(.arr 150 9 dU bC (tab (FP b (b.getD i 0) (i+1) e) j)),.dead]⟩) (fun (q:Nat) (p2:Nat) (rl:List Rg)=>q≤qW (b.getD i 0)∧p2=Ag b (b.getD i 0) e.I.length (mi b i e) q∧rl=cG (Ox b (b.getD i 0) e.I.length (mi b i e)) (tab (wO (b.getD i 0)) k) q) (fun (q:Nat) (p2:Nat) (rl:List Rg)=>qW (b.getD i 0)-q)
abbrev mU (b:List Int) (i:Nat) (nm:ByteArray) (e:En) (k:Nat) (j:Nat) (rl:List Rg):Lp (Nat×Nat):=nN [3,5,6,8,9,16] 11 (fun (m:Nat) (p3:Nat)=>⟨[(3,(.ptr 0 0 0 0)),(5,(.ptr 1 0 0 0)),(6,(.ptr 2 0 0 0)),(8,(.ptr 4 0 0 0)),(9,(.ptr 5 0 0 0)),(16,(i6 (m:Int)))],[(.var 103 [(LY b),(i6 (p3:Int))]),(.var 108 [(LI e.I),(LI e.Uj)]),Gu,.dead,(.var 76 [(dS nm),(dS ([(bs [97]),(bs [98])].getD (((b.getD i 0)%2).toNat) .empty)),(.own 6),.nils,(.own 8),(.own 10)]),(.var 145 (CA b i k j)),(.arr 60 13 bO aI rl),.dead,(.arr 150 9 dU bC (tab (FP b (b.getD i 0) (i+1) e) j)),.dead,(.arr 72 16 dQ bt (tab (H3 b (b.getD i 0) e.I.length (ll b i e) e) m))]⟩) (fun (m:Nat) (p3:Nat)=>m≤e.Uj.length∧p3=wP b (b.getD i 0) e.I.length (ll b i e) m) (fun (m:Nat) (p3:Nat)=>e.Uj.length-m)
theorem Em (b:List Int) (i:Nat) (nm:ByteArray) (e:En) (hb:ic b) (hi:i+10000≤9223372036854775807) (ht:e.I.length≤10) (hpu:e.Uj.length≤10):CC (Tn b i nm e):=by
 have hy:=cO hb i
 have hnr:=Am hy.1
 refine ah.vc (V:=TT 4 (CC (HO b i)∧TT 2 (CC (Ek b i 1)∧TT 2 (am [[(dS (bs [97]))],[(dS (bs [98]))]] ([(bs [97]),(bs [98])].map eo)∧TT 1 (QM (b.getD i 0) 2∧IX ((b.getD i 0)%2) ([(bs [97]),(bs [98])].length)∧TT 8 (GO (mQ b i nm e) 0 (∀k,(mQ b i nm e).inv k→TT 2 (QD (b.getD i 0) 2∧QM ((b.getD i 0) / 2) 2∧W6 (1+(((b.getD i 0) / 2)%2))∧TT 1 (CD ((k:Int)<(1+(((b.getD i 0) / 2)%2))) (TT 1 (QD (b.getD i 0) 4∧TT 1 (W6 (((b.getD i 0) / 4)+(k:Int))∧QM (((b.getD i 0) / 4)+(k:Int)) 2∧(True∧(IntKind.wrap .i64 (1+((((b.getD i 0) / 4)+(k:Int))%2)))=(bW (b.getD i 0) k))∧TT 3 (am [[(dS (bs [114]))],[(dS (bs [115]))]] ([(bs [114]),(bs [115])].map eo)∧TT 1 (IX (k:Int) ([(bs [114]),(bs [115])].length)∧TT 3 (QD (b.getD i 0) 8∧TT 1 (CC (Eg (bW (b.getD i 0) k))∧(True∧(IntKind.wrap .i64 (BitVec.ofInt (IntKind.i64).bits ((b.getD i 0) / 8) &&& BitVec.ofInt (IntKind.i64).bits (ai (bW (b.getD i 0) k))).toNat)=((b.getD i 0) / 8%2^(bW (b.getD i 0) k).toNat))∧am [[(i6 1)],[(i6 1)],[(i6 0)]] ([1,1,0].map (ab .i64))∧TT 1 (QD (b.getD i 0) 16∧QM ((b.getD i 0) / 16) 3∧IX (((b.getD i 0) / 16)%3) ([1,1,0].length)∧TT 3 (am [[(dS ([(bs [114]),(bs [115])].getD k .empty)),(i6 (bW (b.getD i 0) k)),(i6 ((b.getD i 0) / 8%2^(bW (b.getD i 0) k).toNat)),(i6 0),(dS e0),(i6 0),(dS e0),(i6 0),(dS e0),.nils,(i6 ([1,1,0].getD ((((b.getD i 0) / 16)%3).toNat) 0)),(dS e0),(i6 0)]] ([(⟨([(bs [114]),(bs [115])].getD k .empty),bW (b.getD i 0) k,(b.getD i 0) / 8%2^(bW (b.getD i 0) k).toNat,⟨0,e0,⟨0,e0⟩,⟨0,e0⟩,[]⟩,⟨([1,1,0].getD ((((b.getD i 0) / 16)%3).toNat) 0),e0,0⟩⟩:Rg)].map bO)∧((tab (wO (b.getD i 0)) k).length+([(⟨([(bs [114]),(bs [115])].getD k .empty),bW (b.getD i 0) k,(b.getD i 0) / 8%2^(bW (b.getD i 0) k).toNat,⟨0,e0,⟨0,e0⟩,⟨0,e0⟩,[]⟩,⟨([1,1,0].getD ((((b.getD i 0) / 16)%3).toNat) 0),e0,0⟩⟩:Rg)].map bO).length≤137438953472∧(tab (wO (b.getD i 0)) k).map bO++[(⟨([(bs [114]),(bs [115])].getD k .empty),bW (b.getD i 0) k,(b.getD i 0) / 8%2^(bW (b.getD i 0) k).toNat,⟨0,e0,⟨0,e0⟩,⟨0,e0⟩,[]⟩,⟨([1,1,0].getD ((((b.getD i 0) / 16)%3).toNat) 0),e0,0⟩⟩:Rg)].map bO=(tab (wO (b.getD i 0)) (k+1)).map bO)∧TT 5 (am [[(i6 (bW (b.getD i 0) k))]] ([bW (b.getD i 0) k].map (ab .i64))∧((tab (bW (b.getD i 0)) k).length+([bW (b.getD i 0) k].map (ab .i64)).length≤137438953472∧(tab (bW (b.getD i 0)) k).map (ab .i64)++[bW (b.getD i 0) k].map (ab .i64)=(tab (bW (b.getD i 0)) (k+1)).map (ab .i64))∧TT 3 (W6 ((k+1:Nat):Int)∧TT 1 (AG (mQ b i nm e) k (k+1))))))))))))) (TT 1 (GO (mR b i nm e k) (0,i+1) (∀j p1,(mR b i nm e k).inv (j,p1)→TT 5 (CD ((j:Int)<(e.I.length:Int)) (TT 4 ((uB [] [(.agg [(LY b),(i6 (p1:Int))]),(.agg [(LI (tab (bW (b.getD i 0)) k)),.nils,.nils,(dB false)])] (Pm b p1 (⟨tab (bW (b.getD i 0)) k,[],[],false⟩:Sg)).q'∧CC (Pm b p1 (⟨tab (bW (b.getD i 0)) k,[],[],false⟩:Sg)))∧TT 10 (IX (j:Int) e.I.length∧TT 4 (am [[(i6 (e.I.getD j 0)),(i6 2),(i6 (((a5 (⟨tab (bW (b.getD i 0)) k,[],[],false⟩:Sg) b p1).1).op)),(dS (((a5 (⟨tab (bW (b.getD i 0)) k,[],[],false⟩:Sg) b p1).1).name)),(i6 ((((a5 (⟨tab (bW (b.getD i 0)) k,[],[],false⟩:Sg) b p1).1).k).n)),(dS ((((a5 (⟨tab (bW (b.getD i 0)) k,[],[],false⟩:Sg) b p1).1).k).p)),(i6 ((((a5 (⟨tab (bW (b.getD i 0)) k,[],[],false⟩:Sg) b p1).1).w).n)),(dS ((((a5 (⟨tab (bW (b.getD i 0)) k,[],[],false⟩:Sg) b p1).1).w).p)),(dL 7 (eA 2) dE (((a5 (⟨tab (bW (b.getD i 0)) k,[],[],false⟩:Sg) b p1).1).args))]] ([(⟨(e.I.getD j 0),2,(a5 (⟨tab (bW (b.getD i 0)) k,[],[],false⟩:Sg) b p1).1⟩:Tk)].map dU)∧((tab (FP b (b.getD i 0) (i+1) e) j).length+([(⟨(e.I.getD j 0),2,(a5 (⟨tab (bW (b.getD i 0)) k,[],[],false⟩:Sg) b p1).1⟩:Tk)].map dU).length≤137438953472∧(tab (FP b (b.getD i 0) (i+1) e) j).map dU++[(⟨(e.I.getD j 0),2,(a5 (⟨tab (bW (b.getD i 0)) k,[],[],false⟩:Sg) b p1).1⟩:Tk)].map dU=(tab (FP b (b.getD i 0) (i+1) e) (j+1)).map dU)∧TT 4 (am [[(i6 2)]] ([2].map (ab .i64))∧((List.replicate j (2:Int)).length+([2].map (ab .i64)).length≤137438953472∧(List.replicate j (2:Int)).map (ab .i64)++[2].map (ab .i64)=(List.replicate (j+1) (2:Int)).map (ab .i64))∧TT 3 (W6 ((j+1:Nat):Int)∧TT 1 (AG (mR b i nm e k) (j,p1) (j+1,(a5 (⟨tab (bW (b.getD i 0)) k,[],[],false⟩:Sg) b p1).2)))))))) (TT 1 (GO (mS b i nm e k j) (0,p1,tab (wO (b.getD i 0)) k) (∀q p2 rl,(mS b i nm e k j).inv (q,p2,rl)→TT 5 (CD ((q:Int)<(rl.length:Int)) (TT 5 (IX (q:Int) rl.length∧TT 1 ((q<rl.length∧True)∧TT 1 ((uB [] [(.agg [(LY b),(i6 (p2:Int))]),(.agg (CA b i k j)),(.agg [(i6 ((rl.getD q aI).w)),(i6 3)])] (vN b p2 (⟨tab (bW (b.getD i 0)) k,List.replicate j (2:Int),[],true⟩:Sg) ((rl.getD q aI).w) 3 2).q'∧CC (vN b p2 (⟨tab (bW (b.getD i 0)) k,List.replicate j (2:Int),[],true⟩:Sg) ((rl.getD q aI).w) 3 2))∧TT 10 (IX (q:Int) rl.length∧TT 1 ((q<rl.length∧(rl.map bO).set q ((bO (rl.getD q aI)).take 3++[(.int .i64 (((av (⟨tab (bW (b.getD i 0)) k,List.replicate j (2:Int),[],true⟩:Sg) b 3 p2 ((rl.getD q aI).w)).1).op)),(.str (((av (⟨tab (bW (b.getD i 0)) k,List.replicate j (2:Int),[],true⟩:Sg) b 3 p2 ((rl.getD q aI).w)).1).name)),(.int .i64 ((((av (⟨tab (bW (b.getD i 0)) k,List.replicate j (2:Int),[],true⟩:Sg) b 3 p2 ((rl.getD q aI).w)).1).k).n)),(.str ((((av (⟨tab (bW (b.getD i 0)) k,List.replicate j (2:Int),[],true⟩:Sg) b 3 p2 ((rl.getD q aI).w)).1).k).p)),(.int .i64 ((((av (⟨tab (bW (b.getD i 0)) k,List.replicate j (2:Int),[],true⟩:Sg) b 3 p2 ((rl.getD q aI).w)).1).w).n)),(.str ((((av (⟨tab (bW (b.getD i 0)) k,List.replicate j (2:Int),[],true⟩:Sg) b 3 p2 ((rl.getD q aI).w)).1).w).p)),(.sl 7 (eA 2) dE (((av (⟨tab (bW (b.getD i 0)) k,List.replicate j (2:Int),[],true⟩:Sg) b 3 p2 ((rl.getD q aI).w)).1).args))]++(bO (rl.getD q aI)).drop (3+7))=(rl.set q { rl.getD q aI with next:=(av (⟨tab (bW (b.getD i 0)) k,List.replicate j (2:Int),[],true⟩:Sg) b 3 p2 (rl.getD q aI).w).1 }).map bO)∧TT 1 (W6 ((q+1:Nat):Int)∧TT 1 (AG (mS b i nm e k j) (q,p2,rl) (q+1,(av (⟨tab (bW (b.getD i 0)) k,List.replicate j (2:Int),[],true⟩:Sg) b 3 p2 ((rl.getD q aI).w)).2,rl.set q { rl.getD q aI with next:=(av (⟨tab (bW (b.getD i 0)) k,List.replicate j (2:Int),[],true⟩:Sg) b 3 p2 (rl.getD q aI).w).1 }))))))))) (TT 1 (GO (mU b i nm e k j rl) (0,p2) (∀m p3,(mU b i nm e k j rl).inv (m,p3)→TT 5 (CD ((m:Int)<(e.Uj.length:Int)) (TT 2 ((uB [] [(.agg [(LY b),(i6 (p3:Int))]),(.agg (CA b i k j))] (Pm b p3 (⟨tab (bW (b.getD i 0)) k,List.replicate j (2:Int),[],true⟩:Sg)).q'∧CC (Pm b p3 (⟨tab (bW (b.getD i 0)) k,List.replicate j (2:Int),[],true⟩:Sg)))∧TT 6 ((uB [] [(.agg [(LY b),(i6 (((a5 (⟨tab (bW (b.getD i 0)) k,List.replicate j (2:Int),[],true⟩:Sg) b p3).2:Nat):Int))]),(.agg (CA b i k j)),(.agg [(i6 2),(i6 2)])] (vN b ((a5 (⟨tab (bW (b.getD i 0)) k,List.replicate j (2:Int),[],true⟩:Sg) b p3).2) (⟨tab (bW (b.getD i 0)) k,List.replicate j (2:Int),[],true⟩:Sg) 2 2 2).q'∧CC (vN b ((a5 (⟨tab (bW (b.getD i 0)) k,List.replicate j (2:Int),[],true⟩:Sg) b p3).2) (⟨tab (bW (b.getD i 0)) k,List.replicate j (2:Int),[],true⟩:Sg) 2 2 2))∧TT 10 (IX (m:Int) e.Uj.length∧TT 6 (am [[(i6 (e.Uj.getD m 0)),(i6 2),(i6 (((a5 (⟨tab (bW (b.getD i 0)) k,List.replicate j (2:Int),[],true⟩:Sg) b p3).1).op)),(dS (((a5 (⟨tab (bW (b.getD i 0)) k,List.replicate j (2:Int),[],true⟩:Sg) b p3).1).name)),(i6 ((((a5 (⟨tab (bW (b.getD i 0)) k,List.replicate j (2:Int),[],true⟩:Sg) b p3).1).k).n)),(dS ((((a5 (⟨tab (bW (b.getD i 0)) k,List.replicate j (2:Int),[],true⟩:Sg) b p3).1).k).p)),(i6 ((((a5 (⟨tab (bW (b.getD i 0)) k,List.replicate j (2:Int),[],true⟩:Sg) b p3).1).w).n)),(dS ((((a5 (⟨tab (bW (b.getD i 0)) k,List.replicate j (2:Int),[],true⟩:Sg) b p3).1).w).p)),(dL 7 (eA 2) dE (((a5 (⟨tab (bW (b.getD i 0)) k,List.replicate j (2:Int),[],true⟩:Sg) b p3).1).args)),(i6 (((av (⟨tab (bW (b.getD i 0)) k,List.replicate j (2:Int),[],true⟩:Sg) b 2 ((a5 (⟨tab (bW (b.getD i 0)) k,List.replicate j (2:Int),[],true⟩:Sg) b p3).2) 2).1).op)),(dS (((av (⟨tab (bW (b.getD i 0)) k,List.replicate j (2:Int),[],true⟩:Sg) b 2 ((a5 (⟨tab (bW (b.getD i 0)) k,List.replicate j (2:Int),[],true⟩:Sg) b p3).2) 2).1).name)),(i6 ((((av (⟨tab (bW (b.getD i 0)) k,List.replicate j (2:Int),[],true⟩:Sg) b 2 ((a5 (⟨tab (bW (b.getD i 0)) k,List.replicate j (2:Int),[],true⟩:Sg) b p3).2) 2).1).k).n)),(dS ((((av (⟨tab (bW (b.getD i 0)) k,List.replicate j (2:Int),[],true⟩:Sg) b 2 ((a5 (⟨tab (bW (b.getD i 0)) k,List.replicate j (2:Int),[],true⟩:Sg) b p3).2) 2).1).k).p)),(i6 ((((av (⟨tab (bW (b.getD i 0)) k,List.replicate j (2:Int),[],true⟩:Sg) b 2 ((a5 (⟨tab (bW (b.getD i 0)) k,List.replicate j (2:Int),[],true⟩:Sg) b p3).2) 2).1).w).n)),(dS ((((av (⟨tab (bW (b.getD i 0)) k,List.replicate j (2:Int),[],true⟩:Sg) b 2 ((a5 (⟨tab (bW (b.getD i 0)) k,List.replicate j (2:Int),[],true⟩:Sg) b p3).2) 2).1).w).p)),(dL 7 (eA 2) dE (((av (⟨tab (bW (b.getD i 0)) k,List.replicate j (2:Int),[],true⟩:Sg) b 2 ((a5 (⟨tab (bW (b.getD i 0)) k,List.replicate j (2:Int),[],true⟩:Sg) b p3).2) 2).1).args))]] ([(⟨(e.Uj.getD m 0),2,(a5 (⟨tab (bW (b.getD i 0)) k,List.replicate j (2:Int),[],true⟩:Sg) b p3).1,(av (⟨tab (bW (b.getD i 0)) k,List.replicate j (2:Int),[],true⟩:Sg) b 2 ((a5 (⟨tab (bW (b.getD i 0)) k,List.replicate j (2:Int),[],true⟩:Sg) b p3).2) 2).1⟩:Pt)].map dQ)∧((tab (H3 b (b.getD i 0) e.I.length (ll b i e) e) m).length+([(⟨(e.Uj.getD m 0),2,(a5 (⟨tab (bW (b.getD i 0)) k,List.replicate j (2:Int),[],true⟩:Sg) b p3).1,(av (⟨tab (bW (b.getD i 0)) k,List.replicate j (2:Int),[],true⟩:Sg) b 2 ((a5 (⟨tab (bW (b.getD i 0)) k,List.replicate j (2:Int),[],true⟩:Sg) b p3).2) 2).1⟩:Pt)].map dQ).length≤137438953472∧(tab (H3 b (b.getD i 0) e.I.length (ll b i e) e) m).map dQ++[(⟨(e.Uj.getD m 0),2,(a5 (⟨tab (bW (b.getD i 0)) k,List.replicate j (2:Int),[],true⟩:Sg) b p3).1,(av (⟨tab (bW (b.getD i 0)) k,List.replicate j (2:Int),[],true⟩:Sg) b 2 ((a5 (⟨tab (bW (b.getD i 0)) k,List.replicate j (2:Int),[],true⟩:Sg) b p3).2) 2).1⟩:Pt)].map dQ=(tab (H3 b (b.getD i 0) e.I.length (ll b i e) e) (m+1)).map dQ)∧TT 3 (W6 ((m+1:Nat):Int)∧TT 1 (AG (mU b i nm e k j rl) (m,p3) (m+1,(av (⟨tab (bW (b.getD i 0)) k,List.replicate j (2:Int),[],true⟩:Sg) b 2 ((a5 (⟨tab (bW (b.getD i 0)) k,List.replicate j (2:Int),[],true⟩:Sg) b p3).2) 2).2)))))))) (TT 5 (nm=(((bH b i nm e).1).name)∧([(bs [97]),(bs [98])].getD (((b.getD i 0)%2).toNat) .empty)=(((bH b i nm e).1).clock)∧rl.map bO=(((bH b i nm e).1).Ul).map bO∧(((bH b i nm e).1).Uk)=[]∧(tab (FP b (b.getD i 0) (i+1) e) j).map dU=(((bH b i nm e).1).I).map dU∧(tab (H3 b (b.getD i 0) e.I.length (ll b i e) e) m).map dQ=(((bH b i nm e).1).Uj).map dQ∧b.map (ab .u8)=b.map (ab .u8)∧(p3:Int)=(((bH b i nm e).2:Nat):Int)∧True))))))))))))))))))))))) (.w 1 [(1,(HO b i).O)]<|.w 2 [(1,(Ek b i 1).O)]<|.w 3 [(1,.frz 9 1 eo .empty [(bs [97]),(bs [98])]),(3,.val (i6 ((b.getD i 0)%2)))]<|.g 5 4 2 60 13 bO aI<|.g 5 5 0 3 1 (ab .i64) 0<|.l (mQ b i nm e) 0 (fun k=>.w 6 [(2,.val (i6 ((b.getD i 0) / 2))),(3,.val (i6 (((b.getD i 0) / 2)%2))),(4,.val (i6 (1+(((b.getD i 0) / 2)%2))))]<|.b 36 (.w 8 [(1,.val (i6 ((b.getD i 0) / 4))),(3,.val (i6 (((b.getD i 0) / 4)+(k:Int)))),(4,.val (i6 ((((b.getD i 0) / 4)+(k:Int))%2))),(5,.val (i6 (bW (b.getD i 0) k)))]<|.w 9 [(2,.box 9 1 eo .empty [(bs [114]),(bs [115])]),(8,.val (i6 ((b.getD i 0) / 8))),(10,(Eg (bW (b.getD i 0) k)).O),(11,.val (i6 ((b.getD i 0) / 8%2^(bW (b.getD i 0) k).toNat))),(12,.box 3 1 (ab .i64) 0 [1,1,0]),(14,.val (i6 ((b.getD i 0) / 16))),(15,.val (i6 (((b.getD i 0) / 16)%3))),(20,.box 60 13 bO aI [(⟨([(bs [114]),(bs [115])].getD k .empty),bW (b.getD i 0) k,(b.getD i 0) / 8%2^(bW (b.getD i 0) k).toNat,⟨0,e0,⟨0,e0⟩,⟨0,e0⟩,[]⟩,⟨([1,1,0].getD ((((b.getD i 0) / 16)%3).toNat) 0),e0,0⟩⟩:Rg)]),(21,.box 60 13 bO aI (tab (wO (b.getD i 0)) (k+1)))]<|.w 10 [(3,.box 3 1 (ab .i64) 0 [bW (b.getD i 0) k]),(4,.box 3 1 (ab .i64) 0 (tab (bW (b.getD i 0)) (k+1)))]<|.w 7 [(1,.val (i6 ((k+1:Nat):Int)))]<|.e) (.g 11 4 4 150 9 dU bC<|.g 11 5 1 3 1 (ab .i64) 0<|.f 11 7<|.l (mR b i nm e k) (0,i+1) (fun ⟨j,p1⟩=>.b 78 (.w 14 [(4,(Pm b p1 (⟨tab (bW (b.getD i 0)) k,[],[],false⟩:Sg)).O')]<|.w 16 [(10,.box 150 9 dU bC [(⟨(e.I.getD j 0),2,(a5 (⟨tab (bW (b.getD i 0)) k,[],[],false⟩:Sg) b p1).1⟩:Tk)]),(11,.box 150 9 dU bC (tab (FP b (b.getD i 0) (i+1) e) (j+1)))]<|.w 17 [(2,.box 3 1 (ab .i64) 0 [2]),(3,.box 3 1 (ab .i64) 0 (List.replicate (j+1) (2:Int)))]<|.w 13 [(1,.val (i6 ((j+1:Nat):Int)))]<|.e) (.f 18 9<|.l (mS b i nm e k j) (0,p1,tab (wO (b.getD i 0)) k) (fun ⟨q,p2,rl⟩=>.b 110 (.w 21 [(9,(vN b p2 (⟨tab (bW (b.getD i 0)) k,List.replicate j (2:Int),[],true⟩:Sg) ((rl.getD q aI).w) 3 2).O')]<|.w 23 [(7,.box 60 13 bO aI (rl.set q { rl.getD q aI with next:=(av (⟨tab (bW (b.getD i 0)) k,List.replicate j (2:Int),[],true⟩:Sg) b 3 p2 (rl.getD q aI).w).1 }))]<|.w 20 [(1,.val (i6 ((q+1:Nat):Int)))]<|.e) (.g 24 4 5 72 16 dQ bt<|.l (mU b i nm e k j rl) (0,p2) (fun ⟨m,p3⟩=>.b 136 (.w 27 [(2,(Pm b p3 (⟨tab (bW (b.getD i 0)) k,List.replicate j (2:Int),[],true⟩:Sg)).O')]<|.w 28 [(4,(vN b ((a5 (⟨tab (bW (b.getD i 0)) k,List.replicate j (2:Int),[],true⟩:Sg) b p3).2) (⟨tab (bW (b.getD i 0)) k,List.replicate j (2:Int),[],true⟩:Sg) 2 2 2).O')]<|.w 30 [(12,.box 72 16 dQ bt [(⟨(e.Uj.getD m 0),2,(a5 (⟨tab (bW (b.getD i 0)) k,List.replicate j (2:Int),[],true⟩:Sg) b p3).1,(av (⟨tab (bW (b.getD i 0)) k,List.replicate j (2:Int),[],true⟩:Sg) b 2 ((a5 (⟨tab (bW (b.getD i 0)) k,List.replicate j (2:Int),[],true⟩:Sg) b p3).2) 2).1⟩:Pt)]),(13,.box 72 16 dQ bt (tab (H3 b (b.getD i 0) e.I.length (ll b i e) e) (m+1)))]<|.w 26 [(1,.val (i6 ((m+1:Nat):Int)))]<|.e) (.e))))))))) Tryz.func36 rfl rfl rfl (by kernel_rfl) ?_
 refine tt ⟨(pO b i hb),tt ⟨(w9 b i 1 om),tt ⟨⟨⟨rfl,oK⟩,⟨rfl,oK⟩,oK⟩,tt ⟨qm,⟨ix,tt ⟨rfl,(by omega),?_⟩⟩⟩⟩⟩⟩
 intro k F'
 have hk:=F'
 refine tt ⟨qd,⟨qm,⟨w6,tt (cd (fun hc36=>?_) (fun hc36=>?_))⟩⟩⟩
 · have hrw:=Ak (b.getD i 0) k
   refine tt ⟨qd,tt ⟨w6,⟨qm,⟨⟨oK,(uD (by unfold bW;rfl) (by omega) (by omega))⟩,tt ⟨⟨⟨rfl,oK⟩,⟨rfl,oK⟩,oK⟩,tt ⟨ix,tt ⟨qd,tt ⟨(jT (bW (b.getD i 0) k)),⟨⟨oK,(yy (by omega) (by omega))⟩,⟨⟨⟨rfl,oK⟩,⟨rfl,oK⟩,⟨rfl,oK⟩,oK⟩,tt ⟨qd,⟨qm,⟨ix,tt ⟨⟨⟨rfl,rfl,rfl,rfl,rfl,rfl,rfl,rfl,rfl,rfl,rfl,rfl,rfl,oK⟩,oK⟩,⟨(aZ (by omega) rfl),tt ⟨⟨⟨rfl,oK⟩,oK⟩,⟨(aZ (by omega) rfl),tt ⟨w6,tt ⟨(k+1),rfl,(?_:(k+1)≤qW (b.getD i 0)),(?_:qW (b.getD i 0)-(k+1)<qW (b.getD i 0)-k)⟩⟩⟩⟩⟩⟩⟩⟩⟩⟩⟩⟩⟩⟩⟩⟩⟩⟩⟩
   · omega
   · omega
 · have X5:k=qW (b.getD i 0):=by omega
   have hs0k:(⟨tab (bW (b.getD i 0)) k,[],[],false⟩:Sg)=PG (b.getD i 0):=by rw[X5];rfl
   have XL:(tab (bW (b.getD i 0)) k).length≤100:=by rw[aJ];omega
   refine tt ⟨rfl,⟨by omega,rfl⟩,?_⟩
   intro j p1 F'
   obtain⟨hj,hp1⟩:=F'
   have hpb:=vE hb (b.getD i 0) (i+1) j
   refine tt (cd (fun hc78=>?_) (fun hc78=>?_))
   · refine tt ⟨⟨⟨⟨rfl,rfl,oK⟩,⟨rfl,rfl,rfl,rfl,oK⟩,oK⟩,(Gv b p1 (⟨tab (bW (b.getD i 0)) k,[],[],false⟩:Sg) hb om (by simp) (by first | assumption | simp) (by first | assumption | simp))⟩,tt ⟨ix,tt ⟨⟨⟨rfl,rfl,rfl,rfl,rfl,rfl,rfl,rfl,rfl,oK⟩,oK⟩,⟨(aZ (by omega) (by rw[hs0k,hp1];rfl)),tt ⟨⟨⟨rfl,oK⟩,oK⟩,⟨⟨by simp;omega,by rw[List.replicate_succ',Vc]⟩,tt ⟨w6,tt ⟨(j+1,(a5 (⟨tab (bW (b.getD i 0)) k,[],[],false⟩:Sg) b p1).2),rfl,?_,(?_:e.I.length-(j+1)<e.I.length-j)⟩⟩⟩⟩⟩⟩⟩⟩
     · exact⟨by omega,by rw[hs0k,hp1];rfl⟩
     · omega
   · have hje:j=e.I.length:=by omega
     have hs1k:(⟨tab (bW (b.getD i 0)) k,List.replicate j (2:Int),[],true⟩:Sg)=B2 (b.getD i 0) e.I.length:=by rw[X5,hje];rfl
     have hjl:(List.replicate j (2:Int)).length≤100:=by rw[Us];omega
     have hps1:i+1≤mi b i e∧mi b i e≤i+1+100*e.I.length:=vE hb (b.getD i 0) (i+1) e.I.length
     refine tt ⟨rfl,⟨by omega,by rw[hp1,hje];rfl,rfl⟩,?_⟩
     intro q p2 rl F'
     obtain⟨hq,hp2,hrl⟩:=F'
     have hpb:=vG hb (b.getD i 0) e.I.length (mi b i e) q
     have hrll:rl.length=qW (b.getD i 0):=by rw[hrl,ci (by rw[aJ];omega),aJ];exact X5
     refine tt (cd (fun hc110=>?_) (fun hc110=>?_))
     · have hrq:rl.getD q aI=wO (b.getD i 0) q:=by rw[hrl,e7,Ur (by omega),aX (by omega)]
       have hrw:=Ak (b.getD i 0) q
       have hrqw:(rl.getD q aI).w=bW (b.getD i 0) q:=by rw[hrq];rfl
       refine tt ⟨ix,tt ⟨⟨om,oK⟩,tt ⟨⟨⟨⟨rfl,rfl,oK⟩,⟨rfl,rfl,rfl,rfl,oK⟩,⟨rfl,rfl,oK⟩,oK⟩,(MX b p2 (⟨tab (bW (b.getD i 0)) k,List.replicate j (2:Int),[],true⟩:Sg) ((rl.getD q aI).w) 0 hb (by omega) (by omega) (by omega) (by simp) (by first | assumption | simp) (by first | assumption | simp))⟩,tt ⟨ix,tt ⟨⟨by omega,by simp only[US];rfl⟩,tt ⟨w6,tt ⟨(q+1,(av (⟨tab (bW (b.getD i 0)) k,List.replicate j (2:Int),[],true⟩:Sg) b 3 p2 ((rl.getD q aI).w)).2,rl.set q { rl.getD q aI with next:=(av (⟨tab (bW (b.getD i 0)) k,List.replicate j (2:Int),[],true⟩:Sg) b 3 p2 (rl.getD q aI).w).1 }),rfl,?_,(?_:qW (b.getD i 0)-(q+1)<qW (b.getD i 0)-q)⟩⟩⟩⟩⟩⟩⟩
       · exact⟨by omega,by rw[hs1k,hp2,hrq];rfl,by rw[hrl];exact bn (by rw[aJ];omega) (by rw[← hrl,hrq,hs1k,hp2];rfl)⟩
       · omega
     · have hqe:q=qW (b.getD i 0):=by omega
       have hps2:mi b i e≤ll b i e∧ll b i e≤mi b i e+100*qW (b.getD i 0):=vG hb (b.getD i 0) e.I.length (mi b i e) (qW (b.getD i 0))
       refine tt ⟨rfl,⟨by omega,by rw[hp2,hqe];rfl⟩,?_⟩
       intro m p3 F'
       obtain⟨hm,hp3⟩:=F'
       have hpb:=Al hb (b.getD i 0) e.I.length (ll b i e) m
       refine tt (cd (fun hc136=>?_) (fun hc136=>?_))
       · refine tt ⟨⟨⟨⟨rfl,rfl,oK⟩,⟨rfl,rfl,rfl,rfl,oK⟩,oK⟩,(Gv b p3 (⟨tab (bW (b.getD i 0)) k,List.replicate j (2:Int),[],true⟩:Sg) hb om (by simp) (by first | assumption | simp) (by first | assumption | simp))⟩,?_⟩
         have ZV:=wQ (s:=(⟨tab (bW (b.getD i 0)) k,List.replicate j (2:Int),[],true⟩:Sg)) hb (i:=p3)
         refine tt ⟨⟨⟨⟨rfl,rfl,oK⟩,⟨rfl,rfl,rfl,rfl,oK⟩,⟨rfl,rfl,oK⟩,oK⟩,(AL b ((a5 (⟨tab (bW (b.getD i 0)) k,List.replicate j (2:Int),[],true⟩:Sg) b p3).2) (⟨tab (bW (b.getD i 0)) k,List.replicate j (2:Int),[],true⟩:Sg) 2 1 hb (by omega) (by omega) (by omega) (by simp) (by first | assumption | simp) (by first | assumption | simp))⟩,tt ⟨ix,tt ⟨⟨⟨rfl,rfl,rfl,rfl,rfl,rfl,rfl,rfl,rfl,rfl,rfl,rfl,rfl,rfl,rfl,rfl,oK⟩,oK⟩,⟨(aZ (by omega) (by rw[hs1k,hp3];rfl)),tt ⟨w6,tt ⟨(m+1,(av (⟨tab (bW (b.getD i 0)) k,List.replicate j (2:Int),[],true⟩:Sg) b 2 ((a5 (⟨tab (bW (b.getD i 0)) k,List.replicate j (2:Int),[],true⟩:Sg) b p3).2) 2).2),rfl,?_,(?_:e.Uj.length-(m+1)<e.Uj.length-m)⟩⟩⟩⟩⟩⟩
         · exact⟨by omega,by rw[hs1k,hp3];rfl⟩
         · omega
       · refine tt ⟨?_,?_,(congrArg _ (?_:rl=(((bH b i nm e).1).Ul))),?_,(congrArg _ (?_:(tab (FP b (b.getD i 0) (i+1) e) j)=(((bH b i nm e).1).I))),(congrArg _ (?_:(tab (H3 b (b.getD i 0) e.I.length (ll b i e) e) m)=(((bH b i nm e).1).Uj))),rfl,?_,oK⟩
         all_goals (first | rfl | (rw[hrl,hqe,bN (by rw[aJ];omega)];rfl) | (rw[show j=e.I.length by omega];rfl) | (rw[show m=e.Uj.length by omega];rfl) | (rw[hp3,show m=e.Uj.length by omega];rfl))
abbrev CE (c:Ci):List D:=[(dL 6 bG ac c.U),(dL 5 ca aK c.J)]
set_option maxRecDepth 100000
abbrev Q5 (sh:Int) (b:List Int):Ct:=⟨20,[(.agg [(dI .u8 sh),(LY b)])],true,(.agg [(dL 6 bG ac ((aF sh b).U)),(dL 5 ca aK ((aF sh b).J))])⟩
abbrev vP (sh:Int) (b:List Int):Lp (Nat×Nat×Int):=P0 [1,2,3,4,5,6,7] 5 (fun (i:Nat) (p0:Nat) (mo:Int)=>⟨[(1,(.ptr 0 0 0 0)),(2,(.ptr 1 0 0 0)),(3,(dL 2 sD dj (aj sh))),(4,(.ptr 2 0 0 0)),(5,(.ptr 3 0 0 0)),(6,(i6 mo)),(7,(i6 (i:Int)))],[(.var 24 [(dI .u8 sh),(LY b)]),(.var 32 [.nils,.nils]),(.var 32 [(.own 4),.nils]),(.var 103 [(LY b),(i6 (p0:Int))]),(.arr 76 6 bG ac (tab (pg b (aj sh)) i))]⟩) (fun (i:Nat) (p0:Nat) (mo:Int)=>i≤(aj sh).length∧p0=gY b (aj sh) i∧mo=sF (aj sh) i) (fun (i:Nat) (p0:Nat) (mo:Int)=>(aj sh).length-i)
abbrev vQ (sh:Int) (b:List Int) (i:Nat) (p0:Nat) (mo:Int):Lp (Nat):=gD [1,2,3,4,5,6,7,9] 17 (fun (j:Nat)=>⟨[(1,(.ptr 0 0 0 0)),(2,(.ptr 1 0 0 0)),(3,(dL 2 sD dj (aj sh))),(4,(.ptr 2 0 0 0)),(5,(.ptr 3 0 0 0)),(6,(i6 (Qp ((aj sh).getD i dj).Uj mo j))),(7,(i6 (i:Int))),(9,(i6 (j:Int)))],[(.var 24 [(dI .u8 sh),(LY b)]),(.var 32 [.nils,.nils]),(.var 32 [(.own 4),.nils]),(.var 103 [(LY b),(i6 (((bH b p0 ([(bs [112]),(bs [113]),(bs [117]),(bs [118])].getD i .empty) ((aj sh).getD i dj)).2:Nat):Int))]),(.arr 76 6 bG ac (tab (pg b (aj sh)) (i+1))),.dead,.dead,.dead,.dead,.dead,.dead,.dead,.dead,.dead,.dead,(.var 105 [(dS (((bH b p0 ([(bs [112]),(bs [113]),(bs [117]),(bs [118])].getD i .empty) ((aj sh).getD i dj)).1).name)),(dS (((bH b p0 ([(bs [112]),(bs [113]),(bs [117]),(bs [118])].getD i .empty) ((aj sh).getD i dj)).1).clock)),(dL 13 bO aI (((bH b p0 ([(bs [112]),(bs [113]),(bs [117]),(bs [118])].getD i .empty) ((aj sh).getD i dj)).1).Ul)),(dL 27 b8 ay (((bH b p0 ([(bs [112]),(bs [113]),(bs [117]),(bs [118])].getD i .empty) ((aj sh).getD i dj)).1).Uk)),(dL 9 dU bC (((bH b p0 ([(bs [112]),(bs [113]),(bs [117]),(bs [118])].getD i .empty) ((aj sh).getD i dj)).1).I)),(dL 16 dQ bt (((bH b p0 ([(bs [112]),(bs [113]),(bs [117]),(bs [118])].getD i .empty) ((aj sh).getD i dj)).1).Uj)),(LY b),(i6 (((bH b p0 ([(bs [112]),(bs [113]),(bs [117]),(bs [118])].getD i .empty) ((aj sh).getD i dj)).2:Nat):Int))]),(.arr 76 6 bG ac [(bH b p0 ([(bs [112]),(bs [113]),(bs [117]),(bs [118])].getD i .empty) ((aj sh).getD i dj)).1])]⟩) (fun (j:Nat)=>j≤((aj sh).getD i dj).Uj.length) (fun (j:Nat)=>((aj sh).getD i dj).Uj.length-j)
abbrev pP (sh:Int) (b:List Int) (i:Nat) (p0:Nat) (mo:Int):Lp (Nat):=gD [1,2,3,4,6,10] 6 (fun (n:Nat)=>⟨[(1,(.ptr 0 0 0 0)),(2,(.ptr 1 0 0 0)),(3,(dL 2 sD dj (aj sh))),(4,(.ptr 2 0 0 0)),(6,(i6 mo)),(10,(i6 (n:Int)))],[(.var 24 [(dI .u8 sh),(LY b)]),(.var 32 [.nils,.nils]),(.var 32 [(.own 4),(.own 5)]),(.var 103 [(LY b),(i6 (p0:Int))]),(.arr 76 6 bG ac (tab (pg b (aj sh)) i)),(.arr 78 5 ca aK (tab (vH sh (aj sh)) n))]⟩) (fun (n:Nat)=>n≤ln sh) (fun (n:Nat)=>ln sh-n)
abbrev mV (sh:Int) (b:List Int) (i:Nat) (p0:Nat) (mo:Int) (n:Nat):Lp (Nat×Int×Int):=P0 [1,2,3,4,6,10,11,12] 8 (fun (k:Nat) (fr:Int) (to:Int)=>⟨[(1,(.ptr 0 0 0 0)),(2,(.ptr 1 0 0 0)),(3,(dL 2 sD dj (aj sh))),(4,(.ptr 2 0 0 0)),(6,(i6 mo)),(10,(i6 (n:Int))),(11,(.ptr 7 0 0 0)),(12,(i6 (k:Int)))],[(.var 24 [(dI .u8 sh),(LY b)]),(.var 32 [.nils,.nils]),(.var 32 [(.own 4),(.own 5)]),(.var 103 [(LY b),(i6 (p0:Int))]),(.arr 76 6 bG ac (tab (pg b (aj sh)) i)),(.arr 78 5 ca aK (tab (vH sh (aj sh)) n)),.dead,(.var 78 [(dS ([(bs [99,48]),(bs [99,49]),(bs [99,50]),(bs [99,51]),(bs [99,52])].getD n .empty)),(i6 2),(i6 0),(i6 fr),(i6 to)])]⟩) (fun (k:Nat) (fr:Int) (to:Int)=>k≤(aj sh).length∧fr=yA (aj sh) n k∧to=yz (aj sh) n k) (fun (k:Nat) (fr:Int) (to:Int)=>(aj sh).length-k)
theorem Gw (sh:Int) (b:List Int) (h0:0≤sh) (h1:sh≤255) (hb:ic b):CC (Q5 sh b):=by
 have Yg:=ob sh
 have hnc:=DN sh
 have hmi:=FR sh
 refine ah.vc (V:=TT 4 (CC (Tm sh)∧TT 11 (GO (vP sh b) (0,0,0) (∀i p0 mo,(vP sh b).inv (i,p0,mo)→TT 4 (CD ((i:Int)<(((aj sh).length:Nat):Int)) (TT 1 (am [[(dS (bs [112]))],[(dS (bs [113]))],[(dS (bs [117]))],[(dS (bs [118]))]] ([(bs [112]),(bs [113]),(bs [117]),(bs [118])].map eo)∧TT 1 (IX (i:Int) ([(bs [112]),(bs [113]),(bs [117]),(bs [118])].length)∧TT 3 (IX (i:Int) ((aj sh).length)∧TT 1 (CC (Tn b p0 ([(bs [112]),(bs [113]),(bs [117]),(bs [118])].getD i .empty) ((aj sh).getD i dj))∧TT 9 (am [[(dS (((bH b p0 ([(bs [112]),(bs [113]),(bs [117]),(bs [118])].getD i .empty) ((aj sh).getD i dj)).1).name)),(dS (((bH b p0 ([(bs [112]),(bs [113]),(bs [117]),(bs [118])].getD i .empty) ((aj sh).getD i dj)).1).clock)),(dL 13 bO aI (((bH b p0 ([(bs [112]),(bs [113]),(bs [117]),(bs [118])].getD i .empty) ((aj sh).getD i dj)).1).Ul)),(dL 27 b8 ay (((bH b p0 ([(bs [112]),(bs [113]),(bs [117]),(bs [118])].getD i .empty) ((aj sh).getD i dj)).1).Uk)),(dL 9 dU bC (((bH b p0 ([(bs [112]),(bs [113]),(bs [117]),(bs [118])].getD i .empty) ((aj sh).getD i dj)).1).I)),(dL 16 dQ bt (((bH b p0 ([(bs [112]),(bs [113]),(bs [117]),(bs [118])].getD i .empty) ((aj sh).getD i dj)).1).Uj))]] ([(bH b p0 ([(bs [112]),(bs [113]),(bs [117]),(bs [118])].getD i .empty) ((aj sh).getD i dj)).1].map bG)∧((tab (pg b (aj sh)) i).length+([(bH b p0 ([(bs [112]),(bs [113]),(bs [117]),(bs [118])].getD i .empty) ((aj sh).getD i dj)).1].map bG).length≤137438953472∧(tab (pg b (aj sh)) i).map bG++[(bH b p0 ([(bs [112]),(bs [113]),(bs [117]),(bs [118])].getD i .empty) ((aj sh).getD i dj)).1].map bG=(tab (pg b (aj sh)) (i+1)).map bG)∧TT 3 (GO (vQ sh b i p0 mo) 0 (∀j,(vQ sh b i p0 mo).inv j→TT 3 (IX (i:Int) ((aj sh).length)∧TT 4 (CD ((j:Int)<(((((aj sh).getD i dj).Uj).length:Nat):Int)) (TT 3 (IX (i:Int) ((aj sh).length)∧TT 3 (IX (j:Int) ((((aj sh).getD i dj).Uj).length)∧TT 4 (W6 ((j+1:Nat):Int)∧TT 1 (AG (vQ sh b i p0 mo) j (j+1)))))) (TT 1 (W6 ((i+1:Nat):Int)∧TT 1 (AG (vP sh b) (i,p0,mo) (i+1,(bH b p0 ([(bs [112]),(bs [113]),(bs [117]),(bs [118])].getD i .empty) ((aj sh).getD i dj)).2,Qp ((aj sh).getD i dj).Uj mo j)))))))))))))) (TT 1 (GO (pP sh b i p0 mo) 0 (∀n,(pP sh b i p0 mo).inv n→TT 3 (CD ((n:Int)≤mo) (am [[(dS (bs [99,48]))],[(dS (bs [99,49]))],[(dS (bs [99,50]))],[(dS (bs [99,51]))],[(dS (bs [99,52]))]] ([(bs [99,48]),(bs [99,49]),(bs [99,50]),(bs [99,51]),(bs [99,52])].map eo)∧TT 1 (IX (n:Int) ([(bs [99,48]),(bs [99,49]),(bs [99,50]),(bs [99,51]),(bs [99,52])].length)∧TT 5 (GO (mV sh b i p0 mo n) (0,(-1),(-1)) (∀k fr to,(mV sh b i p0 mo n).inv (k,fr,to)→TT 4 (CD ((k:Int)<(((aj sh).length:Nat):Int)) (TT 2 (IX (k:Int) ((aj sh).length)∧TT 3 (CC (Pn (((aj sh).getD k dj).I) (n:Int))∧CB (u7 (((aj sh).getD k dj).I) (n:Int)) (TT 5 (IX (k:Int) ((aj sh).length)∧TT 3 (CC (Pn (((aj sh).getD k dj).Uj) (n:Int))∧CB (u7 (((aj sh).getD k dj).Uj) (n:Int)) (TT 4 (W6 ((k+1:Nat):Int)∧TT 1 (AG (mV sh b i p0 mo n) (k,fr,to) (k+1,(k:Int),(k:Int))))) (TT 1 (W6 ((k+1:Nat):Int)∧TT 1 (AG (mV sh b i p0 mo n) (k,fr,to) (k+1,fr,(k:Int)))))))) (TT 2 (IX (k:Int) ((aj sh).length)∧TT 3 (CC (Pn (((aj sh).getD k dj).Uj) (n:Int))∧CB (u7 (((aj sh).getD k dj).Uj) (n:Int)) (TT 4 (W6 ((k+1:Nat):Int)∧TT 1 (AG (mV sh b i p0 mo n) (k,fr,to) (k+1,(k:Int),to)))) (TT 1 (W6 ((k+1:Nat):Int)∧TT 1 (AG (mV sh b i p0 mo n) (k,fr,to) (k+1,fr,to)))))))))) (CS (fr≥0) (TT 3 ((True∧(decide (fr≥0))=true)∧TT 4 (CD (to≥0) (TT 2 (((6:Int)≠0∧(IntKind.wrap .u8 (Int.tdiv sh 6))=(sh / 6))∧TT 1 ((True∧IntKind.u8.wrap (n:Int)=(n:Int))∧(True∧(IntKind.wrap .u8 ((sh / 6)+(n:Int)))=(sh / 6+(n:Int)))∧W6 (sh / 6+(n:Int))∧QM (sh / 6+(n:Int)) 3∧W6 (1+((sh / 6+(n:Int))%3))∧TT 5 (am [[(dS ([(bs [99,48]),(bs [99,49]),(bs [99,50]),(bs [99,51]),(bs [99,52])].getD n .empty)),(i6 2),(i6 (1+((sh / 6+(n:Int))%3))),(i6 fr),(i6 to)]] ([(⟨([(bs [99,48]),(bs [99,49]),(bs [99,50]),(bs [99,51]),(bs [99,52])].getD n .empty),2,1+((sh / 6+(n:Int))%3),fr,to⟩:Ch)].map ca)∧((tab (vH sh (aj sh)) n).length+([(⟨([(bs [99,48]),(bs [99,49]),(bs [99,50]),(bs [99,51]),(bs [99,52])].getD n .empty),2,1+((sh / 6+(n:Int))%3),fr,to⟩:Ch)].map ca).length≤137438953472∧(tab (vH sh (aj sh)) n).map ca++[(⟨([(bs [99,48]),(bs [99,49]),(bs [99,50]),(bs [99,51]),(bs [99,52])].getD n .empty),2,1+((sh / 6+(n:Int))%3),fr,to⟩:Ch)].map ca=(tab (vH sh (aj sh)) (n+1)).map ca)∧TT 3 (W6 ((n+1:Nat):Int)∧TT 1 (AG (pP sh b i p0 mo) n (n+1))))))) (TT 3 (am [[(dS ([(bs [99,48]),(bs [99,49]),(bs [99,50]),(bs [99,51]),(bs [99,52])].getD n .empty)),(i6 2),(i6 0),(i6 fr),(i6 to)]] ([(⟨([(bs [99,48]),(bs [99,49]),(bs [99,50]),(bs [99,51]),(bs [99,52])].getD n .empty),2,0,fr,to⟩:Ch)].map ca)∧((tab (vH sh (aj sh)) n).length+([(⟨([(bs [99,48]),(bs [99,49]),(bs [99,50]),(bs [99,51]),(bs [99,52])].getD n .empty),2,0,fr,to⟩:Ch)].map ca).length≤137438953472∧(tab (vH sh (aj sh)) n).map ca++[(⟨([(bs [99,48]),(bs [99,49]),(bs [99,50]),(bs [99,51]),(bs [99,52])].getD n .empty),2,0,fr,to⟩:Ch)].map ca=(tab (vH sh (aj sh)) (n+1)).map ca)∧TT 3 (W6 ((n+1:Nat):Int)∧TT 1 (AG (pP sh b i p0 mo) n (n+1)))))))) (TT 3 ((True∧(decide (fr≥0))=false)∧TT 7 (am [[(dS ([(bs [99,48]),(bs [99,49]),(bs [99,50]),(bs [99,51]),(bs [99,52])].getD n .empty)),(i6 2),(i6 0),(i6 fr),(i6 to)]] ([(⟨([(bs [99,48]),(bs [99,49]),(bs [99,50]),(bs [99,51]),(bs [99,52])].getD n .empty),2,0,fr,to⟩:Ch)].map ca)∧((tab (vH sh (aj sh)) n).length+([(⟨([(bs [99,48]),(bs [99,49]),(bs [99,50]),(bs [99,51]),(bs [99,52])].getD n .empty),2,0,fr,to⟩:Ch)].map ca).length≤137438953472∧(tab (vH sh (aj sh)) n).map ca++[(⟨([(bs [99,48]),(bs [99,49]),(bs [99,50]),(bs [99,51]),(bs [99,52])].getD n .empty),2,0,fr,to⟩:Ch)].map ca=(tab (vH sh (aj sh)) (n+1)).map ca)∧TT 3 (W6 ((n+1:Nat):Int)∧TT 1 (AG (pP sh b i p0 mo) n (n+1)))))))))))) (TT 3 ((tab (pg b (aj sh)) i).map bG=((aF sh b).U).map bG∧(tab (vH sh (aj sh)) n).map ca=((aF sh b).J).map ca∧True))))))))))) (.w 1 [(2,(Tm sh).O)]<|.g 5 2 0 76 6 bG ac<|.l (vP sh b) (0,0,0) (fun ⟨i,p0,mo⟩=>.b 23 (.w 8 [(1,.box 9 1 eo .empty [(bs [112]),(bs [113]),(bs [117]),(bs [118])]),(9,(Tn b p0 ([(bs [112]),(bs [113]),(bs [117]),(bs [118])].getD i .empty) ((aj sh).getD i dj)).O)]<|.w 10 [(4,.box 76 6 bG ac [(bH b p0 ([(bs [112]),(bs [113]),(bs [117]),(bs [118])].getD i .empty) ((aj sh).getD i dj)).1]),(5,.box 76 6 bG ac (tab (pg b (aj sh)) (i+1)))]<|.l (vQ sh b i p0 mo) 0 (fun j=>.b 52 (.w 13 [(1,.val (i6 ((j+1:Nat):Int)))]<|.e) (.w 7 [(1,.val (i6 ((i+1:Nat):Int)))]<|.e))) (.g 15 2 1 78 5 ca aK<|.l (pP sh b i p0 mo) 0 (fun n=>.b 67 (.w 18 [(0,.frz 9 1 eo .empty [(bs [99,48]),(bs [99,49]),(bs [99,50]),(bs [99,51]),(bs [99,52])])]<|.l (mV sh b i p0 mo n) (0,(-1),(-1)) (fun ⟨k,fr,to⟩=>.b 78 (.w 22 [(6,(Pn (((aj sh).getD k dj).I) (n:Int)).O)]<|.b 87 (.w 24 [(6,(Pn (((aj sh).getD k dj).Uj) (n:Int)).O)]<|.b 96 (.w 21 [(1,.val (i6 ((k+1:Nat):Int)))]<|.e) (.w 21 [(1,.val (i6 ((k+1:Nat):Int)))]<|.e)) (.w 24 [(6,(Pn (((aj sh).getD k dj).Uj) (n:Int)).O)]<|.b 96 (.w 21 [(1,.val (i6 ((k+1:Nat):Int)))]<|.e) (.w 21 [(1,.val (i6 ((k+1:Nat):Int)))]<|.e))) (.s 26 (fr≥0) (.w 26 [(3,.val (dB true))]<|.b 106 (.w 27 [(2,.val (dI .u8 (sh / 6))),(4,.val (dI .u8 (n:Int))),(5,.val (dI .u8 (sh / 6+(n:Int)))),(6,.val (i6 (sh / 6+(n:Int)))),(7,.val (i6 ((sh / 6+(n:Int))%3))),(8,.val (i6 (1+((sh / 6+(n:Int))%3))))]<|.w 28 [(3,.box 78 5 ca aK [(⟨([(bs [99,48]),(bs [99,49]),(bs [99,50]),(bs [99,51]),(bs [99,52])].getD n .empty),2,1+((sh / 6+(n:Int))%3),fr,to⟩:Ch)]),(4,.box 78 5 ca aK (tab (vH sh (aj sh)) (n+1)))]<|.w 17 [(1,.val (i6 ((n+1:Nat):Int)))]<|.e) (.w 28 [(3,.box 78 5 ca aK [(⟨([(bs [99,48]),(bs [99,49]),(bs [99,50]),(bs [99,51]),(bs [99,52])].getD n .empty),2,0,fr,to⟩:Ch)]),(4,.box 78 5 ca aK (tab (vH sh (aj sh)) (n+1)))]<|.w 17 [(1,.val (i6 ((n+1:Nat):Int)))]<|.e)) (.w 26 [(3,.val (dB false))]<|.w 28 [(3,.box 78 5 ca aK [(⟨([(bs [99,48]),(bs [99,49]),(bs [99,50]),(bs [99,51]),(bs [99,52])].getD n .empty),2,0,fr,to⟩:Ch)]),(4,.box 78 5 ca aK (tab (vH sh (aj sh)) (n+1)))]<|.w 17 [(1,.val (i6 ((n+1:Nat):Int)))]<|.e)))) (.e))))) Tryz.func20 rfl rfl rfl (by kernel_rfl) ?_
 refine tt ⟨(MY sh om om),tt ⟨rfl,⟨by omega,rfl,rfl⟩,?_⟩⟩
 intro i p0 mo F'
 obtain⟨hi,hp0,hmo⟩:=F'
 have hpi:=FS hb sh i
 have hen:=ph sh i
 refine tt (cd (fun ZU=>?_) (fun ZU=>?_))
 · refine tt ⟨⟨⟨rfl,oK⟩,⟨rfl,oK⟩,⟨rfl,oK⟩,⟨rfl,oK⟩,oK⟩,tt ⟨ix,tt ⟨ix,tt ⟨(Em b p0 ([(bs [112]),(bs [113]),(bs [117]),(bs [118])].getD i .empty) ((aj sh).getD i dj) hb om om om),tt ⟨⟨⟨rfl,rfl,rfl,rfl,rfl,rfl,oK⟩,oK⟩,⟨(aZ (by omega) (by rw[hp0];rfl)),tt ⟨rfl,(by omega),?_⟩⟩⟩⟩⟩⟩⟩
   intro j F'
   have hj:=F'
   refine tt ⟨ix,tt (cd (fun hc52=>?_) (fun hc52=>?_))⟩
   · refine tt ⟨ix,tt ⟨ix,tt ⟨w6,tt ⟨(j+1),rfl,(?_:(j+1)≤((aj sh).getD i dj).Uj.length),(?_:((aj sh).getD i dj).Uj.length-(j+1)<((aj sh).getD i dj).Uj.length-j)⟩⟩⟩⟩
     · omega
     · omega
   · refine tt ⟨w6,tt ⟨(i+1,(bH b p0 ([(bs [112]),(bs [113]),(bs [117]),(bs [118])].getD i .empty) ((aj sh).getD i dj)).2,Qp ((aj sh).getD i dj).Uj mo j),rfl,?_,(?_:(aj sh).length-(i+1)<(aj sh).length-i)⟩⟩
     · exact⟨by omega,by rw[hp0];rfl,by rw[hmo,show j=((aj sh).getD i dj).Uj.length by omega];rfl⟩
     · omega
 · have W8:i=(aj sh).length:=by omega
   have hmn:mo=sF (aj sh) (aj sh).length:=by rw[hmo,W8]
   refine tt ⟨rfl,(by omega),?_⟩
   intro n F'
   have hn:=F'
   refine tt (cd (fun hc67=>?_) (fun hc67=>?_))
   · refine⟨⟨⟨rfl,oK⟩,⟨rfl,oK⟩,⟨rfl,oK⟩,⟨rfl,oK⟩,⟨rfl,oK⟩,oK⟩,tt ⟨ix,tt ⟨rfl,⟨by omega,rfl,rfl⟩,?_⟩⟩⟩
     intro k fr to F'
     obtain⟨hk,YQ,hto⟩:=F'
     have hen:=ph sh k
     refine tt (cd (fun hc78=>?_) (fun hc78=>?_))
     · refine tt ⟨ix,tt ⟨(El (((aj sh).getD k dj).I) (n:Int) om),⟨fun X6=>?_,fun X6=>?_⟩⟩⟩
       · refine tt ⟨ix,tt ⟨(El (((aj sh).getD k dj).Uj) (n:Int) om),⟨fun ZW=>?_,fun ZW=>?_⟩⟩⟩
         · refine tt ⟨w6,tt ⟨(k+1,(k:Int),(k:Int)),rfl,?_,(?_:(aj sh).length-(k+1)<(aj sh).length-k)⟩⟩
           · exact⟨by omega,by rw[yA];rw[Uw ZW],by rw[yz];rw[Uw X6]⟩
           · omega
         · refine tt ⟨w6,tt ⟨(k+1,fr,(k:Int)),rfl,?_,(?_:(aj sh).length-(k+1)<(aj sh).length-k)⟩⟩
           · exact⟨by omega,by rw[yA];rw[Ur (by rw[ZW];simp)];exact YQ,by rw[yz];rw[Uw X6]⟩
           · omega
       · refine tt ⟨ix,tt ⟨(El (((aj sh).getD k dj).Uj) (n:Int) om),⟨fun ZW=>?_,fun ZW=>?_⟩⟩⟩
         · refine tt ⟨w6,tt ⟨(k+1,(k:Int),to),rfl,?_,(?_:(aj sh).length-(k+1)<(aj sh).length-k)⟩⟩
           · exact⟨by omega,by rw[yA];rw[Uw ZW],by rw[yz];rw[Ur (by rw[X6];simp)];exact hto⟩
           · omega
         · refine tt ⟨w6,tt ⟨(k+1,fr,to),rfl,?_,(?_:(aj sh).length-(k+1)<(aj sh).length-k)⟩⟩
           · exact⟨by omega,by rw[yA];rw[Ur (by rw[ZW];simp)];exact YQ,by rw[yz];rw[Ur (by rw[X6];simp)];exact hto⟩
           · omega
     · have X5:k=(aj sh).length:=by omega
       have hfi:=J0 (aj sh) n k
       have hti:=JZ (aj sh) n k
       refine⟨fun N'=>?_,fun N'=>?_⟩
       · refine tt ⟨(vT N'),tt (cd (fun hc106=>?_) (fun hc106=>?_))⟩
         · refine tt ⟨⟨om,(RC h0 h1)⟩,tt ⟨⟨oK,Ru rfl om om⟩,⟨⟨oK,(Np (by omega) (by omega))⟩,⟨w6,⟨qm,⟨w6,tt ⟨⟨⟨rfl,rfl,rfl,rfl,rfl,oK⟩,oK⟩,⟨(aZ (by omega) (by first | exact J3 (by rw[← X5,← YQ];omega) (by rw[← X5,← hto];omega) (by rw[← X5];exact YQ) (by rw[← X5];exact hto) | exact J4 (by rw[← X5,← YQ,← hto];omega) (by rw[← X5];exact YQ) (by rw[← X5];exact hto))),tt ⟨w6,tt ⟨(n+1),rfl,(?_:(n+1)≤ln sh),(?_:ln sh-(n+1)<ln sh-n)⟩⟩⟩⟩⟩⟩⟩⟩⟩⟩
           · omega
           · omega
         · refine tt ⟨⟨⟨rfl,rfl,rfl,rfl,rfl,oK⟩,oK⟩,⟨(aZ (by omega) (by first | exact J3 (by rw[← X5,← YQ];omega) (by rw[← X5,← hto];omega) (by rw[← X5];exact YQ) (by rw[← X5];exact hto) | exact J4 (by rw[← X5,← YQ,← hto];omega) (by rw[← X5];exact YQ) (by rw[← X5];exact hto))),tt ⟨w6,tt ⟨(n+1),rfl,(?_:(n+1)≤ln sh),(?_:ln sh-(n+1)<ln sh-n)⟩⟩⟩⟩
           · omega
           · omega
       · refine tt ⟨(vF N'),tt ⟨⟨⟨rfl,rfl,rfl,rfl,rfl,oK⟩,oK⟩,⟨(aZ (by omega) (by first | exact J3 (by rw[← X5,← YQ];omega) (by rw[← X5,← hto];omega) (by rw[← X5];exact YQ) (by rw[← X5];exact hto) | exact J4 (by rw[← X5,← YQ,← hto];omega) (by rw[← X5];exact YQ) (by rw[← X5];exact hto))),tt ⟨w6,tt ⟨(n+1),rfl,(?_:(n+1)≤ln sh),(?_:ln sh-(n+1)<ln sh-n)⟩⟩⟩⟩⟩
         · omega
         · omega
   · refine tt ⟨(congrArg _ (?_:(tab (pg b (aj sh)) i)=((aF sh b).U))),(congrArg _ (?_:(tab (vH sh (aj sh)) n)=((aF sh b).J))),oK⟩
     · rw[W8];rfl
     · rw[show n=ln sh by omega];rfl
abbrev Q6 (c:Ci) (b:List Int):Ct:=⟨22,[(.agg (CE c)),(LY b)],true,(.agg [(dL 2 bi a7 ((cu c b).U)),(dL 1 aa [] ((cu c b).J))])⟩
abbrev oI (c:Ci) (b:List Int):Lp (Nat×Ns×Nat):=P0 [2,4,5,6,7] 4 (fun (i:Nat) (u:Ns) (p0:Nat)=>⟨[(2,(.ptr 0 0 0 0)),(4,(.ptr 1 0 0 0)),(5,(.ptr 2 0 0 0)),(6,(.ptr 3 0 0 0)),(7,(i6 (i:Int)))],[(.var 32 (CE c)),(.var 36 [.nils,.nils]),(.var 36 [(dL 2 bi a7 u.U),(dL 1 aa [] u.J)]),(.var 103 [(LY b),(i6 (p0:Int))])]⟩) (fun (i:Nat) (u:Ns) (p0:Nat)=>i≤c.J.length∧u=(xj c b i).1∧p0=(xj c b i).2∧p0≤10*i∧(u).J.length=c.J.length) (fun (i:Nat) (u:Ns) (p0:Nat)=>c.J.length-i)
abbrev s6 (c:Ci) (b:List Int) (i:Nat) (u:Ns) (p0:Nat):Lp (Nat):=gD [2,4,5,6,7,8,9,10] 5 (fun (k:Nat)=>⟨[(2,(.ptr 0 0 0 0)),(4,(.ptr 1 0 0 0)),(5,(.ptr 2 0 0 0)),(6,(.ptr 3 0 0 0)),(7,(i6 (i:Int))),(8,(i6 ((vI b p0:Nat):Int))),(9,(.own 4)),(10,(i6 (k:Int)))],[(.var 32 (CE c)),(.var 36 [.nils,.nils]),(.var 36 [(dL 2 bi a7 u.U),(dL 1 aa [] u.J)]),(.var 103 [(LY b),(i6 (p0:Int))]),(.arr 3 1 (ab .i64) 0 (tab (xw b p0 (c.J.getD i aK).w) k))]⟩) (fun (k:Nat)=>k≤vI b p0) (fun (k:Nat)=>vI b p0-k)
theorem CF (c:Ci) (b:List Int) (hc:cr c) (hb:ic b):CC (Q6 c b):=by
 have Xo:=hc.nl
 have hcl:=hc.cl
 refine ah.vc (V:=TT 3 (CC (Tc c)∧TT 7 (GO (oI c b) (0,(fb c),0) (∀i u p0,(oI c b).inv (i,u,p0)→TT 5 (CD ((i:Int)<(c.J.length:Int)) (TT 3 (IX (i:Int) c.J.length∧TT 3 (CD (((c.J.getD i aK).frm)≥0) (TT 1 (W6 ((i+1:Nat):Int)∧TT 1 (AG (oI c b) (i,u,p0) (i+1,u,p0)))) (TT 1 (CC (HO b p0)∧((7:Int)≠0∧(Int.tmod (b.getD p0 0) 7)=((vI b p0:Nat):Int))∧TT 1 (am [] (([]:List Int).map (ab .i64))∧TT 2 (GO (s6 c b i u p0) 0 (∀k,(s6 c b i u p0).inv k→TT 3 (CD ((k:Int)<((vI b p0:Nat):Int)) (TT 3 (W6 ((1+k:Nat):Int)∧CC (Ek b p0 (1+k))∧CC (HO b (p0+(1+k)))∧TT 3 (IX (i:Int) c.J.length∧TT 2 (CC (Eg ((c.J.getD i aK).w))∧(True∧(IntKind.wrap .i64 (BitVec.ofInt (IntKind.i64).bits (b.getD (p0+(1+k)) 0) &&& BitVec.ofInt (IntKind.i64).bits (ai ((c.J.getD i aK).w))).toNat)=(xw b p0 (c.J.getD i aK).w k))∧am [[(i6 (xw b p0 (c.J.getD i aK).w k))]] ([xw b p0 (c.J.getD i aK).w k].map (ab .i64))∧((tab (xw b p0 (c.J.getD i aK).w) k).length+([xw b p0 (c.J.getD i aK).w k].map (ab .i64)).length≤137438953472∧(tab (xw b p0 (c.J.getD i aK).w) k).map (ab .i64)++[xw b p0 (c.J.getD i aK).w k].map (ab .i64)=(tab (xw b p0 (c.J.getD i aK).w) (k+1)).map (ab .i64))∧TT 2 (W6 ((k+1:Nat):Int)∧TT 1 (AG (s6 c b i u p0) k (k+1))))))) (TT 2 (W6 ((1+(vI b p0):Nat):Int)∧CC (Ek b p0 (1+(vI b p0)))∧TT 4 (CC (Td u (i:Int) (tab (xw b p0 (c.J.getD i aK).w) k))∧TT 2 (W6 ((i+1:Nat):Int)∧TT 1 (AG (oI c b) (i,u,p0) (i+1,(iX u ((i:Nat):Int).toNat (tab (xw b p0 (c.J.getD i aK).w) k)),p0+(1+(vI b p0))))))))))))))))) (TT 3 (u.U.map bi=((cu c b).U).map bi∧u.J.map aa=((cu c b).J).map aa∧True))))))) (.w 1 [(1,(Tc c).O)]<|.l (oI c b) (0,(fb c),0) (fun ⟨i,u,p0⟩=>.b 19 (.b 28 (.w 5 [(1,.val (i6 ((i+1:Nat):Int)))]<|.e) (.w 7 [(1,(HO b p0).O),(2,.val (i6 ((vI b p0:Nat):Int)))]<|.w 8 [(0,.box 3 1 (ab .i64) 0 ([]:List Int))]<|.l (s6 c b i u p0) 0 (fun k=>.b 35 (.w 12 [(3,.val (i6 ((1+k:Nat):Int))),(4,(Ek b p0 (1+k)).O),(5,(HO b (p0+(1+k))).O),(12,(Eg ((c.J.getD i aK).w)).O),(13,.val (i6 (xw b p0 (c.J.getD i aK).w k))),(14,.box 3 1 (ab .i64) 0 [xw b p0 (c.J.getD i aK).w k]),(15,.box 3 1 (ab .i64) 0 (tab (xw b p0 (c.J.getD i aK).w) (k+1)))]<|.w 11 [(1,.val (i6 ((k+1:Nat):Int)))]<|.e) (.w 13 [(2,.val (i6 ((1+(vI b p0):Nat):Int))),(3,(Ek b p0 (1+(vI b p0))).O)]<|.f 14 4<|.w 14 [(3,(Td u (i:Int) (tab (xw b p0 (c.J.getD i aK).w) k)).O)]<|.w 5 [(1,.val (i6 ((i+1:Nat):Int)))]<|.e)))) (.e))) Tryz.func22 rfl rfl rfl (by kernel_rfl) ?_
 refine tt ⟨(HN c hc),tt ⟨rfl,⟨by omega,rfl,rfl,by omega,by simp[fb]⟩,?_⟩⟩
 intro i u p0 F'
 obtain⟨hi,hu,hp0,hpb,hcl2⟩:=F'
 have hy:=cO hb p0
 have hnw:=J1 hb p0
 refine tt (cd (fun YX=>?_) (fun YX=>?_))
 · refine tt ⟨ix,tt (cd (fun XI=>?_) (fun XI=>?_))⟩
   · refine tt ⟨w6,tt ⟨(i+1,u,p0),rfl,?_,(?_:c.J.length-(i+1)<c.J.length-i)⟩⟩
     · exact⟨by omega,by rw[J2 XI];exact hu,by rw[J2 XI];exact hp0,by omega,hcl2⟩
     · omega
   · refine tt ⟨(pO b p0 hb),⟨⟨om,(by rw[hnw.2];exact Vo hy.1)⟩,tt ⟨oK,tt ⟨rfl,(by omega),?_⟩⟩⟩⟩
     intro k F'
     have hk:=F'
     refine tt (cd (fun WZ=>?_) (fun WZ=>?_))
     · have hw:1≤(c.J.getD i aK).w∧(c.J.getD i aK).w≤8:=aQ.1 (hc.cw i (by omega))
       have hyk:=cO hb (p0+(1+k))
       refine tt ⟨w6,⟨(w9 b p0 (1+k) om),⟨(pO b (p0+(1+k)) hb),tt ⟨ix,tt ⟨(jT ((c.J.getD i aK).w)),⟨⟨oK,(yy (by omega) (by omega))⟩,⟨⟨⟨rfl,oK⟩,oK⟩,⟨(aZ (by omega) rfl),tt ⟨w6,tt ⟨(k+1),rfl,(?_:(k+1)≤vI b p0),(?_:vI b p0-(k+1)<vI b p0-k)⟩⟩⟩⟩⟩⟩⟩⟩⟩⟩
       · omega
       · omega
     · refine tt ⟨w6,⟨(w9 b p0 (1+(vI b p0)) om),tt ⟨(MT u (i:Int) (tab (xw b p0 (c.J.getD i aK).w) k) (by omega) (by omega) (by omega)),tt ⟨w6,tt ⟨(i+1,(iX u ((i:Nat):Int).toNat (tab (xw b p0 (c.J.getD i aK).w) k)),p0+(1+(vI b p0))),rfl,?_,(?_:c.J.length-(i+1)<c.J.length-i)⟩⟩⟩⟩⟩
       · exact⟨by omega,by rw[DP XI,hu,show k=vI b p0 by omega,hp0,Vd],by rw[DP XI,hp0],by omega,by show(u.J.set _ _).length=_;rw[UQ];exact hcl2⟩
       · omega
 · refine tt ⟨(congrArg _ (?_:u.U=((cu c b).U))),(congrArg _ (?_:u.J=((cu c b).J))),oK⟩
   all_goals (all_goals (rw[hu,show i=c.J.length by omega];rfl))
abbrev Q7 (c:Ci) (s:Ns) (l:List Int):Ct:=⟨21,[(.agg (CE c)),(.agg [(dL 2 bi a7 s.U),(dL 1 aa [] s.J)]),(LY l)],true,(.agg [(dL 2 bi a7 ((dk c s l).U)),(dL 1 aa [] ((dk c s l).J))])⟩
abbrev pQ (c:Ci) (s:Ns) (l:List Int):Lp (Nat×Ns):=nN [2,3,4,6,7] 3 (fun (i:Nat) (u:Ns)=>⟨[(2,(LY l)),(3,(.ptr 0 0 0 0)),(4,(.ptr 1 0 0 0)),(6,(.ptr 2 0 0 0)),(7,(i6 (i:Int)))],[(.var 32 (CE c)),(.var 36 [(dL 2 bi a7 u.U),(dL 1 aa [] u.J)]),(.var 36 [.nils,.nils])]⟩) (fun (i:Nat) (u:Ns)=>i≤l.length∧u=dk c s (l.take i)∧eG c u∧sA u (1000000000+i)) (fun (i:Nat) (u:Ns)=>l.length-i)
theorem yT (c:Ci) (s:Ns) (l:List Int) (hc:cr c) (hs:eG c s) (ZD:sA s 1000000000) (hl:l.length≤1000000) (hl8:ic l):CC (Q7 c s l):=by
 have Xo:=hc.nl
 have hcl:=hc.cl
 refine ah.vc (V:=TT 4 (GO (pQ c s l) (0,s) (∀i u,(pQ c s l).inv (i,u)→CS ((i:Int)<(l.length:Int)) (TT 4 ((True∧(decide ((i:Int)<(l.length:Int)))=true)∧TT 5 (CD ((c.U.length:Int)>0) (TT 4 (IX (i:Int) l.length∧TT 1 (W6 (l.getD i 0)∧TT 3 (((c.U.length:Int)≠0∧(Int.tmod (l.getD i 0) (c.U.length:Int))=(l.getD i 0%(c.U.length:Int)))∧CC (Ti c u (l.getD i 0%(c.U.length:Int)))∧TT 3 (W6 ((i+1:Nat):Int)∧TT 1 (AG (pQ c s l) (i,u) (i+1,bx c u (xu (l.getD i 0%(c.U.length:Int)))))))))) (TT 3 (u.U.map bi=((dk c s l).U).map bi∧u.J.map aa=((dk c s l).J).map aa∧True))))) (TT 4 ((True∧(decide ((i:Int)<(l.length:Int)))=false)∧TT 8 (u.U.map bi=((dk c s l).U).map bi∧u.J.map aa=((dk c s l).J).map aa∧True)))))) (.l (pQ c s l) (0,s) (fun ⟨i,u⟩=>.s 2 ((i:Int)<(l.length:Int)) (.w 2 [(4,.val (dB true))]<|.b 17 (.w 4 [(6,.val (i6 (l.getD i 0))),(10,.val (i6 (l.getD i 0%(c.U.length:Int)))),(11,(Ti c u (l.getD i 0%(c.U.length:Int))).O)]<|.w 3 [(1,.val (i6 ((i+1:Nat):Int)))]<|.e) (.e)) (.w 2 [(4,.val (dB false))]<|.e))) Tryz.func21 rfl rfl rfl (by kernel_rfl) ?_
 refine tt ⟨rfl,⟨by omega,rfl,hs,ZD⟩,?_⟩
 intro i u F'
 obtain⟨hi,hu,WX,hum⟩:=F'
 have hyi:=cO hl8 i
 have hn1:=hc.n1
 refine⟨fun N'=>?_,fun N'=>?_⟩
 · refine tt ⟨(vT N'),tt (cd (fun XT=>?_) (fun XT=>?_))⟩
   · refine tt ⟨ix,tt ⟨w6,tt ⟨⟨om,(Vo (by omega))⟩,⟨(KL c u (l.getD i 0%(c.U.length:Int)) hc WX (fun n=>by have:=hum n;omega)),tt ⟨w6,tt ⟨(i+1,bx c u (xu (l.getD i 0%(c.U.length:Int)))),rfl,?_,(?_:l.length-(i+1)<l.length-i)⟩⟩⟩⟩⟩⟩
     · exact⟨by omega,by rw[hu];exact(Hl (by omega)).symm,tP hc WX _,t1 hc hum⟩
     · omega
   · refine tt ⟨(congrArg _ (?_:u.U=((dk c s l).U))),(congrArg _ (?_:u.J=((dk c s l).J))),oK⟩
     all_goals (all_goals (rw[hu,VV (by omega)]))
 · refine tt ⟨(vF N'),tt ⟨(congrArg _ (?_:u.U=((dk c s l).U))),(congrArg _ (?_:u.J=((dk c s l).J))),oK⟩⟩
   all_goals (all_goals (rw[hu,VV (by omega)]))
abbrev To (a b:List ByteArray):Ct:=⟨17,[(dL 1 eo .empty a),(dL 1 eo .empty b)],false,(dB (decide (a=b)))⟩
abbrev pR (a:List ByteArray) (b:List ByteArray):Lp (Nat):=gD [0,1,5] 0 (fun (i:Nat)=>⟨[(0,(dL 1 eo .empty a)),(1,(dL 1 eo .empty b)),(5,(i6 (i:Int)))],[]⟩) (fun (i:Nat)=>i≤a.length∧∀z,z<i→a.getD z .empty=b.getD z .empty) (fun (i:Nat)=>a.length-i)
theorem Po (a b:List ByteArray) (ha:a.length≤9223372036854775807):CC (To a b):=by
 refine ah.vc (V:=TT 6 (CN ((a.length:Int)=(b.length:Int)) (TT 2 (false=(decide (a=b))∧True)) (TT 1 (GO (pR a b) 0 (∀i,(pR a b).inv i→TT 4 (CD ((i:Int)<(a.length:Int)) (TT 2 (IX (i:Int) a.length∧TT 3 (IX (i:Int) b.length∧TT 2 (CB (!((a.getD i .empty).toList==(b.getD i .empty).toList)) (TT 2 (false=(decide (a=b))∧True)) (TT 1 (W6 ((i+1:Nat):Int)∧TT 1 (AG (pR a b) i (i+1)))))))) (TT 2 (true=(decide (a=b))∧True)))))))) (.b 10 (.e) (.l (pR a b) 0 (fun i=>.b 14 (.b 25 (.e) (.w 5 [(1,.val (i6 ((i+1:Nat):Int)))]<|.e)) (.e)))) Tryz.func17 rfl rfl rfl (by kernel_rfl) ?_
 refine tt (cn (fun hc10=>?_) (fun hc10=>?_))
 · refine tt ⟨?_,oK⟩
   first | exact(Uy (fun e=>by subst e;omega)).symm | exact(Uy (fun e=>by subst e;exact DV WD)).symm | exact(Uz (dp (by omega) (by omega) hall)).symm
 · refine tt ⟨rfl,⟨by omega,fun z hz=>by omega⟩,?_⟩
   intro i F'
   obtain⟨hi,hall⟩:=F'
   refine tt (cd (fun Y6=>?_) (fun Y6=>?_))
   · refine tt ⟨ix,tt ⟨ix,tt ⟨fun WD=>?_,fun WD=>?_⟩⟩⟩
     · refine tt ⟨?_,oK⟩
       first | exact(Uy (fun e=>by subst e;omega)).symm | exact(Uy (fun e=>by subst e;exact DV WD)).symm | exact(Uz (dp (by omega) (by omega) hall)).symm
     · refine tt ⟨w6,tt ⟨(i+1),rfl,?_,(?_:a.length-(i+1)<a.length-i)⟩⟩
       · exact⟨by omega,bD hall (OO WD)⟩
       · omega
   · refine tt ⟨?_,oK⟩
     first | exact(Uy (fun e=>by subst e;omega)).symm | exact(Uy (fun e=>by subst e;exact DV WD)).symm | exact(Uz (dp (by omega) (by omega) hall)).symm
abbrev c7 (o n:Ci) (s:Ns):Ct:=⟨7,[(.agg [(dL 6 bG ac o.U),(dL 5 ca aK o.J)]),(.agg [(dL 6 bG ac n.U),(dL 5 ca aK n.J)]),(.agg [(dL 2 bi a7 s.U),(dL 1 aa [] s.J)])],true,(.agg [(dL 2 bi a7 (((au o n s).1).U)),(dL 1 aa [] (((au o n s).1).J)),(i6 ((au o n s).2))])⟩
theorem lG (o n:Ci) (s:Ns) (h:qp o n s):CC (c7 o n s):=by
 refine ah.vc (V:=TT 7 (CC (SN o n s)∧TT 11 ((((au o n s).1).U).map bi=(((au o n s).1).U).map bi∧(((au o n s).1).J).map aa=(((au o n s).1).J).map aa∧((au o n s).2)=((au o n s).2)∧True))) (.w 1 [(3,(SN o n s).O)]<|.e) Tryz.func7 rfl rfl rfl (by kernel_rfl) ?_
 exact tt ⟨(MH o n s h),tt ⟨rfl,rfl,rfl,oK⟩⟩
abbrev Lb (a b:Ns) (ea eb:Int):Ct:=⟨15,[(.agg [(dL 2 bi a7 a.U),(dL 1 aa [] a.J),(i6 ea)]),(.agg [(dL 2 bi a7 b.U),(dL 1 aa [] b.J),(i6 eb)])],false,(dB (gx a b ea eb))⟩
theorem AN (a b:Ns) (ea eb:Int) (hz:Oq a):CC (Lb a b ea eb):=by
 refine ah.vc (V:=TT 3 (CS (ea=eb) (TT 5 ((True∧(decide (ea=eb))=true)∧TT 4 (CC (MV a b)∧TT 3 ((cZ a b)=(gx a b ea eb)∧True)))) (TT 5 ((True∧(decide (ea=eb))=false)∧TT 8 (false=(gx a b ea eb)∧True))))) (.s 1 (ea=eb) (.w 1 [(5,.val (dB true)),(10,(MV a b).O)]<|.e) (.w 1 [(5,.val (dB false))]<|.e)) Tryz.func15 rfl rfl rfl (by kernel_rfl) ?_
 refine tt ⟨fun N'=>?_,fun N'=>?_⟩
 · refine tt ⟨(vT N'),tt ⟨(pN a b (by assumption)),tt ⟨?_,oK⟩⟩⟩
   first | (rw[Mz N']) | (rw[Ki N']) | (rw[Mz (by omega)]) | (rw[Ki (by omega)])
 · refine tt ⟨(vF N'),tt ⟨?_,oK⟩⟩
   first | (rw[Mz N']) | (rw[Ki N']) | (rw[Mz (by omega)]) | (rw[Ki (by omega)])
abbrev HQ (r:List Rg) (m:List Mm):Ct:=⟨12,[(dL 13 bO aI r),(dL 27 b8 ay m)],true,(.agg [(dL 6 bG ac ((ap r m).U)),(dL 5 ca aK ((ap r m).J))])⟩
theorem oJ (r:List Rg) (m:List Mm):CC (HQ r m):=by
 refine ah.vc (V:=TT 4 (am [[(dS (bs [112])),(dS (bs [97])),(dL 13 bO aI r),(dL 27 b8 ay m),.nils,.nils]] (((ap r m).U).map bG)∧TT 3 (((ap r m).U).map bG=((ap r m).U).map bG∧((ap r m).J)=[]∧True))) (.w 1 [(3,.frz 76 6 bG ac ((ap r m).U))]<|.e) Tryz.func12 rfl rfl rfl (by kernel_rfl) ?_
 refine tt ⟨⟨⟨rfl,rfl,rfl,rfl,rfl,rfl,oK⟩,oK⟩,tt ⟨rfl,?_,oK⟩⟩
 rfl
abbrev MZ (nm:ByteArray) (w:Int) (r:an):Ct:=⟨13,[(dS nm),(i6 w),(.agg [(i6 r.kind),(dS r.src),(i6 r.n)])],true,(.agg [(dS ((af nm w r).name)),(i6 ((af nm w r).w)),(i6 ((af nm w r).init)),(i6 (((af nm w r).next).op)),(dS (((af nm w r).next).name)),(i6 ((((af nm w r).next).k).n)),(dS ((((af nm w r).next).k).p)),(i6 ((((af nm w r).next).w).n)),(dS ((((af nm w r).next).w).p)),(dL 7 (eA 2) dE (((af nm w r).next).args)),(i6 (((af nm w r).Un).kind)),(dS (((af nm w r).Un).src)),(i6 (((af nm w r).Un).n))])⟩
theorem AO (nm:ByteArray) (w:Int) (r:an):CC (MZ nm w r):=by
 refine ah.vc (V:=TT 9 (nm=((af nm w r).name)∧w=((af nm w r).w)∧(0:Int)=((af nm w r).init)∧(16:Int)=(((af nm w r).next).op)∧e0=(((af nm w r).next).name)∧(0:Int)=((((af nm w r).next).k).n)∧e0=((((af nm w r).next).k).p)∧(0:Int)=((((af nm w r).next).w).n)∧e0=((((af nm w r).next).w).p)∧(((af nm w r).next).args)=[]∧r.kind=(((af nm w r).Un).kind)∧r.src=(((af nm w r).Un).src)∧r.n=(((af nm w r).Un).n)∧True)) (.e) Tryz.func13 rfl rfl rfl (by kernel_rfl) ?_
 refine tt ⟨?_,?_,?_,?_,?_,?_,?_,?_,?_,?_,?_,?_,?_,oK⟩
 all_goals (all_goals rfl)
abbrev Pp (nm:ByteArray) (n:Int) (r:an):Ct:=⟨14,[(dS nm),(i6 n),(.agg [(i6 r.kind),(dS r.src),(i6 r.n)])],true,(.agg [(dS ((ao nm n r).name)),(i6 ((ao nm n r).w)),(i6 ((ao nm n r).Um)),(i6 (((ao nm n r).enable).op)),(dS (((ao nm n r).enable).name)),(i6 ((((ao nm n r).enable).k).n)),(dS ((((ao nm n r).enable).k).p)),(i6 ((((ao nm n r).enable).w).n)),(dS ((((ao nm n r).enable).w).p)),(dL 7 (eA 2) dE (((ao nm n r).enable).args)),(i6 (((ao nm n r).addr).op)),(dS (((ao nm n r).addr).name)),(i6 ((((ao nm n r).addr).k).n)),(dS ((((ao nm n r).addr).k).p)),(i6 ((((ao nm n r).addr).w).n)),(dS ((((ao nm n r).addr).w).p)),(dL 7 (eA 2) dE (((ao nm n r).addr).args)),(i6 (((ao nm n r).data).op)),(dS (((ao nm n r).data).name)),(i6 ((((ao nm n r).data).k).n)),(dS ((((ao nm n r).data).k).p)),(i6 ((((ao nm n r).data).w).n)),(dS ((((ao nm n r).data).w).p)),(dL 7 (eA 2) dE (((ao nm n r).data).args)),(i6 (((ao nm n r).Un).kind)),(dS (((ao nm n r).Un).src)),(i6 (((ao nm n r).Un).n))])⟩
theorem KP (nm:ByteArray) (n:Int) (r:an):CC (Pp nm n r):=by
 refine ah.vc (V:=TT 16 (nm=((ao nm n r).name)∧(2:Int)=((ao nm n r).w)∧n=((ao nm n r).Um)∧(1:Int)=(((ao nm n r).enable).op)∧e0=(((ao nm n r).enable).name)∧(0:Int)=((((ao nm n r).enable).k).n)∧e0=((((ao nm n r).enable).k).p)∧(1:Int)=((((ao nm n r).enable).w).n)∧e0=((((ao nm n r).enable).w).p)∧(((ao nm n r).enable).args)=[]∧(1:Int)=(((ao nm n r).addr).op)∧e0=(((ao nm n r).addr).name)∧(0:Int)=((((ao nm n r).addr).k).n)∧e0=((((ao nm n r).addr).k).p)∧(1:Int)=((((ao nm n r).addr).w).n)∧e0=((((ao nm n r).addr).w).p)∧(((ao nm n r).addr).args)=[]∧(1:Int)=(((ao nm n r).data).op)∧e0=(((ao nm n r).data).name)∧(0:Int)=((((ao nm n r).data).k).n)∧e0=((((ao nm n r).data).k).p)∧(2:Int)=((((ao nm n r).data).w).n)∧e0=((((ao nm n r).data).w).p)∧(((ao nm n r).data).args)=[]∧r.kind=(((ao nm n r).Un).kind)∧r.src=(((ao nm n r).Un).src)∧r.n=(((ao nm n r).Un).n)∧True)) (.e) Tryz.func14 rfl rfl rfl (by kernel_rfl) ?_
 refine tt ⟨?_,?_,?_,?_,?_,?_,?_,?_,?_,?_,?_,?_,?_,?_,?_,?_,?_,?_,?_,?_,?_,?_,?_,?_,?_,?_,?_,oK⟩
 all_goals (all_goals rfl)
abbrev c5 (sx:Int) (b1:List Int) (sy:Int) (b2:List Int) (oth:Bool) (ed fe pl me:List Int):Ct:=⟨5,[(.agg [(dI .u8 sx),(LY b1),(dI .u8 sy),(LY b2),(dB oth),(LY ed),(LY fe),(LY pl),(LY me)])],true,(.agg [(dL 6 bG ac ((aL sx b1 me).U)),(dL 5 ca aK ((aL sx b1 me).J)),(dL 6 bG ac ((sJ sx b1 sy b2 oth ed fe me).U)),(dL 5 ca aK ((sJ sx b1 sy b2 oth ed fe me).J)),(dL 2 bi a7 ((ex sx b1 fe pl me).U)),(dL 1 aa [] ((ex sx b1 fe pl me).J))])⟩
theorem Pq (sx:Int) (b1:List Int) (sy:Int) (b2:List Int) (oth:Bool) (ed fe pl me:List Int) (g0:0≤sx) (g1:sx≤255) (Zq:ic b1) (k0:0≤sy) (k1:sy≤255) (X7:ic b2) (hed:ic ed) (XR:ic fe) (Yg:ic pl) (X8:ic me):CC (c5 sx b1 sy b2 oth ed fe pl me):=by
 have ZG:=Au (me:=me) g0 g1 Zq
 have hcO:cr (aM (aF sx b1) me):=ZG.1
 have hmid:=Kh (oth:=oth) (fe:=fe) (me:=me) g0 g1 Zq k0 k1 X7
 have XK:=Hm hcO XR
 have Zt:=An hcO (pl.take (min pl.length 24)) XK.1 (FT hcO XR _ (Ut _)).2
 have hmn:=Kg pl
 have hnx:=(jn sx b1).1
 have hny:=(jn sy b2).1
 have hpx:=ob sx
 have hpy:=ob sy
 refine ah.vc (V:=TT 4 (CC (Q5 sx b1)∧TT 2 (CC (QW (aF sx b1) me)∧TT 7 (CB (oth) (TT 2 (CC (Q5 sy b2)∧TT 2 (CC (QW (aF sy b2) fe)∧TT 6 ((True∧(A1 (pl.length:Int) 24)=(((min pl.length 24):Nat):Int))∧((0≤(0:Int)∧(0:Int)≤(((min pl.length 24):Nat):Int)∧(((min pl.length 24):Nat):Int)≤(pl.length:Int))∧((pl.take (min pl.length 24)).drop 0).map (ab .u8)=(pl.take (min pl.length 24)).map (ab .u8))∧TT 5 (CC (Q6 (aM (aF sx b1) me) fe)∧TT 1 (CC (Q7 (aM (aF sx b1) me) (cu (aM (aF sx b1) me) fe) (pl.take (min pl.length 24)))∧TT 6 (CC (QY (aM (aF sy b2) fe) ed)∧TT 4 (CC (QX (aM (aF sx b1) me) (dk (aM (aF sx b1) me) (cu (aM (aF sx b1) me) fe) (pl.take (min pl.length 24))) me)∧TT 3 (((aM (aF sx b1) me).U).map bG=((aL sx b1 me).U).map bG∧((aM (aF sx b1) me).J).map ca=((aL sx b1 me).J).map ca∧((d9 (aM (aF sy b2) fe) ed).U).map bG=((sJ sx b1 sy b2 oth ed fe me).U).map bG∧((d9 (aM (aF sy b2) fe) ed).J).map ca=((sJ sx b1 sy b2 oth ed fe me).J).map ca∧((iA (aM (aF sx b1) me) (dk (aM (aF sx b1) me) (cu (aM (aF sx b1) me) fe) (pl.take (min pl.length 24))) me).U).map bi=((ex sx b1 fe pl me).U).map bi∧((iA (aM (aF sx b1) me) (dk (aM (aF sx b1) me) (cu (aM (aF sx b1) me) fe) (pl.take (min pl.length 24))) me).J).map aa=((ex sx b1 fe pl me).J).map aa∧True))))))))) (TT 5 ((True∧(A1 (pl.length:Int) 24)=(((min pl.length 24):Nat):Int))∧((0≤(0:Int)∧(0:Int)≤(((min pl.length 24):Nat):Int)∧(((min pl.length 24):Nat):Int)≤(pl.length:Int))∧((pl.take (min pl.length 24)).drop 0).map (ab .u8)=(pl.take (min pl.length 24)).map (ab .u8))∧TT 5 (CC (Q6 (aM (aF sx b1) me) fe)∧TT 1 (CC (Q7 (aM (aF sx b1) me) (cu (aM (aF sx b1) me) fe) (pl.take (min pl.length 24)))∧TT 6 (CC (QY (aM (aF sx b1) me) ed)∧TT 4 (CC (QX (aM (aF sx b1) me) (dk (aM (aF sx b1) me) (cu (aM (aF sx b1) me) fe) (pl.take (min pl.length 24))) me)∧TT 3 (((aM (aF sx b1) me).U).map bG=((aL sx b1 me).U).map bG∧((aM (aF sx b1) me).J).map ca=((aL sx b1 me).J).map ca∧((d9 (aM (aF sx b1) me) ed).U).map bG=((sJ sx b1 sy b2 oth ed fe me).U).map bG∧((d9 (aM (aF sx b1) me) ed).J).map ca=((sJ sx b1 sy b2 oth ed fe me).J).map ca∧((iA (aM (aF sx b1) me) (dk (aM (aF sx b1) me) (cu (aM (aF sx b1) me) fe) (pl.take (min pl.length 24))) me).U).map bi=((ex sx b1 fe pl me).U).map bi∧((iA (aM (aF sx b1) me) (dk (aM (aF sx b1) me) (cu (aM (aF sx b1) me) fe) (pl.take (min pl.length 24))) me).J).map aa=((ex sx b1 fe pl me).J).map aa∧True))))))))))) (.w 1 [(2,(Q5 sx b1).O),(5,(QW (aF sx b1) me).O)]<|.b 15 (.w 4 [(2,(Q5 sy b2).O),(5,(QW (aF sy b2) fe).O)]<|.w 5 [(5,.val (i6 (((min pl.length 24):Nat):Int))),(6,.val (LY (pl.take (min pl.length 24))))]<|.w 6 [(4,(Q6 (aM (aF sx b1) me) fe).O),(6,(Q7 (aM (aF sx b1) me) (cu (aM (aF sx b1) me) fe) (pl.take (min pl.length 24))).O)]<|.w 7 [(4,(QY (aM (aF sy b2) fe) ed).O),(9,(QX (aM (aF sx b1) me) (dk (aM (aF sx b1) me) (cu (aM (aF sx b1) me) fe) (pl.take (min pl.length 24))) me).O)]<|.e) (.w 5 [(5,.val (i6 (((min pl.length 24):Nat):Int))),(6,.val (LY (pl.take (min pl.length 24))))]<|.w 6 [(4,(Q6 (aM (aF sx b1) me) fe).O),(6,(Q7 (aM (aF sx b1) me) (cu (aM (aF sx b1) me) fe) (pl.take (min pl.length 24))).O)]<|.w 7 [(4,(QY (aM (aF sx b1) me) ed).O),(9,(QX (aM (aF sx b1) me) (dk (aM (aF sx b1) me) (cu (aM (aF sx b1) me) fe) (pl.take (min pl.length 24))) me).O)]<|.e)) Tryz.func5 rfl rfl rfl (by kernel_rfl) ?_
 refine tt ⟨(Gw sx b1 g0 g1 Zq),tt ⟨(Cr (aF sx b1) me (by omega) (by assumption)),tt ⟨fun W4=>?_,fun W4=>?_⟩⟩⟩
 · have hmd:t6 sx b1 sy b2 oth fe me=aM (aF sy b2) fe:=by unfold t6;rw[Uw W4]
   refine tt ⟨(Gw sy b2 k0 k1 X7),tt ⟨(Cr (aF sy b2) fe (by omega) (by assumption)),tt ⟨⟨oK,(Kg pl)⟩,⟨⟨om,rfl⟩,tt ⟨(CF (aM (aF sx b1) me) fe hcO XR),tt ⟨(yT (aM (aF sx b1) me) (cu (aM (aF sx b1) me) fe) (pl.take (min pl.length 24)) hcO XK.1 XK.2 (by rw[UG];omega) (B5 Yg)),tt ⟨(Kx (aM (aF sy b2) fe) ed (U6 (hmd ▸ hmid.2.1.pl) (by decide)) (U6 (hmd ▸ hmid.2.1.cl) (by decide)) (hmd ▸ Nx hmid.2.1) hed),tt ⟨(Cs (aM (aF sx b1) me) (dk (aM (aF sx b1) me) (cu (aM (aF sx b1) me) fe) (pl.take (min pl.length 24))) me hcO Zt.1 X8),tt ⟨(congrArg _ (?_:((aM (aF sx b1) me).U)=((aL sx b1 me).U))),(congrArg _ (?_:((aM (aF sx b1) me).J)=((aL sx b1 me).J))),(congrArg _ (?_:((d9 (aM (aF sy b2) fe) ed).U)=((sJ sx b1 sy b2 oth ed fe me).U))),(congrArg _ (?_:((d9 (aM (aF sy b2) fe) ed).J)=((sJ sx b1 sy b2 oth ed fe me).J))),(congrArg _ (?_:((iA (aM (aF sx b1) me) (dk (aM (aF sx b1) me) (cu (aM (aF sx b1) me) fe) (pl.take (min pl.length 24))) me).U)=((ex sx b1 fe pl me).U))),(congrArg _ (?_:((iA (aM (aF sx b1) me) (dk (aM (aF sx b1) me) (cu (aM (aF sx b1) me) fe) (pl.take (min pl.length 24))) me).J)=((ex sx b1 fe pl me).J))),oK⟩⟩⟩⟩⟩⟩⟩⟩⟩
   all_goals (all_goals (first | rfl | (show _=(d9 (t6 sx b1 sy b2 oth fe me) ed).U;rw[hmd];done) | (show _=(d9 (t6 sx b1 sy b2 oth fe me) ed).J;rw[hmd];done)))
 · have hmd:t6 sx b1 sy b2 oth fe me=aM (aF sx b1) me:=by unfold t6;rw[Ur (by rw[W4];simp)];rfl
   refine tt ⟨⟨oK,(Kg pl)⟩,⟨⟨om,rfl⟩,tt ⟨(CF (aM (aF sx b1) me) fe hcO XR),tt ⟨(yT (aM (aF sx b1) me) (cu (aM (aF sx b1) me) fe) (pl.take (min pl.length 24)) hcO XK.1 XK.2 (by rw[UG];omega) (B5 Yg)),tt ⟨(Kx (aM (aF sx b1) me) ed (U6 (hmd ▸ hmid.2.1.pl) (by decide)) (U6 (hmd ▸ hmid.2.1.cl) (by decide)) (hmd ▸ Nx hmid.2.1) hed),tt ⟨(Cs (aM (aF sx b1) me) (dk (aM (aF sx b1) me) (cu (aM (aF sx b1) me) fe) (pl.take (min pl.length 24))) me hcO Zt.1 X8),tt ⟨(congrArg _ (?_:((aM (aF sx b1) me).U)=((aL sx b1 me).U))),(congrArg _ (?_:((aM (aF sx b1) me).J)=((aL sx b1 me).J))),(congrArg _ (?_:((d9 (aM (aF sx b1) me) ed).U)=((sJ sx b1 sy b2 oth ed fe me).U))),(congrArg _ (?_:((d9 (aM (aF sx b1) me) ed).J)=((sJ sx b1 sy b2 oth ed fe me).J))),(congrArg _ (?_:((iA (aM (aF sx b1) me) (dk (aM (aF sx b1) me) (cu (aM (aF sx b1) me) fe) (pl.take (min pl.length 24))) me).U)=((ex sx b1 fe pl me).U))),(congrArg _ (?_:((iA (aM (aF sx b1) me) (dk (aM (aF sx b1) me) (cu (aM (aF sx b1) me) fe) (pl.take (min pl.length 24))) me).J)=((ex sx b1 fe pl me).J))),oK⟩⟩⟩⟩⟩⟩⟩
   all_goals (all_goals (first | rfl | (show _=(d9 (t6 sx b1 sy b2 oth fe me) ed).U;rw[hmd];done) | (show _=(d9 (t6 sx b1 sy b2 oth fe me) ed).J;rw[hmd];done)))
abbrev c4:Ct:=⟨4,[],false,(dB true)⟩
abbrev xb:List aC:=[(.var 52 [(i6 1),(dS e0),(i6 0)]),(.var 52 [(i6 2),(dS (bs [114])),(i6 0)]),(.var 52 [(i6 3),(dS (bs [114])),(i6 2)]),.dead,.dead,.dead,.dead,.dead,.dead,.dead,(.var 32 [(dL 6 bG ac ((ap [af (bs [114]) 2 (⟨1,e0,0⟩:an)] [ao (bs [109]) 2 (⟨1,e0,0⟩:an)]).U)),(dL 5 ca aK ((ap [af (bs [114]) 2 (⟨1,e0,0⟩:an)] [ao (bs [109]) 2 (⟨1,e0,0⟩:an)]).J))]),.dead,.dead,.dead,.dead,(.var 36 [(dL 2 bi a7 [(⟨[3],[[1,2]]⟩:Ps)]),.nils]),.dead,.dead,.dead,.dead,.dead,.dead,.dead,(.var 43 [(dL 2 bi a7 (((au (ap [af (bs [114]) 2 (⟨1,e0,0⟩:an)] [ao (bs [109]) 2 (⟨1,e0,0⟩:an)]) (ap [af (bs [114]) 2 (⟨1,e0,0⟩:an)] []) (⟨[(⟨[3],[[1,2]]⟩:Ps)],[]⟩:Ns)).1).U)),(dL 1 aa [] (((au (ap [af (bs [114]) 2 (⟨1,e0,0⟩:an)] [ao (bs [109]) 2 (⟨1,e0,0⟩:an)]) (ap [af (bs [114]) 2 (⟨1,e0,0⟩:an)] []) (⟨[(⟨[3],[[1,2]]⟩:Ps)],[]⟩:Ns)).1).J)),(i6 ((au (ap [af (bs [114]) 2 (⟨1,e0,0⟩:an)] [ao (bs [109]) 2 (⟨1,e0,0⟩:an)]) (ap [af (bs [114]) 2 (⟨1,e0,0⟩:an)] []) (⟨[(⟨[3],[[1,2]]⟩:Ps)],[]⟩:Ns)).2))]),.dead,.dead,.dead,.dead,.dead,.dead,.dead,.dead,.dead,.dead,(.var 43 [(dL 2 bi a7 (((au (ap [af (bs [114]) 2 (⟨1,e0,0⟩:an)] [ao (bs [109]) 2 (⟨1,e0,0⟩:an)]) (ap [af (bs [120]) 1 (⟨2,(bs [114]),0⟩:an)] [ao (bs [110]) 4 (⟨2,(bs [109]),0⟩:an)]) (⟨[(⟨[3],[[1,2]]⟩:Ps)],[]⟩:Ns)).1).U)),(dL 1 aa [] (((au (ap [af (bs [114]) 2 (⟨1,e0,0⟩:an)] [ao (bs [109]) 2 (⟨1,e0,0⟩:an)]) (ap [af (bs [120]) 1 (⟨2,(bs [114]),0⟩:an)] [ao (bs [110]) 4 (⟨2,(bs [109]),0⟩:an)]) (⟨[(⟨[3],[[1,2]]⟩:Ps)],[]⟩:Ns)).1).J)),(i6 ((au (ap [af (bs [114]) 2 (⟨1,e0,0⟩:an)] [ao (bs [109]) 2 (⟨1,e0,0⟩:an)]) (ap [af (bs [120]) 1 (⟨2,(bs [114]),0⟩:an)] [ao (bs [110]) 4 (⟨2,(bs [109]),0⟩:an)]) (⟨[(⟨[3],[[1,2]]⟩:Ps)],[]⟩:Ns)).2))]),.dead,.dead,.dead,.dead,.dead,.dead,.dead,.dead,.dead,.dead,(.var 43 [(dL 2 bi a7 (((au (ap [af (bs [114]) 2 (⟨1,e0,0⟩:an)] [ao (bs [109]) 2 (⟨1,e0,0⟩:an)]) (ap [af (bs [120]) 3 (⟨3,(bs [114]),2⟩:an)] [ao (bs [110]) 4 (⟨3,(bs [109]),1⟩:an)]) (⟨[(⟨[3],[[1,2]]⟩:Ps)],[]⟩:Ns)).1).U)),(dL 1 aa [] (((au (ap [af (bs [114]) 2 (⟨1,e0,0⟩:an)] [ao (bs [109]) 2 (⟨1,e0,0⟩:an)]) (ap [af (bs [120]) 3 (⟨3,(bs [114]),2⟩:an)] [ao (bs [110]) 4 (⟨3,(bs [109]),1⟩:an)]) (⟨[(⟨[3],[[1,2]]⟩:Ps)],[]⟩:Ns)).1).J)),(i6 ((au (ap [af (bs [114]) 2 (⟨1,e0,0⟩:an)] [ao (bs [109]) 2 (⟨1,e0,0⟩:an)]) (ap [af (bs [120]) 3 (⟨3,(bs [114]),2⟩:an)] [ao (bs [110]) 4 (⟨3,(bs [109]),1⟩:an)]) (⟨[(⟨[3],[[1,2]]⟩:Ps)],[]⟩:Ns)).2))]),.dead,.dead,.dead,.dead,.dead,.dead,.dead,.dead,.dead,.dead]
abbrev gB:List (Nat×D):=[(4,(.ptr 10 0 0 0))]
abbrev jV:List aC:=[(.var 52 [(i6 1),(dS e0),(i6 0)]),(.var 52 [(i6 2),(dS (bs [114])),(i6 0)]),(.var 52 [(i6 3),(dS (bs [114])),(i6 2)]),.dead,.dead,.dead,.dead,.dead,.dead,.dead,(.var 32 [(dL 6 bG ac ((ap [af (bs [114]) 2 (⟨1,e0,0⟩:an)] [ao (bs [109]) 2 (⟨1,e0,0⟩:an)]).U)),(dL 5 ca aK ((ap [af (bs [114]) 2 (⟨1,e0,0⟩:an)] [ao (bs [109]) 2 (⟨1,e0,0⟩:an)]).J))]),.dead,.dead,.dead,.dead,(.var 36 [(dL 2 bi a7 [(⟨[3],[[1,2]]⟩:Ps)]),.nils]),.dead,.dead,.dead,.dead,.dead,.dead,.dead,(.var 43 [(dL 2 bi a7 (((au (ap [af (bs [114]) 2 (⟨1,e0,0⟩:an)] [ao (bs [109]) 2 (⟨1,e0,0⟩:an)]) (ap [af (bs [114]) 2 (⟨1,e0,0⟩:an)] []) (⟨[(⟨[3],[[1,2]]⟩:Ps)],[]⟩:Ns)).1).U)),(dL 1 aa [] (((au (ap [af (bs [114]) 2 (⟨1,e0,0⟩:an)] [ao (bs [109]) 2 (⟨1,e0,0⟩:an)]) (ap [af (bs [114]) 2 (⟨1,e0,0⟩:an)] []) (⟨[(⟨[3],[[1,2]]⟩:Ps)],[]⟩:Ns)).1).J)),(i6 ((au (ap [af (bs [114]) 2 (⟨1,e0,0⟩:an)] [ao (bs [109]) 2 (⟨1,e0,0⟩:an)]) (ap [af (bs [114]) 2 (⟨1,e0,0⟩:an)] []) (⟨[(⟨[3],[[1,2]]⟩:Ps)],[]⟩:Ns)).2))]),.dead,.dead,.dead,.dead,.dead,.dead,.dead,.dead,.dead,.dead,(.var 43 [(dL 2 bi a7 (((au (ap [af (bs [114]) 2 (⟨1,e0,0⟩:an)] [ao (bs [109]) 2 (⟨1,e0,0⟩:an)]) (ap [af (bs [120]) 1 (⟨2,(bs [114]),0⟩:an)] [ao (bs [110]) 4 (⟨2,(bs [109]),0⟩:an)]) (⟨[(⟨[3],[[1,2]]⟩:Ps)],[]⟩:Ns)).1).U)),(dL 1 aa [] (((au (ap [af (bs [114]) 2 (⟨1,e0,0⟩:an)] [ao (bs [109]) 2 (⟨1,e0,0⟩:an)]) (ap [af (bs [120]) 1 (⟨2,(bs [114]),0⟩:an)] [ao (bs [110]) 4 (⟨2,(bs [109]),0⟩:an)]) (⟨[(⟨[3],[[1,2]]⟩:Ps)],[]⟩:Ns)).1).J)),(i6 ((au (ap [af (bs [114]) 2 (⟨1,e0,0⟩:an)] [ao (bs [109]) 2 (⟨1,e0,0⟩:an)]) (ap [af (bs [120]) 1 (⟨2,(bs [114]),0⟩:an)] [ao (bs [110]) 4 (⟨2,(bs [109]),0⟩:an)]) (⟨[(⟨[3],[[1,2]]⟩:Ps)],[]⟩:Ns)).2))]),.dead,.dead,.dead,.dead,.dead,.dead,.dead,.dead,.dead,.dead,(.var 43 [(dL 2 bi a7 (((au (ap [af (bs [114]) 2 (⟨1,e0,0⟩:an)] [ao (bs [109]) 2 (⟨1,e0,0⟩:an)]) (ap [af (bs [120]) 3 (⟨3,(bs [114]),2⟩:an)] [ao (bs [110]) 4 (⟨3,(bs [109]),1⟩:an)]) (⟨[(⟨[3],[[1,2]]⟩:Ps)],[]⟩:Ns)).1).U)),(dL 1 aa [] (((au (ap [af (bs [114]) 2 (⟨1,e0,0⟩:an)] [ao (bs [109]) 2 (⟨1,e0,0⟩:an)]) (ap [af (bs [120]) 3 (⟨3,(bs [114]),2⟩:an)] [ao (bs [110]) 4 (⟨3,(bs [109]),1⟩:an)]) (⟨[(⟨[3],[[1,2]]⟩:Ps)],[]⟩:Ns)).1).J)),(i6 ((au (ap [af (bs [114]) 2 (⟨1,e0,0⟩:an)] [ao (bs [109]) 2 (⟨1,e0,0⟩:an)]) (ap [af (bs [120]) 3 (⟨3,(bs [114]),2⟩:an)] [ao (bs [110]) 4 (⟨3,(bs [109]),1⟩:an)]) (⟨[(⟨[3],[[1,2]]⟩:Ps)],[]⟩:Ns)).2))]),.dead,.dead,.dead,.dead,.dead,.dead,.dead,.dead,.dead,.dead]
abbrev jW:List aC:=[(.var 32 [(.own 58),.nils]),(.arr 76 6 bG ac [(⟨(bs [112]),(bs [97]),[],[],[],[]⟩:Pr)])]
theorem CG  : CC c4:=by
 refine ah.vc (V:=TT 11 (CC (MZ (bs [114]) 2 (⟨1,e0,0⟩:an))∧am [[(dS ((af (bs [114]) 2 (⟨1,e0,0⟩:an)).name)),(i6 ((af (bs [114]) 2 (⟨1,e0,0⟩:an)).w)),(i6 ((af (bs [114]) 2 (⟨1,e0,0⟩:an)).init)),(i6 (((af (bs [114]) 2 (⟨1,e0,0⟩:an)).next).op)),(dS (((af (bs [114]) 2 (⟨1,e0,0⟩:an)).next).name)),(i6 ((((af (bs [114]) 2 (⟨1,e0,0⟩:an)).next).k).n)),(dS ((((af (bs [114]) 2 (⟨1,e0,0⟩:an)).next).k).p)),(i6 ((((af (bs [114]) 2 (⟨1,e0,0⟩:an)).next).w).n)),(dS ((((af (bs [114]) 2 (⟨1,e0,0⟩:an)).next).w).p)),(dL 7 (eA 2) dE (((af (bs [114]) 2 (⟨1,e0,0⟩:an)).next).args)),(i6 (((af (bs [114]) 2 (⟨1,e0,0⟩:an)).Un).kind)),(dS (((af (bs [114]) 2 (⟨1,e0,0⟩:an)).Un).src)),(i6 (((af (bs [114]) 2 (⟨1,e0,0⟩:an)).Un).n))]] ([af (bs [114]) 2 (⟨1,e0,0⟩:an)].map bO)∧TT 1 (CC (Pp (bs [109]) 2 (⟨1,e0,0⟩:an))∧am [[(dS ((ao (bs [109]) 2 (⟨1,e0,0⟩:an)).name)),(i6 ((ao (bs [109]) 2 (⟨1,e0,0⟩:an)).w)),(i6 ((ao (bs [109]) 2 (⟨1,e0,0⟩:an)).Um)),(i6 (((ao (bs [109]) 2 (⟨1,e0,0⟩:an)).enable).op)),(dS (((ao (bs [109]) 2 (⟨1,e0,0⟩:an)).enable).name)),(i6 ((((ao (bs [109]) 2 (⟨1,e0,0⟩:an)).enable).k).n)),(dS ((((ao (bs [109]) 2 (⟨1,e0,0⟩:an)).enable).k).p)),(i6 ((((ao (bs [109]) 2 (⟨1,e0,0⟩:an)).enable).w).n)),(dS ((((ao (bs [109]) 2 (⟨1,e0,0⟩:an)).enable).w).p)),(dL 7 (eA 2) dE (((ao (bs [109]) 2 (⟨1,e0,0⟩:an)).enable).args)),(i6 (((ao (bs [109]) 2 (⟨1,e0,0⟩:an)).addr).op)),(dS (((ao (bs [109]) 2 (⟨1,e0,0⟩:an)).addr).name)),(i6 ((((ao (bs [109]) 2 (⟨1,e0,0⟩:an)).addr).k).n)),(dS ((((ao (bs [109]) 2 (⟨1,e0,0⟩:an)).addr).k).p)),(i6 ((((ao (bs [109]) 2 (⟨1,e0,0⟩:an)).addr).w).n)),(dS ((((ao (bs [109]) 2 (⟨1,e0,0⟩:an)).addr).w).p)),(dL 7 (eA 2) dE (((ao (bs [109]) 2 (⟨1,e0,0⟩:an)).addr).args)),(i6 (((ao (bs [109]) 2 (⟨1,e0,0⟩:an)).data).op)),(dS (((ao (bs [109]) 2 (⟨1,e0,0⟩:an)).data).name)),(i6 ((((ao (bs [109]) 2 (⟨1,e0,0⟩:an)).data).k).n)),(dS ((((ao (bs [109]) 2 (⟨1,e0,0⟩:an)).data).k).p)),(i6 ((((ao (bs [109]) 2 (⟨1,e0,0⟩:an)).data).w).n)),(dS ((((ao (bs [109]) 2 (⟨1,e0,0⟩:an)).data).w).p)),(dL 7 (eA 2) dE (((ao (bs [109]) 2 (⟨1,e0,0⟩:an)).data).args)),(i6 (((ao (bs [109]) 2 (⟨1,e0,0⟩:an)).Un).kind)),(dS (((ao (bs [109]) 2 (⟨1,e0,0⟩:an)).Un).src)),(i6 (((ao (bs [109]) 2 (⟨1,e0,0⟩:an)).Un).n))]] ([ao (bs [109]) 2 (⟨1,e0,0⟩:an)].map b8)∧CC (HQ [af (bs [114]) 2 (⟨1,e0,0⟩:an)] [ao (bs [109]) 2 (⟨1,e0,0⟩:an)])∧TT 2 (am [[(i6 3)]] ([3].map (ab .i64))∧am [[(i6 1)],[(i6 2)]] ([1,2].map (ab .i64))∧am [[(LI [1,2])]] ([[1,2]].map aa)∧TT 1 (am [[(LI [3]),(dL 1 aa [] [[1,2]])]] ([(⟨[3],[[1,2]]⟩:Ps)].map bi)∧TT 5 (CC (MZ (bs [114]) 2 (⟨1,e0,0⟩:an))∧am [[(dS ((af (bs [114]) 2 (⟨1,e0,0⟩:an)).name)),(i6 ((af (bs [114]) 2 (⟨1,e0,0⟩:an)).w)),(i6 ((af (bs [114]) 2 (⟨1,e0,0⟩:an)).init)),(i6 (((af (bs [114]) 2 (⟨1,e0,0⟩:an)).next).op)),(dS (((af (bs [114]) 2 (⟨1,e0,0⟩:an)).next).name)),(i6 ((((af (bs [114]) 2 (⟨1,e0,0⟩:an)).next).k).n)),(dS ((((af (bs [114]) 2 (⟨1,e0,0⟩:an)).next).k).p)),(i6 ((((af (bs [114]) 2 (⟨1,e0,0⟩:an)).next).w).n)),(dS ((((af (bs [114]) 2 (⟨1,e0,0⟩:an)).next).w).p)),(dL 7 (eA 2) dE (((af (bs [114]) 2 (⟨1,e0,0⟩:an)).next).args)),(i6 (((af (bs [114]) 2 (⟨1,e0,0⟩:an)).Un).kind)),(dS (((af (bs [114]) 2 (⟨1,e0,0⟩:an)).Un).src)),(i6 (((af (bs [114]) 2 (⟨1,e0,0⟩:an)).Un).n))]] ([af (bs [114]) 2 (⟨1,e0,0⟩:an)].map bO)∧(uB [] [(dL 13 bO aI [af (bs [114]) 2 (⟨1,e0,0⟩:an)]),.nils] (HQ [af (bs [114]) 2 (⟨1,e0,0⟩:an)] []).q'∧CC (HQ [af (bs [114]) 2 (⟨1,e0,0⟩:an)] []))∧TT 1 ((uB [] [(.agg [(dL 6 bG ac ((ap [af (bs [114]) 2 (⟨1,e0,0⟩:an)] [ao (bs [109]) 2 (⟨1,e0,0⟩:an)]).U)),(dL 5 ca aK ((ap [af (bs [114]) 2 (⟨1,e0,0⟩:an)] [ao (bs [109]) 2 (⟨1,e0,0⟩:an)]).J))]),(.agg [(dL 6 bG ac ((ap [af (bs [114]) 2 (⟨1,e0,0⟩:an)] []).U)),(dL 5 ca aK ((ap [af (bs [114]) 2 (⟨1,e0,0⟩:an)] []).J))]),(.agg [(dL 2 bi a7 [(⟨[3],[[1,2]]⟩:Ps)]),.nils])] (c7 (ap [af (bs [114]) 2 (⟨1,e0,0⟩:an)] [ao (bs [109]) 2 (⟨1,e0,0⟩:an)]) (ap [af (bs [114]) 2 (⟨1,e0,0⟩:an)] []) (⟨[(⟨[3],[[1,2]]⟩:Ps)],[]⟩:Ns)).q'∧CC (c7 (ap [af (bs [114]) 2 (⟨1,e0,0⟩:an)] [ao (bs [109]) 2 (⟨1,e0,0⟩:an)]) (ap [af (bs [114]) 2 (⟨1,e0,0⟩:an)] []) (⟨[(⟨[3],[[1,2]]⟩:Ps)],[]⟩:Ns)))∧TT 4 (CC (MZ (bs [120]) 1 (⟨2,(bs [114]),0⟩:an))∧am [[(dS ((af (bs [120]) 1 (⟨2,(bs [114]),0⟩:an)).name)),(i6 ((af (bs [120]) 1 (⟨2,(bs [114]),0⟩:an)).w)),(i6 ((af (bs [120]) 1 (⟨2,(bs [114]),0⟩:an)).init)),(i6 (((af (bs [120]) 1 (⟨2,(bs [114]),0⟩:an)).next).op)),(dS (((af (bs [120]) 1 (⟨2,(bs [114]),0⟩:an)).next).name)),(i6 ((((af (bs [120]) 1 (⟨2,(bs [114]),0⟩:an)).next).k).n)),(dS ((((af (bs [120]) 1 (⟨2,(bs [114]),0⟩:an)).next).k).p)),(i6 ((((af (bs [120]) 1 (⟨2,(bs [114]),0⟩:an)).next).w).n)),(dS ((((af (bs [120]) 1 (⟨2,(bs [114]),0⟩:an)).next).w).p)),(dL 7 (eA 2) dE (((af (bs [120]) 1 (⟨2,(bs [114]),0⟩:an)).next).args)),(i6 (((af (bs [120]) 1 (⟨2,(bs [114]),0⟩:an)).Un).kind)),(dS (((af (bs [120]) 1 (⟨2,(bs [114]),0⟩:an)).Un).src)),(i6 (((af (bs [120]) 1 (⟨2,(bs [114]),0⟩:an)).Un).n))]] ([af (bs [120]) 1 (⟨2,(bs [114]),0⟩:an)].map bO)∧TT 1 (CC (Pp (bs [110]) 4 (⟨2,(bs [109]),0⟩:an))∧am [[(dS ((ao (bs [110]) 4 (⟨2,(bs [109]),0⟩:an)).name)),(i6 ((ao (bs [110]) 4 (⟨2,(bs [109]),0⟩:an)).w)),(i6 ((ao (bs [110]) 4 (⟨2,(bs [109]),0⟩:an)).Um)),(i6 (((ao (bs [110]) 4 (⟨2,(bs [109]),0⟩:an)).enable).op)),(dS (((ao (bs [110]) 4 (⟨2,(bs [109]),0⟩:an)).enable).name)),(i6 ((((ao (bs [110]) 4 (⟨2,(bs [109]),0⟩:an)).enable).k).n)),(dS ((((ao (bs [110]) 4 (⟨2,(bs [109]),0⟩:an)).enable).k).p)),(i6 ((((ao (bs [110]) 4 (⟨2,(bs [109]),0⟩:an)).enable).w).n)),(dS ((((ao (bs [110]) 4 (⟨2,(bs [109]),0⟩:an)).enable).w).p)),(dL 7 (eA 2) dE (((ao (bs [110]) 4 (⟨2,(bs [109]),0⟩:an)).enable).args)),(i6 (((ao (bs [110]) 4 (⟨2,(bs [109]),0⟩:an)).addr).op)),(dS (((ao (bs [110]) 4 (⟨2,(bs [109]),0⟩:an)).addr).name)),(i6 ((((ao (bs [110]) 4 (⟨2,(bs [109]),0⟩:an)).addr).k).n)),(dS ((((ao (bs [110]) 4 (⟨2,(bs [109]),0⟩:an)).addr).k).p)),(i6 ((((ao (bs [110]) 4 (⟨2,(bs [109]),0⟩:an)).addr).w).n)),(dS ((((ao (bs [110]) 4 (⟨2,(bs [109]),0⟩:an)).addr).w).p)),(dL 7 (eA 2) dE (((ao (bs [110]) 4 (⟨2,(bs [109]),0⟩:an)).addr).args)),(i6 (((ao (bs [110]) 4 (⟨2,(bs [109]),0⟩:an)).data).op)),(dS (((ao (bs [110]) 4 (⟨2,(bs [109]),0⟩:an)).data).name)),(i6 ((((ao (bs [110]) 4 (⟨2,(bs [109]),0⟩:an)).data).k).n)),(dS ((((ao (bs [110]) 4 (⟨2,(bs [109]),0⟩:an)).data).k).p)),(i6 ((((ao (bs [110]) 4 (⟨2,(bs [109]),0⟩:an)).data).w).n)),(dS ((((ao (bs [110]) 4 (⟨2,(bs [109]),0⟩:an)).data).w).p)),(dL 7 (eA 2) dE (((ao (bs [110]) 4 (⟨2,(bs [109]),0⟩:an)).data).args)),(i6 (((ao (bs [110]) 4 (⟨2,(bs [109]),0⟩:an)).Un).kind)),(dS (((ao (bs [110]) 4 (⟨2,(bs [109]),0⟩:an)).Un).src)),(i6 (((ao (bs [110]) 4 (⟨2,(bs [109]),0⟩:an)).Un).n))]] ([ao (bs [110]) 4 (⟨2,(bs [109]),0⟩:an)].map b8)∧CC (HQ [af (bs [120]) 1 (⟨2,(bs [114]),0⟩:an)] [ao (bs [110]) 4 (⟨2,(bs [109]),0⟩:an)])∧TT 1 ((uB [] [(.agg [(dL 6 bG ac ((ap [af (bs [114]) 2 (⟨1,e0,0⟩:an)] [ao (bs [109]) 2 (⟨1,e0,0⟩:an)]).U)),(dL 5 ca aK ((ap [af (bs [114]) 2 (⟨1,e0,0⟩:an)] [ao (bs [109]) 2 (⟨1,e0,0⟩:an)]).J))]),(.agg [(dL 6 bG ac ((ap [af (bs [120]) 1 (⟨2,(bs [114]),0⟩:an)] [ao (bs [110]) 4 (⟨2,(bs [109]),0⟩:an)]).U)),(dL 5 ca aK ((ap [af (bs [120]) 1 (⟨2,(bs [114]),0⟩:an)] [ao (bs [110]) 4 (⟨2,(bs [109]),0⟩:an)]).J))]),(.agg [(dL 2 bi a7 [(⟨[3],[[1,2]]⟩:Ps)]),.nils])] (c7 (ap [af (bs [114]) 2 (⟨1,e0,0⟩:an)] [ao (bs [109]) 2 (⟨1,e0,0⟩:an)]) (ap [af (bs [120]) 1 (⟨2,(bs [114]),0⟩:an)] [ao (bs [110]) 4 (⟨2,(bs [109]),0⟩:an)]) (⟨[(⟨[3],[[1,2]]⟩:Ps)],[]⟩:Ns)).q'∧CC (c7 (ap [af (bs [114]) 2 (⟨1,e0,0⟩:an)] [ao (bs [109]) 2 (⟨1,e0,0⟩:an)]) (ap [af (bs [120]) 1 (⟨2,(bs [114]),0⟩:an)] [ao (bs [110]) 4 (⟨2,(bs [109]),0⟩:an)]) (⟨[(⟨[3],[[1,2]]⟩:Ps)],[]⟩:Ns)))∧TT 4 (CC (MZ (bs [120]) 3 (⟨3,(bs [114]),2⟩:an))∧am [[(dS ((af (bs [120]) 3 (⟨3,(bs [114]),2⟩:an)).name)),(i6 ((af (bs [120]) 3 (⟨3,(bs [114]),2⟩:an)).w)),(i6 ((af (bs [120]) 3 (⟨3,(bs [114]),2⟩:an)).init)),(i6 (((af (bs [120]) 3 (⟨3,(bs [114]),2⟩:an)).next).op)),(dS (((af (bs [120]) 3 (⟨3,(bs [114]),2⟩:an)).next).name)),(i6 ((((af (bs [120]) 3 (⟨3,(bs [114]),2⟩:an)).next).k).n)),(dS ((((af (bs [120]) 3 (⟨3,(bs [114]),2⟩:an)).next).k).p)),(i6 ((((af (bs [120]) 3 (⟨3,(bs [114]),2⟩:an)).next).w).n)),(dS ((((af (bs [120]) 3 (⟨3,(bs [114]),2⟩:an)).next).w).p)),(dL 7 (eA 2) dE (((af (bs [120]) 3 (⟨3,(bs [114]),2⟩:an)).next).args)),(i6 (((af (bs [120]) 3 (⟨3,(bs [114]),2⟩:an)).Un).kind)),(dS (((af (bs [120]) 3 (⟨3,(bs [114]),2⟩:an)).Un).src)),(i6 (((af (bs [120]) 3 (⟨3,(bs [114]),2⟩:an)).Un).n))]] ([af (bs [120]) 3 (⟨3,(bs [114]),2⟩:an)].map bO)∧TT 1 (CC (Pp (bs [110]) 4 (⟨3,(bs [109]),1⟩:an))∧am [[(dS ((ao (bs [110]) 4 (⟨3,(bs [109]),1⟩:an)).name)),(i6 ((ao (bs [110]) 4 (⟨3,(bs [109]),1⟩:an)).w)),(i6 ((ao (bs [110]) 4 (⟨3,(bs [109]),1⟩:an)).Um)),(i6 (((ao (bs [110]) 4 (⟨3,(bs [109]),1⟩:an)).enable).op)),(dS (((ao (bs [110]) 4 (⟨3,(bs [109]),1⟩:an)).enable).name)),(i6 ((((ao (bs [110]) 4 (⟨3,(bs [109]),1⟩:an)).enable).k).n)),(dS ((((ao (bs [110]) 4 (⟨3,(bs [109]),1⟩:an)).enable).k).p)),(i6 ((((ao (bs [110]) 4 (⟨3,(bs [109]),1⟩:an)).enable).w).n)),(dS ((((ao (bs [110]) 4 (⟨3,(bs [109]),1⟩:an)).enable).w).p)),(dL 7 (eA 2) dE (((ao (bs [110]) 4 (⟨3,(bs [109]),1⟩:an)).enable).args)),(i6 (((ao (bs [110]) 4 (⟨3,(bs [109]),1⟩:an)).addr).op)),(dS (((ao (bs [110]) 4 (⟨3,(bs [109]),1⟩:an)).addr).name)),(i6 ((((ao (bs [110]) 4 (⟨3,(bs [109]),1⟩:an)).addr).k).n)),(dS ((((ao (bs [110]) 4 (⟨3,(bs [109]),1⟩:an)).addr).k).p)),(i6 ((((ao (bs [110]) 4 (⟨3,(bs [109]),1⟩:an)).addr).w).n)),(dS ((((ao (bs [110]) 4 (⟨3,(bs [109]),1⟩:an)).addr).w).p)),(dL 7 (eA 2) dE (((ao (bs [110]) 4 (⟨3,(bs [109]),1⟩:an)).addr).args)),(i6 (((ao (bs [110]) 4 (⟨3,(bs [109]),1⟩:an)).data).op)),(dS (((ao (bs [110]) 4 (⟨3,(bs [109]),1⟩:an)).data).name)),(i6 ((((ao (bs [110]) 4 (⟨3,(bs [109]),1⟩:an)).data).k).n)),(dS ((((ao (bs [110]) 4 (⟨3,(bs [109]),1⟩:an)).data).k).p)),(i6 ((((ao (bs [110]) 4 (⟨3,(bs [109]),1⟩:an)).data).w).n)),(dS ((((ao (bs [110]) 4 (⟨3,(bs [109]),1⟩:an)).data).w).p)),(dL 7 (eA 2) dE (((ao (bs [110]) 4 (⟨3,(bs [109]),1⟩:an)).data).args)),(i6 (((ao (bs [110]) 4 (⟨3,(bs [109]),1⟩:an)).Un).kind)),(dS (((ao (bs [110]) 4 (⟨3,(bs [109]),1⟩:an)).Un).src)),(i6 (((ao (bs [110]) 4 (⟨3,(bs [109]),1⟩:an)).Un).n))]] ([ao (bs [110]) 4 (⟨3,(bs [109]),1⟩:an)].map b8)∧CC (HQ [af (bs [120]) 3 (⟨3,(bs [114]),2⟩:an)] [ao (bs [110]) 4 (⟨3,(bs [109]),1⟩:an)])∧TT 1 ((uB [] [(.agg [(dL 6 bG ac ((ap [af (bs [114]) 2 (⟨1,e0,0⟩:an)] [ao (bs [109]) 2 (⟨1,e0,0⟩:an)]).U)),(dL 5 ca aK ((ap [af (bs [114]) 2 (⟨1,e0,0⟩:an)] [ao (bs [109]) 2 (⟨1,e0,0⟩:an)]).J))]),(.agg [(dL 6 bG ac ((ap [af (bs [120]) 3 (⟨3,(bs [114]),2⟩:an)] [ao (bs [110]) 4 (⟨3,(bs [109]),1⟩:an)]).U)),(dL 5 ca aK ((ap [af (bs [120]) 3 (⟨3,(bs [114]),2⟩:an)] [ao (bs [110]) 4 (⟨3,(bs [109]),1⟩:an)]).J))]),(.agg [(dL 2 bi a7 [(⟨[3],[[1,2]]⟩:Ps)]),.nils])] (c7 (ap [af (bs [114]) 2 (⟨1,e0,0⟩:an)] [ao (bs [109]) 2 (⟨1,e0,0⟩:an)]) (ap [af (bs [120]) 3 (⟨3,(bs [114]),2⟩:an)] [ao (bs [110]) 4 (⟨3,(bs [109]),1⟩:an)]) (⟨[(⟨[3],[[1,2]]⟩:Ps)],[]⟩:Ns)).q'∧CC (c7 (ap [af (bs [114]) 2 (⟨1,e0,0⟩:an)] [ao (bs [109]) 2 (⟨1,e0,0⟩:an)]) (ap [af (bs [120]) 3 (⟨3,(bs [114]),2⟩:an)] [ao (bs [110]) 4 (⟨3,(bs [109]),1⟩:an)]) (⟨[(⟨[3],[[1,2]]⟩:Ps)],[]⟩:Ns)))∧TT 3 (am [[(i6 3)]] ([3].map (ab .i64))∧TT 1 (am [[(LI [3]),.nils]] ([(⟨[3],[]⟩:Ps)].map bi)∧TT 2 ((uB [] [(.agg [(dL 2 bi a7 (((au (ap [af (bs [114]) 2 (⟨1,e0,0⟩:an)] [ao (bs [109]) 2 (⟨1,e0,0⟩:an)]) (ap [af (bs [114]) 2 (⟨1,e0,0⟩:an)] []) (⟨[(⟨[3],[[1,2]]⟩:Ps)],[]⟩:Ns)).1).U)),(dL 1 aa [] (((au (ap [af (bs [114]) 2 (⟨1,e0,0⟩:an)] [ao (bs [109]) 2 (⟨1,e0,0⟩:an)]) (ap [af (bs [114]) 2 (⟨1,e0,0⟩:an)] []) (⟨[(⟨[3],[[1,2]]⟩:Ps)],[]⟩:Ns)).1).J)),(i6 ((au (ap [af (bs [114]) 2 (⟨1,e0,0⟩:an)] [ao (bs [109]) 2 (⟨1,e0,0⟩:an)]) (ap [af (bs [114]) 2 (⟨1,e0,0⟩:an)] []) (⟨[(⟨[3],[[1,2]]⟩:Ps)],[]⟩:Ns)).2))]),(.agg [(dL 2 bi a7 [(⟨[3],[]⟩:Ps)]),.nils,(i6 0)])] (Lb ((au (ap [af (bs [114]) 2 (⟨1,e0,0⟩:an)] [ao (bs [109]) 2 (⟨1,e0,0⟩:an)]) (ap [af (bs [114]) 2 (⟨1,e0,0⟩:an)] []) (⟨[(⟨[3],[[1,2]]⟩:Ps)],[]⟩:Ns)).1) (⟨[(⟨[3],[]⟩:Ps)],[]⟩:Ns) ((au (ap [af (bs [114]) 2 (⟨1,e0,0⟩:an)] [ao (bs [109]) 2 (⟨1,e0,0⟩:an)]) (ap [af (bs [114]) 2 (⟨1,e0,0⟩:an)] []) (⟨[(⟨[3],[[1,2]]⟩:Ps)],[]⟩:Ns)).2) 0).q'∧CC (Lb ((au (ap [af (bs [114]) 2 (⟨1,e0,0⟩:an)] [ao (bs [109]) 2 (⟨1,e0,0⟩:an)]) (ap [af (bs [114]) 2 (⟨1,e0,0⟩:an)] []) (⟨[(⟨[3],[[1,2]]⟩:Ps)],[]⟩:Ns)).1) (⟨[(⟨[3],[]⟩:Ps)],[]⟩:Ns) ((au (ap [af (bs [114]) 2 (⟨1,e0,0⟩:an)] [ao (bs [109]) 2 (⟨1,e0,0⟩:an)]) (ap [af (bs [114]) 2 (⟨1,e0,0⟩:an)] []) (⟨[(⟨[3],[[1,2]]⟩:Ps)],[]⟩:Ns)).2) 0))∧TT 1 ((True∧(!(gx ((au (ap [af (bs [114]) 2 (⟨1,e0,0⟩:an)] [ao (bs [109]) 2 (⟨1,e0,0⟩:an)]) (ap [af (bs [114]) 2 (⟨1,e0,0⟩:an)] []) (⟨[(⟨[3],[[1,2]]⟩:Ps)],[]⟩:Ns)).1) (⟨[(⟨[3],[]⟩:Ps)],[]⟩:Ns) ((au (ap [af (bs [114]) 2 (⟨1,e0,0⟩:an)] [ao (bs [109]) 2 (⟨1,e0,0⟩:an)]) (ap [af (bs [114]) 2 (⟨1,e0,0⟩:an)] []) (⟨[(⟨[3],[[1,2]]⟩:Ps)],[]⟩:Ns)).2) 0))=false)∧TT 1 (am [[(i6 1)]] ([1].map (ab .i64))∧am [[(i6 1)],[(i6 2)],[(i6 0)],[(i6 0)]] ([1,2,0,0].map (ab .i64))∧am [[(LI [1,2,0,0])]] ([[1,2,0,0]].map aa)∧TT 1 (am [[(LI [1]),(dL 1 aa [] [[1,2,0,0]])]] ([(⟨[1],[[1,2,0,0]]⟩:Ps)].map bi)∧TT 2 ((uB [] [(.agg [(dL 2 bi a7 (((au (ap [af (bs [114]) 2 (⟨1,e0,0⟩:an)] [ao (bs [109]) 2 (⟨1,e0,0⟩:an)]) (ap [af (bs [120]) 1 (⟨2,(bs [114]),0⟩:an)] [ao (bs [110]) 4 (⟨2,(bs [109]),0⟩:an)]) (⟨[(⟨[3],[[1,2]]⟩:Ps)],[]⟩:Ns)).1).U)),(dL 1 aa [] (((au (ap [af (bs [114]) 2 (⟨1,e0,0⟩:an)] [ao (bs [109]) 2 (⟨1,e0,0⟩:an)]) (ap [af (bs [120]) 1 (⟨2,(bs [114]),0⟩:an)] [ao (bs [110]) 4 (⟨2,(bs [109]),0⟩:an)]) (⟨[(⟨[3],[[1,2]]⟩:Ps)],[]⟩:Ns)).1).J)),(i6 ((au (ap [af (bs [114]) 2 (⟨1,e0,0⟩:an)] [ao (bs [109]) 2 (⟨1,e0,0⟩:an)]) (ap [af (bs [120]) 1 (⟨2,(bs [114]),0⟩:an)] [ao (bs [110]) 4 (⟨2,(bs [109]),0⟩:an)]) (⟨[(⟨[3],[[1,2]]⟩:Ps)],[]⟩:Ns)).2))]),(.agg [(dL 2 bi a7 [(⟨[1],[[1,2,0,0]]⟩:Ps)]),.nils,(i6 0)])] (Lb ((au (ap [af (bs [114]) 2 (⟨1,e0,0⟩:an)] [ao (bs [109]) 2 (⟨1,e0,0⟩:an)]) (ap [af (bs [120]) 1 (⟨2,(bs [114]),0⟩:an)] [ao (bs [110]) 4 (⟨2,(bs [109]),0⟩:an)]) (⟨[(⟨[3],[[1,2]]⟩:Ps)],[]⟩:Ns)).1) (⟨[(⟨[1],[[1,2,0,0]]⟩:Ps)],[]⟩:Ns) ((au (ap [af (bs [114]) 2 (⟨1,e0,0⟩:an)] [ao (bs [109]) 2 (⟨1,e0,0⟩:an)]) (ap [af (bs [120]) 1 (⟨2,(bs [114]),0⟩:an)] [ao (bs [110]) 4 (⟨2,(bs [109]),0⟩:an)]) (⟨[(⟨[3],[[1,2]]⟩:Ps)],[]⟩:Ns)).2) 0).q'∧CC (Lb ((au (ap [af (bs [114]) 2 (⟨1,e0,0⟩:an)] [ao (bs [109]) 2 (⟨1,e0,0⟩:an)]) (ap [af (bs [120]) 1 (⟨2,(bs [114]),0⟩:an)] [ao (bs [110]) 4 (⟨2,(bs [109]),0⟩:an)]) (⟨[(⟨[3],[[1,2]]⟩:Ps)],[]⟩:Ns)).1) (⟨[(⟨[1],[[1,2,0,0]]⟩:Ps)],[]⟩:Ns) ((au (ap [af (bs [114]) 2 (⟨1,e0,0⟩:an)] [ao (bs [109]) 2 (⟨1,e0,0⟩:an)]) (ap [af (bs [120]) 1 (⟨2,(bs [114]),0⟩:an)] [ao (bs [110]) 4 (⟨2,(bs [109]),0⟩:an)]) (⟨[(⟨[3],[[1,2]]⟩:Ps)],[]⟩:Ns)).2) 0))∧TT 2 ((True∧(!(gx ((au (ap [af (bs [114]) 2 (⟨1,e0,0⟩:an)] [ao (bs [109]) 2 (⟨1,e0,0⟩:an)]) (ap [af (bs [120]) 1 (⟨2,(bs [114]),0⟩:an)] [ao (bs [110]) 4 (⟨2,(bs [109]),0⟩:an)]) (⟨[(⟨[3],[[1,2]]⟩:Ps)],[]⟩:Ns)).1) (⟨[(⟨[1],[[1,2,0,0]]⟩:Ps)],[]⟩:Ns) ((au (ap [af (bs [114]) 2 (⟨1,e0,0⟩:an)] [ao (bs [109]) 2 (⟨1,e0,0⟩:an)]) (ap [af (bs [120]) 1 (⟨2,(bs [114]),0⟩:an)] [ao (bs [110]) 4 (⟨2,(bs [109]),0⟩:an)]) (⟨[(⟨[3],[[1,2]]⟩:Ps)],[]⟩:Ns)).2) 0))=false)∧TT 1 (am [[(i6 5)]] ([5].map (ab .i64))∧am [[(i6 2)],[(i6 3)],[(i6 1)],[(i6 1)]] ([2,3,1,1].map (ab .i64))∧am [[(LI [2,3,1,1])]] ([[2,3,1,1]].map aa)∧TT 1 (am [[(LI [5]),(dL 1 aa [] [[2,3,1,1]])]] ([(⟨[5],[[2,3,1,1]]⟩:Ps)].map bi)∧TT 2 ((uB [] [(.agg [(dL 2 bi a7 (((au (ap [af (bs [114]) 2 (⟨1,e0,0⟩:an)] [ao (bs [109]) 2 (⟨1,e0,0⟩:an)]) (ap [af (bs [120]) 3 (⟨3,(bs [114]),2⟩:an)] [ao (bs [110]) 4 (⟨3,(bs [109]),1⟩:an)]) (⟨[(⟨[3],[[1,2]]⟩:Ps)],[]⟩:Ns)).1).U)),(dL 1 aa [] (((au (ap [af (bs [114]) 2 (⟨1,e0,0⟩:an)] [ao (bs [109]) 2 (⟨1,e0,0⟩:an)]) (ap [af (bs [120]) 3 (⟨3,(bs [114]),2⟩:an)] [ao (bs [110]) 4 (⟨3,(bs [109]),1⟩:an)]) (⟨[(⟨[3],[[1,2]]⟩:Ps)],[]⟩:Ns)).1).J)),(i6 ((au (ap [af (bs [114]) 2 (⟨1,e0,0⟩:an)] [ao (bs [109]) 2 (⟨1,e0,0⟩:an)]) (ap [af (bs [120]) 3 (⟨3,(bs [114]),2⟩:an)] [ao (bs [110]) 4 (⟨3,(bs [109]),1⟩:an)]) (⟨[(⟨[3],[[1,2]]⟩:Ps)],[]⟩:Ns)).2))]),(.agg [(dL 2 bi a7 [(⟨[5],[[2,3,1,1]]⟩:Ps)]),.nils,(i6 0)])] (Lb ((au (ap [af (bs [114]) 2 (⟨1,e0,0⟩:an)] [ao (bs [109]) 2 (⟨1,e0,0⟩:an)]) (ap [af (bs [120]) 3 (⟨3,(bs [114]),2⟩:an)] [ao (bs [110]) 4 (⟨3,(bs [109]),1⟩:an)]) (⟨[(⟨[3],[[1,2]]⟩:Ps)],[]⟩:Ns)).1) (⟨[(⟨[5],[[2,3,1,1]]⟩:Ps)],[]⟩:Ns) ((au (ap [af (bs [114]) 2 (⟨1,e0,0⟩:an)] [ao (bs [109]) 2 (⟨1,e0,0⟩:an)]) (ap [af (bs [120]) 3 (⟨3,(bs [114]),2⟩:an)] [ao (bs [110]) 4 (⟨3,(bs [109]),1⟩:an)]) (⟨[(⟨[3],[[1,2]]⟩:Ps)],[]⟩:Ns)).2) 0).q'∧CC (Lb ((au (ap [af (bs [114]) 2 (⟨1,e0,0⟩:an)] [ao (bs [109]) 2 (⟨1,e0,0⟩:an)]) (ap [af (bs [120]) 3 (⟨3,(bs [114]),2⟩:an)] [ao (bs [110]) 4 (⟨3,(bs [109]),1⟩:an)]) (⟨[(⟨[3],[[1,2]]⟩:Ps)],[]⟩:Ns)).1) (⟨[(⟨[5],[[2,3,1,1]]⟩:Ps)],[]⟩:Ns) ((au (ap [af (bs [114]) 2 (⟨1,e0,0⟩:an)] [ao (bs [109]) 2 (⟨1,e0,0⟩:an)]) (ap [af (bs [120]) 3 (⟨3,(bs [114]),2⟩:an)] [ao (bs [110]) 4 (⟨3,(bs [109]),1⟩:an)]) (⟨[(⟨[3],[[1,2]]⟩:Ps)],[]⟩:Ns)).2) 0))∧TT 2 ((!(gx ((au (ap [af (bs [114]) 2 (⟨1,e0,0⟩:an)] [ao (bs [109]) 2 (⟨1,e0,0⟩:an)]) (ap [af (bs [120]) 3 (⟨3,(bs [114]),2⟩:an)] [ao (bs [110]) 4 (⟨3,(bs [109]),1⟩:an)]) (⟨[(⟨[3],[[1,2]]⟩:Ps)],[]⟩:Ns)).1) (⟨[(⟨[5],[[2,3,1,1]]⟩:Ps)],[]⟩:Ns) ((au (ap [af (bs [114]) 2 (⟨1,e0,0⟩:an)] [ao (bs [109]) 2 (⟨1,e0,0⟩:an)]) (ap [af (bs [120]) 3 (⟨3,(bs [114]),2⟩:an)] [ao (bs [110]) 4 (⟨3,(bs [109]),1⟩:an)]) (⟨[(⟨[3],[[1,2]]⟩:Ps)],[]⟩:Ns)).2) 0))=false∧Bt Tryz.prog 12 [.nils,.nils] xb gB jV jW (.agg [(.own 58),.nils])∧TT 9 (am [[(i6 0),(i6 2),(i6 1),(dS e0),(i6 0),(dS e0),(i6 1),(dS e0),.nils,(i6 1),(dS e0),(i6 0),(dS e0),(i6 2),(dS e0),.nils]] ([(⟨0,2,⟨1,e0,⟨0,e0⟩,⟨1,e0⟩,[]⟩,⟨1,e0,⟨0,e0⟩,⟨2,e0⟩,[]⟩⟩:Pt)].map dQ)∧IX 0 ([(⟨(bs [112]),(bs [97]),[],[],[],[]⟩:Pr)].length)∧TT 1 ((0<[(⟨(bs [112]),(bs [97]),[],[],[],[]⟩:Pr)].length∧([(⟨(bs [112]),(bs [97]),[],[],[],[]⟩:Pr)].map bG).set 0 ((bG ([(⟨(bs [112]),(bs [97]),[],[],[],[]⟩:Pr)].getD 0 ac)).take 5++[(.sl 16 dQ bt [(⟨0,2,⟨1,e0,⟨0,e0⟩,⟨1,e0⟩,[]⟩,⟨1,e0,⟨0,e0⟩,⟨2,e0⟩,[]⟩⟩:Pt)])]++(bG ([(⟨(bs [112]),(bs [97]),[],[],[],[]⟩:Pr)].getD 0 ac)).drop (5+1))=nj.U.map bG)∧TT 1 (am [[(dS (bs [99])),(i6 2),(i6 0),(i6 0),(i6 (-1))]] ([(⟨(bs [99]),2,0,0,(-1)⟩:Ch)].map ca)∧TT 3 (am [[.nils,.nils]] ([(⟨[],[]⟩:Ps)].map bi)∧am [[(i6 1)]] ([1].map (ab .i64))∧am [[(LI [1])]] ([[1]].map aa)∧TT 5 (CC (QV (ap [af (bs [114]) 2 (⟨1,e0,0⟩:an)] [ao (bs [109]) 2 (⟨1,e0,0⟩:an)]) (ap [af (bs [114]) 2 (⟨1,e0,0⟩:an)] [ao (bs [109]) 2 (⟨1,e0,0⟩:an)]))∧(True∧(d6 (ap [af (bs [114]) 2 (⟨1,e0,0⟩:an)] [ao (bs [109]) 2 (⟨1,e0,0⟩:an)]) (ap [af (bs [114]) 2 (⟨1,e0,0⟩:an)] [ao (bs [109]) 2 (⟨1,e0,0⟩:an)]))=true)∧TT 1 ((uB [] [.nils,.nils] (HQ [] []).q'∧CC (HQ [] []))∧CC (QV (ap [af (bs [114]) 2 (⟨1,e0,0⟩:an)] [ao (bs [109]) 2 (⟨1,e0,0⟩:an)]) (ap [] []))∧TT 2 ((True∧(!(d6 (ap [af (bs [114]) 2 (⟨1,e0,0⟩:an)] [ao (bs [109]) 2 (⟨1,e0,0⟩:an)]) (ap [] [])))=true)∧TT 3 ((uB [] [(.agg [(dL 6 bG ac nj.U),(dL 5 ca aK [(⟨(bs [99]),2,0,0,(-1)⟩:Ch)])]),(.agg [.nils,.nils]),(.agg [(dL 2 bi a7 [(⟨[],[]⟩:Ps)]),(dL 1 aa [] [[1]])])] (c7 (⟨nj.U,[(⟨(bs [99]),2,0,0,(-1)⟩:Ch)]⟩:Ci) (⟨[],[]⟩:Ci) (⟨[(⟨[],[]⟩:Ps)],[[1]]⟩:Ns)).q'∧CC (c7 (⟨nj.U,[(⟨(bs [99]),2,0,0,(-1)⟩:Ch)]⟩:Ci) (⟨[],[]⟩:Ci) (⟨[(⟨[],[]⟩:Ps)],[[1]]⟩:Ns)))∧TT 3 ((True∧(decide (((au (⟨nj.U,[(⟨(bs [99]),2,0,0,(-1)⟩:Ch)]⟩:Ci) (⟨[],[]⟩:Ci) (⟨[(⟨[],[]⟩:Ps)],[[1]]⟩:Ns)).2)=150))=true)∧TT 3 (CC (c7 (⟨nj.U,[(⟨(bs [99]),2,0,0,(-1)⟩:Ch)]⟩:Ci) (⟨nj.U,[(⟨(bs [99]),2,0,0,(-1)⟩:Ch)]⟩:Ci) (⟨[(⟨[],[]⟩:Ps)],[[1]]⟩:Ns))∧TT 3 ((True∧(decide (((au (⟨nj.U,[(⟨(bs [99]),2,0,0,(-1)⟩:Ch)]⟩:Ci) (⟨nj.U,[(⟨(bs [99]),2,0,0,(-1)⟩:Ch)]⟩:Ci) (⟨[(⟨[],[]⟩:Ps)],[[1]]⟩:Ns)).2)=0))=true)∧TT 2 ((uB [] [(.agg [(dL 6 bG ac nj.U),(dL 5 ca aK [(⟨(bs [99]),2,0,0,(-1)⟩:Ch)])]),(.agg [.nils,.nils])] (NA (⟨nj.U,[(⟨(bs [99]),2,0,0,(-1)⟩:Ch)]⟩:Ci) (⟨[],[]⟩:Ci)).q'∧CC (NA (⟨nj.U,[(⟨(bs [99]),2,0,0,(-1)⟩:Ch)]⟩:Ci) (⟨[],[]⟩:Ci)))∧am [[(dS (bs [99]))]] ([(bs [99])].map eo)∧CC (To (bv (⟨nj.U,[(⟨(bs [99]),2,0,0,(-1)⟩:Ch)]⟩:Ci) (⟨[],[]⟩:Ci) (⟨nj.U,[(⟨(bs [99]),2,0,0,(-1)⟩:Ch)]⟩:Ci).J.length) [(bs [99])])∧TT 3 ((decide ((bv (⟨nj.U,[(⟨(bs [99]),2,0,0,(-1)⟩:Ch)]⟩:Ci) (⟨[],[]⟩:Ci) (⟨nj.U,[(⟨(bs [99]),2,0,0,(-1)⟩:Ch)]⟩:Ci).J.length)=[(bs [99])]))=true∧True)))))))))))))))))))))))))))))))))))))) (.w 3 [(1,(MZ (bs [114]) 2 (⟨1,e0,0⟩:an)).O),(2,.box 60 13 bO aI [af (bs [114]) 2 (⟨1,e0,0⟩:an)]),(4,(Pp (bs [109]) 2 (⟨1,e0,0⟩:an)).O),(5,.box 64 27 b8 ay [ao (bs [109]) 2 (⟨1,e0,0⟩:an)]),(6,(HQ [af (bs [114]) 2 (⟨1,e0,0⟩:an)] [ao (bs [109]) 2 (⟨1,e0,0⟩:an)]).O)]<|.w 4 [(0,.frz 3 1 (ab .i64) 0 [3]),(1,.frz 3 1 (ab .i64) 0 [1,2]),(2,.frz 67 1 aa [] [[1,2]]),(4,.frz 69 2 bi a7 [(⟨[3],[[1,2]]⟩:Ps)])]<|.w 5 [(2,(MZ (bs [114]) 2 (⟨1,e0,0⟩:an)).O),(3,.box 60 13 bO aI [af (bs [114]) 2 (⟨1,e0,0⟩:an)]),(4,(HQ [af (bs [114]) 2 (⟨1,e0,0⟩:an)] []).O'),(6,(c7 (ap [af (bs [114]) 2 (⟨1,e0,0⟩:an)] [ao (bs [109]) 2 (⟨1,e0,0⟩:an)]) (ap [af (bs [114]) 2 (⟨1,e0,0⟩:an)] []) (⟨[(⟨[3],[[1,2]]⟩:Ps)],[]⟩:Ns)).O')]<|.w 6 [(2,(MZ (bs [120]) 1 (⟨2,(bs [114]),0⟩:an)).O),(3,.box 60 13 bO aI [af (bs [120]) 1 (⟨2,(bs [114]),0⟩:an)]),(5,(Pp (bs [110]) 4 (⟨2,(bs [109]),0⟩:an)).O),(6,.box 64 27 b8 ay [ao (bs [110]) 4 (⟨2,(bs [109]),0⟩:an)]),(7,(HQ [af (bs [120]) 1 (⟨2,(bs [114]),0⟩:an)] [ao (bs [110]) 4 (⟨2,(bs [109]),0⟩:an)]).O),(9,(c7 (ap [af (bs [114]) 2 (⟨1,e0,0⟩:an)] [ao (bs [109]) 2 (⟨1,e0,0⟩:an)]) (ap [af (bs [120]) 1 (⟨2,(bs [114]),0⟩:an)] [ao (bs [110]) 4 (⟨2,(bs [109]),0⟩:an)]) (⟨[(⟨[3],[[1,2]]⟩:Ps)],[]⟩:Ns)).O')]<|.w 7 [(2,(MZ (bs [120]) 3 (⟨3,(bs [114]),2⟩:an)).O),(3,.box 60 13 bO aI [af (bs [120]) 3 (⟨3,(bs [114]),2⟩:an)]),(5,(Pp (bs [110]) 4 (⟨3,(bs [109]),1⟩:an)).O),(6,.box 64 27 b8 ay [ao (bs [110]) 4 (⟨3,(bs [109]),1⟩:an)]),(7,(HQ [af (bs [120]) 3 (⟨3,(bs [114]),2⟩:an)] [ao (bs [110]) 4 (⟨3,(bs [109]),1⟩:an)]).O),(9,(c7 (ap [af (bs [114]) 2 (⟨1,e0,0⟩:an)] [ao (bs [109]) 2 (⟨1,e0,0⟩:an)]) (ap [af (bs [120]) 3 (⟨3,(bs [114]),2⟩:an)] [ao (bs [110]) 4 (⟨3,(bs [109]),1⟩:an)]) (⟨[(⟨[3],[[1,2]]⟩:Ps)],[]⟩:Ns)).O')]<|.w 8 [(1,.frz 3 1 (ab .i64) 0 [3]),(3,.frz 69 2 bi a7 [(⟨[3],[]⟩:Ps)]),(6,(Lb ((au (ap [af (bs [114]) 2 (⟨1,e0,0⟩:an)] [ao (bs [109]) 2 (⟨1,e0,0⟩:an)]) (ap [af (bs [114]) 2 (⟨1,e0,0⟩:an)] []) (⟨[(⟨[3],[[1,2]]⟩:Ps)],[]⟩:Ns)).1) (⟨[(⟨[3],[]⟩:Ps)],[]⟩:Ns) ((au (ap [af (bs [114]) 2 (⟨1,e0,0⟩:an)] [ao (bs [109]) 2 (⟨1,e0,0⟩:an)]) (ap [af (bs [114]) 2 (⟨1,e0,0⟩:an)] []) (⟨[(⟨[3],[[1,2]]⟩:Ps)],[]⟩:Ns)).2) 0).O'),(8,.val (dB false)),(10,.frz 3 1 (ab .i64) 0 [1]),(11,.frz 3 1 (ab .i64) 0 [1,2,0,0]),(12,.frz 67 1 aa [] [[1,2,0,0]]),(14,.frz 69 2 bi a7 [(⟨[1],[[1,2,0,0]]⟩:Ps)]),(17,(Lb ((au (ap [af (bs [114]) 2 (⟨1,e0,0⟩:an)] [ao (bs [109]) 2 (⟨1,e0,0⟩:an)]) (ap [af (bs [120]) 1 (⟨2,(bs [114]),0⟩:an)] [ao (bs [110]) 4 (⟨2,(bs [109]),0⟩:an)]) (⟨[(⟨[3],[[1,2]]⟩:Ps)],[]⟩:Ns)).1) (⟨[(⟨[1],[[1,2,0,0]]⟩:Ps)],[]⟩:Ns) ((au (ap [af (bs [114]) 2 (⟨1,e0,0⟩:an)] [ao (bs [109]) 2 (⟨1,e0,0⟩:an)]) (ap [af (bs [120]) 1 (⟨2,(bs [114]),0⟩:an)] [ao (bs [110]) 4 (⟨2,(bs [109]),0⟩:an)]) (⟨[(⟨[3],[[1,2]]⟩:Ps)],[]⟩:Ns)).2) 0).O'),(20,.val (dB false)),(22,.frz 3 1 (ab .i64) 0 [5]),(23,.frz 3 1 (ab .i64) 0 [2,3,1,1]),(24,.frz 67 1 aa [] [[2,3,1,1]]),(26,.frz 69 2 bi a7 [(⟨[5],[[2,3,1,1]]⟩:Ps)]),(29,(Lb ((au (ap [af (bs [114]) 2 (⟨1,e0,0⟩:an)] [ao (bs [109]) 2 (⟨1,e0,0⟩:an)]) (ap [af (bs [120]) 3 (⟨3,(bs [114]),2⟩:an)] [ao (bs [110]) 4 (⟨3,(bs [109]),1⟩:an)]) (⟨[(⟨[3],[[1,2]]⟩:Ps)],[]⟩:Ns)).1) (⟨[(⟨[5],[[2,3,1,1]]⟩:Ps)],[]⟩:Ns) ((au (ap [af (bs [114]) 2 (⟨1,e0,0⟩:an)] [ao (bs [109]) 2 (⟨1,e0,0⟩:an)]) (ap [af (bs [120]) 3 (⟨3,(bs [114]),2⟩:an)] [ao (bs [110]) 4 (⟨3,(bs [109]),1⟩:an)]) (⟨[(⟨[3],[[1,2]]⟩:Ps)],[]⟩:Ns)).2) 0).O')]<|.u 85 (.q 10 [4] 56<|.w 10 [(0,.inl (.agg [(.own 58),.nils]) gB (jV++.dead::jW))]<|.w 11 [(7,.frz 72 16 dQ bt [(⟨0,2,⟨1,e0,⟨0,e0⟩,⟨1,e0⟩,[]⟩,⟨1,e0,⟨0,e0⟩,⟨2,e0⟩,[]⟩⟩:Pt)]),(10,.box 76 6 bG ac nj.U)]<|.w 12 [(1,.frz 78 5 ca aK [(⟨(bs [99]),2,0,0,(-1)⟩:Ch)])]<|.w 13 [(1,.frz 69 2 bi a7 [(⟨[],[]⟩:Ps)]),(2,.frz 3 1 (ab .i64) 0 [1]),(3,.frz 67 1 aa [] [[1]])]<|.f 14 58<|.w 14 [(2,(QV (ap [af (bs [114]) 2 (⟨1,e0,0⟩:an)] [ao (bs [109]) 2 (⟨1,e0,0⟩:an)]) (ap [af (bs [114]) 2 (⟨1,e0,0⟩:an)] [ao (bs [109]) 2 (⟨1,e0,0⟩:an)])).O),(3,.val (dB true)),(5,(HQ [] []).O'),(6,(QV (ap [af (bs [114]) 2 (⟨1,e0,0⟩:an)] [ao (bs [109]) 2 (⟨1,e0,0⟩:an)]) (ap [] [])).O),(9,.val (dB true)),(13,(c7 (⟨nj.U,[(⟨(bs [99]),2,0,0,(-1)⟩:Ch)]⟩:Ci) (⟨[],[]⟩:Ci) (⟨[(⟨[],[]⟩:Ps)],[[1]]⟩:Ns)).O'),(17,.val (dB true)),(21,(c7 (⟨nj.U,[(⟨(bs [99]),2,0,0,(-1)⟩:Ch)]⟩:Ci) (⟨nj.U,[(⟨(bs [99]),2,0,0,(-1)⟩:Ch)]⟩:Ci) (⟨[(⟨[],[]⟩:Ps)],[[1]]⟩:Ns)).O),(25,.val (dB true)),(28,(NA (⟨nj.U,[(⟨(bs [99]),2,0,0,(-1)⟩:Ch)]⟩:Ci) (⟨[],[]⟩:Ci)).O'),(29,.box 9 1 eo .empty [(bs [99])]),(30,(To (bv (⟨nj.U,[(⟨(bs [99]),2,0,0,(-1)⟩:Ch)]⟩:Ci) (⟨[],[]⟩:Ci) (⟨nj.U,[(⟨(bs [99]),2,0,0,(-1)⟩:Ch)]⟩:Ci).J.length) [(bs [99])]).O)]<|.e)) Tryz.func4 rfl rfl rfl (by kernel_rfl) ?_
 refine tt ⟨(AO (bs [114]) 2 (⟨1,e0,0⟩:an)),⟨⟨⟨rfl,rfl,rfl,rfl,rfl,rfl,rfl,rfl,rfl,rfl,rfl,rfl,rfl,oK⟩,oK⟩,tt ⟨(KP (bs [109]) 2 (⟨1,e0,0⟩:an)),⟨⟨⟨rfl,rfl,rfl,rfl,rfl,rfl,rfl,rfl,rfl,rfl,rfl,rfl,rfl,rfl,rfl,rfl,rfl,rfl,rfl,rfl,rfl,rfl,rfl,rfl,rfl,rfl,rfl,oK⟩,oK⟩,⟨(oJ [af (bs [114]) 2 (⟨1,e0,0⟩:an)] [ao (bs [109]) 2 (⟨1,e0,0⟩:an)]),tt ⟨⟨⟨rfl,oK⟩,oK⟩,⟨⟨⟨rfl,oK⟩,⟨rfl,oK⟩,oK⟩,⟨⟨⟨rfl,oK⟩,oK⟩,tt ⟨⟨⟨rfl,rfl,oK⟩,oK⟩,tt ⟨(AO (bs [114]) 2 (⟨1,e0,0⟩:an)),⟨⟨⟨rfl,rfl,rfl,rfl,rfl,rfl,rfl,rfl,rfl,rfl,rfl,rfl,rfl,oK⟩,oK⟩,⟨⟨⟨rfl,rfl,oK⟩,(oJ [af (bs [114]) 2 (⟨1,e0,0⟩:an)] [])⟩,tt ⟨⟨⟨⟨rfl,rfl,oK⟩,⟨rfl,rfl,oK⟩,⟨rfl,rfl,oK⟩,oK⟩,(lG (ap [af (bs [114]) 2 (⟨1,e0,0⟩:an)] [ao (bs [109]) 2 (⟨1,e0,0⟩:an)]) (ap [af (bs [114]) 2 (⟨1,e0,0⟩:an)] []) (⟨[(⟨[3],[[1,2]]⟩:Ps)],[]⟩:Ns) RI)⟩,tt ⟨(AO (bs [120]) 1 (⟨2,(bs [114]),0⟩:an)),⟨⟨⟨rfl,rfl,rfl,rfl,rfl,rfl,rfl,rfl,rfl,rfl,rfl,rfl,rfl,oK⟩,oK⟩,tt ⟨(KP (bs [110]) 4 (⟨2,(bs [109]),0⟩:an)),⟨⟨⟨rfl,rfl,rfl,rfl,rfl,rfl,rfl,rfl,rfl,rfl,rfl,rfl,rfl,rfl,rfl,rfl,rfl,rfl,rfl,rfl,rfl,rfl,rfl,rfl,rfl,rfl,rfl,oK⟩,oK⟩,⟨(oJ [af (bs [120]) 1 (⟨2,(bs [114]),0⟩:an)] [ao (bs [110]) 4 (⟨2,(bs [109]),0⟩:an)]),tt ⟨⟨⟨⟨rfl,rfl,oK⟩,⟨rfl,rfl,oK⟩,⟨rfl,rfl,oK⟩,oK⟩,(lG (ap [af (bs [114]) 2 (⟨1,e0,0⟩:an)] [ao (bs [109]) 2 (⟨1,e0,0⟩:an)]) (ap [af (bs [120]) 1 (⟨2,(bs [114]),0⟩:an)] [ao (bs [110]) 4 (⟨2,(bs [109]),0⟩:an)]) (⟨[(⟨[3],[[1,2]]⟩:Ps)],[]⟩:Ns) RJ)⟩,tt ⟨(AO (bs [120]) 3 (⟨3,(bs [114]),2⟩:an)),⟨⟨⟨rfl,rfl,rfl,rfl,rfl,rfl,rfl,rfl,rfl,rfl,rfl,rfl,rfl,oK⟩,oK⟩,tt ⟨(KP (bs [110]) 4 (⟨3,(bs [109]),1⟩:an)),⟨⟨⟨rfl,rfl,rfl,rfl,rfl,rfl,rfl,rfl,rfl,rfl,rfl,rfl,rfl,rfl,rfl,rfl,rfl,rfl,rfl,rfl,rfl,rfl,rfl,rfl,rfl,rfl,rfl,oK⟩,oK⟩,⟨(oJ [af (bs [120]) 3 (⟨3,(bs [114]),2⟩:an)] [ao (bs [110]) 4 (⟨3,(bs [109]),1⟩:an)]),tt ⟨⟨⟨⟨rfl,rfl,oK⟩,⟨rfl,rfl,oK⟩,⟨rfl,rfl,oK⟩,oK⟩,(lG (ap [af (bs [114]) 2 (⟨1,e0,0⟩:an)] [ao (bs [109]) 2 (⟨1,e0,0⟩:an)]) (ap [af (bs [120]) 3 (⟨3,(bs [114]),2⟩:an)] [ao (bs [110]) 4 (⟨3,(bs [109]),1⟩:an)]) (⟨[(⟨[3],[[1,2]]⟩:Ps)],[]⟩:Ns) RK)⟩,tt ⟨⟨⟨rfl,oK⟩,oK⟩,tt ⟨⟨⟨rfl,rfl,oK⟩,oK⟩,tt ⟨⟨⟨⟨rfl,rfl,rfl,oK⟩,⟨rfl,rfl,rfl,oK⟩,oK⟩,(AN ((au (ap [af (bs [114]) 2 (⟨1,e0,0⟩:an)] [ao (bs [109]) 2 (⟨1,e0,0⟩:an)]) (ap [af (bs [114]) 2 (⟨1,e0,0⟩:an)] []) (⟨[(⟨[3],[[1,2]]⟩:Ps)],[]⟩:Ns)).1) (⟨[(⟨[3],[]⟩:Ps)],[]⟩:Ns) ((au (ap [af (bs [114]) 2 (⟨1,e0,0⟩:an)] [ao (bs [109]) 2 (⟨1,e0,0⟩:an)]) (ap [af (bs [114]) 2 (⟨1,e0,0⟩:an)] []) (⟨[(⟨[3],[[1,2]]⟩:Ps)],[]⟩:Ns)).2) 0 RQ)⟩,tt ⟨(mF RN),tt ⟨⟨⟨rfl,oK⟩,oK⟩,⟨⟨⟨rfl,oK⟩,⟨rfl,oK⟩,⟨rfl,oK⟩,⟨rfl,oK⟩,oK⟩,⟨⟨⟨rfl,oK⟩,oK⟩,tt ⟨⟨⟨rfl,rfl,oK⟩,oK⟩,tt ⟨⟨⟨⟨rfl,rfl,rfl,oK⟩,⟨rfl,rfl,rfl,oK⟩,oK⟩,(AN ((au (ap [af (bs [114]) 2 (⟨1,e0,0⟩:an)] [ao (bs [109]) 2 (⟨1,e0,0⟩:an)]) (ap [af (bs [120]) 1 (⟨2,(bs [114]),0⟩:an)] [ao (bs [110]) 4 (⟨2,(bs [109]),0⟩:an)]) (⟨[(⟨[3],[[1,2]]⟩:Ps)],[]⟩:Ns)).1) (⟨[(⟨[1],[[1,2,0,0]]⟩:Ps)],[]⟩:Ns) ((au (ap [af (bs [114]) 2 (⟨1,e0,0⟩:an)] [ao (bs [109]) 2 (⟨1,e0,0⟩:an)]) (ap [af (bs [120]) 1 (⟨2,(bs [114]),0⟩:an)] [ao (bs [110]) 4 (⟨2,(bs [109]),0⟩:an)]) (⟨[(⟨[3],[[1,2]]⟩:Ps)],[]⟩:Ns)).2) 0 RR)⟩,tt ⟨(mF RO),tt ⟨⟨⟨rfl,oK⟩,oK⟩,⟨⟨⟨rfl,oK⟩,⟨rfl,oK⟩,⟨rfl,oK⟩,⟨rfl,oK⟩,oK⟩,⟨⟨⟨rfl,oK⟩,oK⟩,tt ⟨⟨⟨rfl,rfl,oK⟩,oK⟩,tt ⟨⟨⟨⟨rfl,rfl,rfl,oK⟩,⟨rfl,rfl,rfl,oK⟩,oK⟩,(AN ((au (ap [af (bs [114]) 2 (⟨1,e0,0⟩:an)] [ao (bs [109]) 2 (⟨1,e0,0⟩:an)]) (ap [af (bs [120]) 3 (⟨3,(bs [114]),2⟩:an)] [ao (bs [110]) 4 (⟨3,(bs [109]),1⟩:an)]) (⟨[(⟨[3],[[1,2]]⟩:Ps)],[]⟩:Ns)).1) (⟨[(⟨[5],[[2,3,1,1]]⟩:Ps)],[]⟩:Ns) ((au (ap [af (bs [114]) 2 (⟨1,e0,0⟩:an)] [ao (bs [109]) 2 (⟨1,e0,0⟩:an)]) (ap [af (bs [120]) 3 (⟨3,(bs [114]),2⟩:an)] [ao (bs [110]) 4 (⟨3,(bs [109]),1⟩:an)]) (⟨[(⟨[3],[[1,2]]⟩:Ps)],[]⟩:Ns)).2) 0 RS)⟩,tt ⟨(ya RP),⟨?_,?_⟩⟩⟩⟩⟩⟩⟩⟩⟩⟩⟩⟩⟩⟩⟩⟩⟩⟩⟩⟩⟩⟩⟩⟩⟩⟩⟩⟩⟩⟩⟩⟩⟩⟩⟩⟩⟩⟩⟩⟩⟩⟩
 · intro WI
   refine j8.vc (V:=TT 4 (am [[(dS (bs [112])),(dS (bs [97])),.nils,.nils,.nils,.nils]] ([(⟨(bs [112]),(bs [97]),[],[],[],[]⟩:Pr)].map bG)∧TT 3 (((((.own 58):D)=(.own 58)∧(.nils:D)=.nils∧True))∧([(.var 52 [(i6 1),(dS e0),(i6 0)]),(.var 52 [(i6 2),(dS (bs [114])),(i6 0)]),(.var 52 [(i6 3),(dS (bs [114])),(i6 2)]),.dead,.dead,.dead,.dead,.dead,.dead,.dead,(.var 32 [(dL 6 bG ac ((ap [af (bs [114]) 2 (⟨1,e0,0⟩:an)] [ao (bs [109]) 2 (⟨1,e0,0⟩:an)]).U)),(dL 5 ca aK ((ap [af (bs [114]) 2 (⟨1,e0,0⟩:an)] [ao (bs [109]) 2 (⟨1,e0,0⟩:an)]).J))]),.dead,.dead,.dead,.dead,(.var 36 [(dL 2 bi a7 [(⟨[3],[[1,2]]⟩:Ps)]),.nils]),.dead,.dead,.dead,.dead,.dead,.dead,.dead,(.var 43 [(dL 2 bi a7 (((au (ap [af (bs [114]) 2 (⟨1,e0,0⟩:an)] [ao (bs [109]) 2 (⟨1,e0,0⟩:an)]) (ap [af (bs [114]) 2 (⟨1,e0,0⟩:an)] []) (⟨[(⟨[3],[[1,2]]⟩:Ps)],[]⟩:Ns)).1).U)),(dL 1 aa [] (((au (ap [af (bs [114]) 2 (⟨1,e0,0⟩:an)] [ao (bs [109]) 2 (⟨1,e0,0⟩:an)]) (ap [af (bs [114]) 2 (⟨1,e0,0⟩:an)] []) (⟨[(⟨[3],[[1,2]]⟩:Ps)],[]⟩:Ns)).1).J)),(i6 ((au (ap [af (bs [114]) 2 (⟨1,e0,0⟩:an)] [ao (bs [109]) 2 (⟨1,e0,0⟩:an)]) (ap [af (bs [114]) 2 (⟨1,e0,0⟩:an)] []) (⟨[(⟨[3],[[1,2]]⟩:Ps)],[]⟩:Ns)).2))]),.dead,.dead,.dead,.dead,.dead,.dead,.dead,.dead,.dead,.dead,(.var 43 [(dL 2 bi a7 (((au (ap [af (bs [114]) 2 (⟨1,e0,0⟩:an)] [ao (bs [109]) 2 (⟨1,e0,0⟩:an)]) (ap [af (bs [120]) 1 (⟨2,(bs [114]),0⟩:an)] [ao (bs [110]) 4 (⟨2,(bs [109]),0⟩:an)]) (⟨[(⟨[3],[[1,2]]⟩:Ps)],[]⟩:Ns)).1).U)),(dL 1 aa [] (((au (ap [af (bs [114]) 2 (⟨1,e0,0⟩:an)] [ao (bs [109]) 2 (⟨1,e0,0⟩:an)]) (ap [af (bs [120]) 1 (⟨2,(bs [114]),0⟩:an)] [ao (bs [110]) 4 (⟨2,(bs [109]),0⟩:an)]) (⟨[(⟨[3],[[1,2]]⟩:Ps)],[]⟩:Ns)).1).J)),(i6 ((au (ap [af (bs [114]) 2 (⟨1,e0,0⟩:an)] [ao (bs [109]) 2 (⟨1,e0,0⟩:an)]) (ap [af (bs [120]) 1 (⟨2,(bs [114]),0⟩:an)] [ao (bs [110]) 4 (⟨2,(bs [109]),0⟩:an)]) (⟨[(⟨[3],[[1,2]]⟩:Ps)],[]⟩:Ns)).2))]),.dead,.dead,.dead,.dead,.dead,.dead,.dead,.dead,.dead,.dead,(.var 43 [(dL 2 bi a7 (((au (ap [af (bs [114]) 2 (⟨1,e0,0⟩:an)] [ao (bs [109]) 2 (⟨1,e0,0⟩:an)]) (ap [af (bs [120]) 3 (⟨3,(bs [114]),2⟩:an)] [ao (bs [110]) 4 (⟨3,(bs [109]),1⟩:an)]) (⟨[(⟨[3],[[1,2]]⟩:Ps)],[]⟩:Ns)).1).U)),(dL 1 aa [] (((au (ap [af (bs [114]) 2 (⟨1,e0,0⟩:an)] [ao (bs [109]) 2 (⟨1,e0,0⟩:an)]) (ap [af (bs [120]) 3 (⟨3,(bs [114]),2⟩:an)] [ao (bs [110]) 4 (⟨3,(bs [109]),1⟩:an)]) (⟨[(⟨[3],[[1,2]]⟩:Ps)],[]⟩:Ns)).1).J)),(i6 ((au (ap [af (bs [114]) 2 (⟨1,e0,0⟩:an)] [ao (bs [109]) 2 (⟨1,e0,0⟩:an)]) (ap [af (bs [120]) 3 (⟨3,(bs [114]),2⟩:an)] [ao (bs [110]) 4 (⟨3,(bs [109]),1⟩:an)]) (⟨[(⟨[3],[[1,2]]⟩:Ps)],[]⟩:Ns)).2))]),.dead,.dead,.dead,.dead,.dead,.dead,.dead,.dead,.dead,.dead,.frame WI gB,(.var 32 [(.own 58),.nils]),(.arr 76 6 bG ac [(⟨(bs [112]),(bs [97]),[],[],[],[]⟩:Pr)])]:List aC)=jV++.frame WI gB::jW))) (.w 1 [(3,.box 76 6 bG ac [(⟨(bs [112]),(bs [97]),[],[],[],[]⟩:Pr)])]<|.e) Tryz.func12 rfl rfl (by kernel_rfl) ?_
   exact tt ⟨⟨⟨rfl,rfl,rfl,rfl,rfl,rfl,oK⟩,oK⟩,tt ⟨⟨rfl,rfl,oK⟩,rfl⟩⟩
 refine tt ⟨⟨⟨rfl,rfl,rfl,rfl,rfl,rfl,rfl,rfl,rfl,rfl,rfl,rfl,rfl,rfl,rfl,rfl,oK⟩,oK⟩,⟨(by decide),tt ⟨⟨by decide,rfl⟩,tt ⟨⟨⟨rfl,rfl,rfl,rfl,rfl,oK⟩,oK⟩,tt ⟨⟨⟨rfl,rfl,oK⟩,oK⟩,⟨⟨⟨rfl,oK⟩,oK⟩,⟨⟨⟨rfl,oK⟩,oK⟩,tt ⟨(Gd (ap [af (bs [114]) 2 (⟨1,e0,0⟩:an)] [ao (bs [109]) 2 (⟨1,e0,0⟩:an)]) (ap [af (bs [114]) 2 (⟨1,e0,0⟩:an)] [ao (bs [109]) 2 (⟨1,e0,0⟩:an)]) (by decide) (by decide) (by decide) (by decide) OQ OQ),⟨(bT T9),tt ⟨⟨⟨rfl,rfl,oK⟩,(oJ [] [])⟩,⟨(Gd (ap [af (bs [114]) 2 (⟨1,e0,0⟩:an)] [ao (bs [109]) 2 (⟨1,e0,0⟩:an)]) (ap [] []) (by decide) (by decide) (by decide) (by decide) OQ RU),tt ⟨(mT RT),tt ⟨⟨⟨⟨rfl,rfl,oK⟩,⟨rfl,rfl,oK⟩,⟨rfl,rfl,oK⟩,oK⟩,(lG (⟨nj.U,[(⟨(bs [99]),2,0,0,(-1)⟩:Ch)]⟩:Ci) (⟨[],[]⟩:Ci) (⟨[(⟨[],[]⟩:Ps)],[[1]]⟩:Ns) RL)⟩,tt ⟨(vT T6),tt ⟨(lG (⟨nj.U,[(⟨(bs [99]),2,0,0,(-1)⟩:Ch)]⟩:Ci) (⟨nj.U,[(⟨(bs [99]),2,0,0,(-1)⟩:Ch)]⟩:Ci) (⟨[(⟨[],[]⟩:Ps)],[[1]]⟩:Ns) RM),tt ⟨(vT T7),tt ⟨⟨⟨⟨rfl,rfl,oK⟩,⟨rfl,rfl,oK⟩,oK⟩,(t7 (⟨nj.U,[(⟨(bs [99]),2,0,0,(-1)⟩:Ch)]⟩:Ci) (⟨[],[]⟩:Ci) (by decide) (by decide))⟩,⟨⟨⟨rfl,oK⟩,oK⟩,⟨(Po (bv (⟨nj.U,[(⟨(bs [99]),2,0,0,(-1)⟩:Ch)]⟩:Ci) (⟨[],[]⟩:Ci) (⟨nj.U,[(⟨(bs [99]),2,0,0,(-1)⟩:Ch)]⟩:Ci).J.length) [(bs [99])] (by decide)),tt ⟨?_,oK⟩⟩⟩⟩⟩⟩⟩⟩⟩⟩⟩⟩⟩⟩⟩⟩⟩⟩⟩⟩
 exact Uz T8
theorem KQ {v w:Int} (h:dR v w) (hw:ax w=true):nb v w=v:=by
 have hw:=aQ.1 hw
 obtain⟨h0,h1⟩:=h
 rw[da (by omega) (by omega)]at h1
 unfold nb
 rw[Uw (by omega)]
 exact Int.emod_eq_of_lt h0 (by omega)
theorem s7 {α:Type} {f:Nat→α} {l:List α} {n:Nat} (d:α) (hl:l.length=n) (h:∀i,i<n→f i=l.getD i d):tab f n=l:=by
 subst hl
 apply Vt (aJ _ _)
 intro i h1 h2
 have:=aX (f:=f) (n:=l.length) (d:=d) h2
 rw[bJ _ _ h1,h i h2,bJ _ _ h2]at this
 exact this
theorem KR {a b:Ps} (h1:a.Ul=b.Ul) (h2:a.Uk=b.Uk):a=b:=by cases a;cases b;simp_all
def Gx (c:Ci):Prop:=∀n,n<c.J.length→0<(fy c n).cap→0≤(fy c n).frm∧0≤(fy c n).dst
theorem KS (sh:Int) (b:List Int):Gx (aF sh b):=by
 intro n hn h
 rw[(jn sh b).2]at hn
 have e:fy (aF sh b) n=vH sh (aj sh) n:=aX hn
 rw[e]at h ⊢
 have h:0<(if 0≤yA (aj sh) n (aj sh).length∧0≤yz (aj sh) n (aj sh).length then 1+(sh / 6+n)%3 else 0):=h
 split at h
 ·rename_i hh;exact hh
 ·omega
theorem KT {o:Ci} (no:kM o) {i:Nat} (hi:i<o.U.length) {k:ByteArray} (e:jG o i=k):BR o k=(i:Int):=by
 rw[← e];exact tZ no.pn hi
theorem iI {α β:Type} {f:α→β} {l:List α} {i:Nat} {d:α} {d':β} (h:i<l.length):(l.map f).getD i d'=f (l.getD i d):=by
 rw[bJ _ _ (by rw[UB];exact h),bJ _ _ h,Wj]
theorem M0 {p q:Pr} (h:cM p q) {s:Ps} (hs:ni p s):ni q s:=by
 refine⟨by rw[h.rl];exact hs.rl,fun i hi=>?_,by rw[h.ml];exact hs.ml,fun i hi=>?_,fun i hi j hj=>?_⟩
 ·rw[h.rl]at hi;have:=hs.rv i hi;have e:=(h.rg i).1;unfold sd at *;rw[e];exact this
 ·rw[h.ml]at hi;have:=hs.mn i hi;have e:=(h.mm i).2.1;unfold fK at *;rw[e];exact this
 ·rw[h.ml]at hi;have:=hs.mv i hi j hj;have e:=(h.mm i).1;unfold fK at *;rw[e];exact this
theorem vR {α β:Type} (f:α→β) (l:List α) (d:α):tab (fun i=>f (l.getD i d)) l.length=l.map f:=by
 apply Vt (by rw[aJ,UB])
 intro i h1 h2
 have h3:i<l.length:=by rw[aJ]at h1;exact h1
 have:=aX (f:=fun i=>f (l.getD i d)) (n:=l.length) (d:=f d) h3
 rw[bJ _ _ h1]at this
 rw[this,Wj,bJ _ _ h3]
def u9 (fR:Rg→Rg) (fM:Mm→Mm) (p:Pr):Pr:={ p with Ul:=p.Ul.map fR,Uk:=p.Uk.map fM }
def Eo (fR:Rg→Rg) (fM:Mm→Mm) (c:Ci):Ci:=⟨tab (fun i=>u9 fR fM (c.U.getD i ac)) c.U.length,c.J⟩
def PH:ByteArray:=bs [110,101,119]
def mW (x:Rg):Rg:={ x with name:=PH++x.name,Un:=⟨2,x.name,0⟩ }
def mX (x:Mm):Mm:={ x with name:=PH++x.name,Un:=⟨2,x.name,0⟩ }
def bo (c:Ci):Ci:=Eo mW mX c
structure Ep (fR:Rg→Rg) (fM:Mm→Mm):Prop where
 rg:∀x,(fR x).w=x.w∧(fR x).init=x.init∧(fR x).next=x.next
 mm:∀x,(fM x).w=x.w∧(fM x).Um=x.Um∧(fM x).enable=x.enable∧(fM x).addr=x.addr∧(fM x).data=x.data
theorem xc:Ep mW mX:=⟨fun _=>⟨rfl,rfl,rfl⟩,fun _=>⟨rfl,rfl,rfl,rfl,rfl⟩⟩
section
variable {fR:Rg→Rg} {fM:Mm→Mm} {c:Ci}
theorem yU {i:Nat} (h:i<c.U.length):a9 (Eo fR fM c) i=u9 fR fM (a9 c i):=aX h
theorem un {i:Nat} (h:¬i<c.U.length):a9 (Eo fR fM c) i=ac∧a9 c i=ac:=⟨oY (by omega),gw (by omega)⟩
theorem KU (hm:Ep fR fM) (p:Pr):cM p (u9 fR fM p):=by
 refine⟨UB _,UB _,fun j=>?_,fun j=>?_,rfl,rfl⟩
 ·by_cases hj:j<p.Ul.length
  ·rw[show(u9 fR fM p).Ul.getD j aI=fR (p.Ul.getD j aI)from iI hj];exact hm.rg _
  ·rw[show(u9 fR fM p).Ul.getD j aI=aI from gw (by show(p.Ul.map _).length≤j;rw[UB];omega),show p.Ul.getD j aI=aI from gw (by omega)];exact⟨rfl,rfl,rfl⟩
 ·by_cases hj:j<p.Uk.length
  ·rw[show(u9 fR fM p).Uk.getD j ay=fM (p.Uk.getD j ay)from iI hj];exact hm.mm _
  ·rw[show(u9 fR fM p).Uk.getD j ay=ay from gw (by show(p.Uk.map _).length≤j;rw[UB];omega),show p.Uk.getD j ay=ay from gw (by omega)];exact⟨rfl,rfl,rfl,rfl,rfl⟩
theorem vS (hm:Ep fR fM):∀i,cM (a9 c i) (a9 (Eo fR fM c) i):=fun i=>by
 by_cases h:i<c.U.length
 ·rw[yU h];exact KU hm _
 ·rw[(un (fR:=fR) (fM:=fM) h).1,(un (fR:=fR) (fM:=fM) h).2];exact jo _
theorem CH (hm:Ep fR fM):kN c (Eo fR fM c) :=
 ⟨aJ _ _,rfl,fun i _=>vS hm i,fun n=>⟨rfl,rfl,rfl⟩,fun n h=>h,fun n h=>h⟩
theorem Q8 (hm:Ep fR fM) {s:Ns} (hs:eG c s):eG (Eo fR fM c) s:=by
 have h:=CH (c:=c) hm
 exact⟨by rw[h.pl];exact hs.pl,hs.cl,fun i hi=>by rw[h.pl]at hi;exact M0 (h.pr i hi) (hs.pv i hi),hs.cv,hs.cc⟩
theorem AP (i:Nat):jG (Eo fR fM c) i=jG c i:=by
 unfold jG
 by_cases h:i<c.U.length
 ·rw[show(Eo fR fM c).U.getD i ac=u9 fR fM (c.U.getD i ac)from aX h];rfl
 ·rw[show(Eo fR fM c).U.getD i ac=ac from oY (by omega),show c.U.getD i ac=ac from gw (by omega)]
theorem KV (i:Nat):(a9 (Eo fR fM c) i).clock=(a9 c i).clock:=by
 by_cases h:i<c.U.length
 ·rw[yU h];rfl
 ·rw[(un (fR:=fR) (fM:=fM) h).1,(un (fR:=fR) (fM:=fM) h).2]
end
theorem s8 {p q:Pr} (h:cM p q) (s:Ps) (d:List Int):∀(n:Nat) (e:Ex),fo e≤n→be q s d e=be p s d e:=by
 intro n
 induction n with
 | zero =>
  intro e he
  cases e with
  | mk op name k w args=>simp[fo]at he
 | succ n ih =>
  intro e he
  have ha:e.args.map (be q s d)=e.args.map (be p s d):=by
   apply Vt (by simp)
   intro i h1 h2
   have hi:i<e.args.length:=by simpa using h1
   have:=ih (e.args.getD i dE) (by have:=zM hi;omega)
   rw[bJ _ _ hi]at this
   simpa using this
  rw[lZ,lZ,ha,(h.rg _).1,(h.mm _).1,h.tk]
theorem lH {p q:Pr} (h:cM p q) (s:Ps) (d:List Int) (e:Ex):ew q s d e=ew p s d e:=by unfold ew;rw[s8 h s d _ e (Ut _)]
theorem oL {p q:Pr} (h:cM p q) (s:Ps) (hs:List Hd):b5 q s hs=b5 p s hs:=by
 have e0:i5 q=i5 p:=by unfold i5;rw[h.tk]
 unfold b5
 rw[h.tk]
 refine cH (fun i _=>?_)
 unfold nh jY
 rw[lH h,e0,h.tk]
theorem HR {p q:Pr} (h:cM p q) (s:Ps) (d:List Int):cy q s d=cy p s d:=by
 unfold cy
 rw[h.rl,h.ml]
 have e1:tab (fun i=>(be q s d (sd q i).next).1) p.Ul.length=tab (fun i=>(be p s d (sd p i).next).1) p.Ul.length:=cH (fun i _=>by
  have:=(h.rg i).2.2
  unfold sd;rw[this,s8 h s d _ _ (Ut _)])
 have e2:tab (qR q s d) p.Uk.length=tab (qR p s d) p.Uk.length:=cH (fun i _=>by
  obtain⟨a,b,c,e,f⟩:=h.mm i
  unfold qR fK
  rw[b,c,e,f,lH h,s8 h s d _ _ (Ut _),s8 h s d _ _ (Ut _)])
 rw[e1,e2]
theorem HS {p q:Pr} (h:cM p q) (s:Ps) (hs:List Hd) (rs:List Bool):aY q s hs rs=aY p s hs rs:=by
 have e1:iM q s hs=iM p s hs:=by funext i;unfold iM jY;rw[oL h,lH h,h.tk]
 have e2:jZ q s hs rs=jZ p s hs rs:=by funext i;unfold jZ oZ;rw[oL h,lH h,h.pt]
 have e3:nQ q s hs=nQ p s hs:=by funext i;unfold nQ jY;rw[oL h,lH h,h.tk]
 have e4:nR q s hs=nR p s hs:=by funext i;unfold nR oZ;rw[oL h,lH h,h.pt,s8 h _ _ _ _ (Ut _)]
 unfold aY gV
 rw[e1,e2,e3,e4,oL h,HR h,h.tk,h.pt]
theorem CI {p q:Pr} (h:cM p q) (f:Fi):∀k,nU q f k=nU p f k
 | 0=>rfl
 | k+1=>by rw[nU,nU,CI h f k];unfold u6 jY;rw[h.tk]
theorem CJ {p q:Pr} (h:cM p q) (f:Fi):∀k,nW q f k=nW p f k
 | 0=>rfl
 | k+1=>by rw[nW,nW,CJ h f k];unfold uG oZ;rw[h.pt]
section
variable {c d:Ci}
theorem HT (hl:∀i,cM (a9 c i) (a9 d i)) (s:Ns) (p:Nat):cX d s p=cX c s p:=by
 have h:=hl p
 have e:cf d s p=cf c s p:=by funext j;unfold cf u6 jY;rw[h.tk]
 unfold cX;rw[e,h.tk]
theorem HU (hc:d.J=c.J) (hl:∀i,cM (a9 c i) (a9 d i)) (s:Ns) (p:Nat):dy d s p=dy c s p:=by
 have h:=hl p
 have e:cg d s p=cg c s p:=by funext j;unfold cg uG oZ fy;rw[h.pt,hc]
 unfold dy;rw[e,h.pt]
theorem s9 (hc:d.J=c.J) (hl:∀i,cM (a9 c i) (a9 d i)) (s:Ns) (p:Nat):ae d s p=ae c s p:=by
 unfold ae;rw[HS (hl p),HT hl,HU hc hl]
theorem pS (hc:d.J=c.J) (hl:∀i,cM (a9 c i) (a9 d i)) (s:Ns) (w:Nat→Bool):aV d s w=aV c s w:=by
 funext p;unfold aV p8;rw[s9 hc hl]
theorem M1 (hn:d.U.length=c.U.length) (hc:d.J=c.J) (hl:∀i,cM (a9 c i) (a9 d i)) (s:Ns) (w:Nat→Bool):bx d s w=bx c s w:=by
 have e1:cQ d s w=cQ c s w:=by funext p;unfold cQ;rw[pS hc hl,s9 hc hl]
 have e2:gu d s w=gu c s w:=by
  funext n
  have eg:gF d s w n=gF c s w n:=by
   unfold gF kK tL fy
   rw[pS hc hl,hc]
   generalize (c.J.getD n aK).dst.toNat=k
   rw[CI (hl k),s9 hc hl,(hl k).tk]
  have em:gt d s w n=gt c s w n:=by
   unfold gt xr nX fy
   rw[pS hc hl,hc]
   generalize (c.J.getD n aK).frm.toNat=k
   rw[CJ (hl k),s9 hc hl,(hl k).pt]
  unfold gu
  rw[eg,em]
 unfold bx
 rw[e1,e2,hn,hc]
end
section
variable {fR:Rg→Rg} {fM:Mm→Mm} {c:Ci}
theorem Pu (cl:ByteArray):bE (Eo fR fM c) cl=bE c cl:=by funext i;unfold bE;rw[KV]
theorem Pv (hm:Ep fR fM) (s:Ns) (w:Nat→Bool):bx (Eo fR fM c) s w=bx c s w:=M1 (c:=c) (d:=Eo fR fM c) (aJ _ _) rfl (vS hm) s w
theorem KW (hm:Ep fR fM) (s:Ns) (w:Nat→Bool):aV (Eo fR fM c) s w=aV c s w:=pS (c:=c) (d:=Eo fR fM c) rfl (vS hm) s w
end
def NJ (k n w v:Int):Int:=if k=3 then nb (v+n) w else v
def Tp (k n:Int) (p:Pr) (st:Ps):Ps:=⟨tab (fun j=>NJ k n (sd p j).w (st.Ul.getD j 0)) p.Ul.length,tab (fun j=>(st.Uk.getD j []).map (NJ k n (fK p j).w)) p.Uk.length⟩
def TM (o:Ci) (k n:Int) (s:Ns):Ns:=⟨tab (fun i=>Tp k n (a9 o i) (tK s i)) o.U.length,s.J⟩
theorem Tq {r:Rg} {f:Sr} {j:Nat} (hk:2≤r.Un.kind) (hf:f.is=true) (hj:j<f.p.Ul.length) (hd:iP (l6 f.p) f.p.Ul.length) (hn:(f.p.Ul.getD j aI).name=r.Un.src) (hv:dR (f.s.Ul.getD j 0) r.w) (hw':ax r.w=true):BS r f=NJ r.Un.kind r.Un.n r.w (f.s.Ul.getD j 0):=by
 have hx:Hh f.p r.Un.src=(j:Int):=by
  show DK (l6 f.p) f.p.Ul.length r.Un.src=_
  rw[← hn];exact tZ hd hj
 have hi:Oj r f=(j:Int):=by unfold Oj;rw[Uw ⟨hf,hk⟩,hx]
 unfold BS JG NJ
 rw[hi,Uw (show(0:Int)≤(j:Int) by omega),Vd,KQ hv hw',i7]
theorem Tr {m:Mm} {f:Sr} {j z:Nat} (hk:2≤m.Un.kind) (hf:f.is=true) (hj:j<f.p.Uk.length) (hd:iP (tN f.p) f.p.Uk.length) (hn:(f.p.Uk.getD j ay).name=m.Un.src) (hz:z<(f.s.Uk.getD j []).length) (hv:dR ((f.s.Uk.getD j []).getD z 0) m.w) (hw':ax m.w=true):xt m f z=NJ m.Un.kind m.Un.n m.w ((f.s.Uk.getD j []).getD z 0):=by
 have hx:DJ f.p m.Un.src=(j:Int):=by
  show DK (tN f.p) f.p.Uk.length m.Un.src=_
  rw[← hn];exact tZ hd hj
 have hi:Nk m f=(j:Int):=by unfold Nk;rw[Uw ⟨hf,hk⟩,hx]
 unfold xt JH NJ
 rw[hi,Vd,Uw (show(0:Int)≤(j:Int)∧z<(f.s.Uk.getD j []).length from ⟨by omega,hz⟩),KQ hv hw',i7]
structure Ts (o d:Ci) (k n:Int):Prop where
 pl:d.U.length=o.U.length
 ch:d.J=o.J
 pn:∀i,jG d i=jG o i
 lk:∀i,cM (a9 o i) (a9 d i)
 rg:∀i j,j<(a9 o i).Ul.length→(sd (a9 d i) j).Un=⟨k,(sd (a9 o i) j).name,n⟩
 mm:∀i j,j<(a9 o i).Uk.length→(fK (a9 d i) j).Un=⟨k,(fK (a9 o i) j).name,n⟩
theorem KX {o d:Ci} {k n:Int} (t:Ts o d k n) (hk:k=2∨k=3):∀i,i<d.U.length→DL (d.U.getD i ac):=fun i _ =>
 ⟨fun j hj=>by
   have:=t.rg i j (by rw[← (t.lk i).rl];exact hj)
   show 0≤(sd (a9 d i) j).Un.kind∧(sd (a9 d i) j).Un.kind≤3
   rw[this];show 0≤k∧k≤3;omega,
  fun j hj=>by
   have:=t.mm i j (by rw[← (t.lk i).ml];exact hj)
   show 0≤(fK (a9 d i) j).Un.kind∧(fK (a9 d i) j).Un.kind≤3
   rw[this];show 0≤k∧k≤3;omega⟩
theorem KY {l:List Int} {f g:Nat→Int} {h:Int→Int} {n:Nat} (hl:l.length=n) (hf:∀z,z<n→f z=h (l.getD z 0)):tab f n=l.map h:=by
 subst hl
 apply Vt (by rw[aJ,UB])
 intro i h1 h2
 have hi:i<l.length:=by rw[aJ]at h1;exact h1
 have:=aX (f:=f) (n:=l.length) (d:=0) hi
 rw[bJ _ _ h1,hf i hi,bJ _ _ hi]at this
 rw[this,Wj]
theorem HV {o d:Ci} {k n:Int} {s:Ns} (t:Ts o d k n) (hk:k=2∨k=3) (Z7:cr o) (no:kM o) (nd:kM d) (hs:eG o s) (hci:Gx o):au o d s=(TM o k n s,0):=by
 have hcl:d.J.length=o.J.length:=by rw[t.ch]
 have Zl:∀i,i<o.J.length→DI o d i=false:=by
  intro i hi
  cases h:DI o d i
  ·rfl
  ·exact absurd (by rw[t.ch]) (F0 nd h (k:=i) (by omega) (by unfold bP;rw[t.ch]))
 rw[L4 no nd (KX t hk)]
 have hw:∀i,i<d.J.length→uL o d s i=s.J.getD i []:=by
  intro i hi
  rw[← vB no nd,MA no nd (i:=i) (by omega) hi (by unfold bP;rw[t.ch]),Uw (by rw[t.ch])]
 rw[L1 (fun i hi=>by unfold yx;rw[F1 no hi,Zl i hi];rfl) (fun i hi=>by
  unfold pb
  rw[hw i hi,t.ch]
  rcases Int.lt_or_le 0 (o.J.getD i aK).cap with h0 | h0
  ·obtain⟨a,b⟩:=hci i (by omega) h0
   have:=hs.cc i (by omega) a b
   have e1:((s.J.getD i []).length:Int)≤(o.J.getD i aK).cap:=this
   rw[show decide ((o.J.getD i aK).cap<((s.J.getD i []).length:Int))=false from Uy (by omega),U7]
  ·rw[Uy (by omega)];rfl)]
 have hp:tab (t0 o d s) d.U.length=tab (fun i=>Tp k n (a9 o i) (tK s i)) o.U.length:=by
  rw[t.pl]
  refine cH (fun i hi=>?_)
  have hv:=hs.pv i hi
  have hpo:=Z7.pr i hi
  have lk:=t.lk i
  unfold t0
  rw[Ol (by rw[KT no hi (t.pn i).symm];omega),KT no hi (t.pn i).symm,Vd]
  have lr:(a9 d i).Ul.length=(a9 o i).Ul.length:=lk.rl
  have lm:(a9 d i).Uk.length=(a9 o i).Uk.length:=lk.ml
  refine KR ?_ ?_
  ·show tab (fun j=>BS ((a9 d i).Ul.getD j aI) ⟨true,a9 o i,tK s i⟩) (a9 d i).Ul.length=tab (fun j=>NJ k n (sd (a9 o i) j).w ((tK s i).Ul.getD j 0)) (a9 o i).Ul.length
   rw[lr]
   refine cH (fun j hj=>?_)
   have q:=t.rg i j hj
   have qw:(sd (a9 d i) j).w=(sd (a9 o i) j).w:=(lk.rg j).1
   have e2:(a9 d i).Ul.getD j aI=sd (a9 d i) j:=rfl
   rw[e2,Tq (f:=⟨true,a9 o i,tK s i⟩) (j:=j) (by rw[q];show 2≤k;omega) rfl hj (no.rn i hi) (by rw[q]) (by rw[qw];exact hv.rv j hj) (by rw[qw];exact(hpo.rw j hj).1),q,qw]
  ·show tab (fun j=>tab (xt ((a9 d i).Uk.getD j ay) ⟨true,a9 o i,tK s i⟩) ((a9 d i).Uk.getD j ay).Um.toNat) (a9 d i).Uk.length=tab (fun j=>((tK s i).Uk.getD j []).map (NJ k n (fK (a9 o i) j).w)) (a9 o i).Uk.length
   rw[lm]
   refine cH (fun j hj=>?_)
   have q:=t.mm i j hj
   have qw:(fK (a9 d i) j).w=(fK (a9 o i) j).w:=(lk.mm j).1
   have qn:(fK (a9 d i) j).Um=(fK (a9 o i) j).Um:=(lk.mm j).2.1
   have e2:(a9 d i).Uk.getD j ay=fK (a9 d i) j:=rfl
   rw[e2,qn]
   have hl:=hv.mn j hj
   have hl':((tK s i).Uk.getD j []).length=(fK (a9 o i) j).Um.toNat:=by have:(((tK s i).Uk.getD j []).length:Int)=(fK (a9 o i) j).Um:=hl;omega
   refine KY (g:=fun _=>0) hl' (fun z hz=>?_)
   rw[Tr (f:=⟨true,a9 o i,tK s i⟩) (j:=j) (by rw[q];show 2≤k;omega) rfl hj (no.mn i hi) (by rw[q]) (by show z<((tK s i).Uk.getD j []).length;omega) (by rw[qw];exact hv.mv j hj z (by show z<((tK s i).Uk.getD j []).length;omega)) (by rw[qw];exact(hpo.mw j hj).1),q,qw]
 have hc:tab (uL o d s) d.J.length=s.J:=s7 [] (by rw[hs.cl,hcl]) hw
 rw[hp,hc]
 rfl
theorem M2 {p:Pr} {n:Int} {st:Ps} (h:ni p st):Tp 2 n p st=st:=by
 refine KR ?_ ?_
 ·exact s7 0 h.rl (fun j _=>rfl)
 ·refine s7 [] h.ml (fun j _=>?_)
  show List.map _ _=_
  exact(Wb (g:=id) (fun a _=>rfl)).trans (List.map_id _)
theorem M3 {o:Ci} {n:Int} {s:Ns} (h:eG o s):TM o 2 n s=s:=by
 obtain⟨ps,cs⟩:=s
 show(⟨_,_⟩:Ns)=_
 congr 1
 exact s7 a7 h.pl (fun i hi=>M2 (h.pv i hi))
theorem KZ {a b:ByteArray} (h:PH++a=PH++b):a=b:=by
 have h2:=congrArg ByteArray.data h
 rw[ByteArray.data_append,ByteArray.data_append]at h2
 exact ByteArray.ext ((Array.append_right_inj _).1 h2)
theorem Pw {c:Ci} (h:kM c):kM (bo c):=by
 refine⟨h.cn,fun i hi j hj=>?_,fun i hi=>?_,fun i hi=>?_⟩
 ·rw[show(bo c).U.length=c.U.length from aJ _ _]at hi
  unfold bo;rw[AP,AP];exact h.pn i hi j hj
 ·rw[show(bo c).U.length=c.U.length from aJ _ _]at hi
  have e:(bo c).U.getD i ac=u9 mW mX (a9 c i):=yU hi
  rw[e]
  intro a ha b hb
  have ha':a<(a9 c i).Ul.length:=by simpa[u9]using ha
  have:=h.rn i hi a ha' b hb
  unfold l6 at this ⊢
  rw[show(u9 mW mX (a9 c i)).Ul.getD a aI=mW ((a9 c i).Ul.getD a aI)from iI ha',show(u9 mW mX (a9 c i)).Ul.getD b aI=mW ((a9 c i).Ul.getD b aI)from iI (by omega)]
  exact fun e=>this (KZ e)
 ·rw[show(bo c).U.length=c.U.length from aJ _ _]at hi
  have e:(bo c).U.getD i ac=u9 mW mX (a9 c i):=yU hi
  rw[e]
  intro a ha b hb
  have ha':a<(a9 c i).Uk.length:=by simpa[u9]using ha
  have:=h.mn i hi a ha' b hb
  unfold tN at this ⊢
  rw[show(u9 mW mX (a9 c i)).Uk.getD a ay=mX ((a9 c i).Uk.getD a ay)from iI ha',show(u9 mW mX (a9 c i)).Uk.getD b ay=mX ((a9 c i).Uk.getD b ay)from iI (by omega)]
  exact fun e=>this (KZ e)
theorem Gy (c:Ci):Ts c (bo c) 2 0:=by
 refine⟨aJ _ _,rfl,fun i=>AP i,vS xc,fun i j hj=>?_,fun i j hj=>?_⟩
 ·by_cases hi:i<c.U.length
  ·rw[show a9 (bo c) i=u9 mW mX (a9 c i)from yU hi,show sd (u9 mW mX (a9 c i)) j=mW (sd (a9 c i) j)from iI hj];rfl
  ·rw[(un (fR:=mW) (fM:=mX) hi).2]at hj;exact absurd hj (VN _)
 ·by_cases hi:i<c.U.length
  ·rw[show a9 (bo c) i=u9 mW mX (a9 c i)from yU hi,show fK (u9 mW mX (a9 c i)) j=mX (fK (a9 c i) j)from iI hj];rfl
  ·rw[(un (fR:=mW) (fM:=mX) hi).2]at hj;exact absurd hj (VN _)
theorem K0 (c:Ci):kN c (bo c):=CH xc
theorem Er {c:Ci} {s:Ns} (h:eG c s):eG (bo c) s:=Q8 xc h
theorem vU (c:Ci) (s:Ns) (w:Nat→Bool):bx (bo c) s w=bx c s w:=Pv xc s w
theorem HW (c:Ci) (s:Ns) (w:Nat→Bool):aV (bo c) s w=aV c s w:=KW xc s w
theorem ta (c:Ci) (cl:ByteArray):bE (bo c) cl=bE c cl:=Pu cl
theorem HX {c:Ci} {s:Ns} (Z7:cr c) (no:kM c) (hs:eG c s) (hci:Gx c):au c (bo c) s=(s,0):=by
 rw[HV (Gy c) (.inl rfl) Z7 no (Pw no) hs hci,M3 hs]
def HY (x:Rg):Rg:={ x with Un:={ x.Un with src:=x.name } }
def HZ (x:Mm):Mm:={ x with Un:={ x.Un with src:=x.name } }
def Es (x:Rg):Rg:={ x with name:=PH++x.name,Un:={ x.Un with src:=x.name } }
def Et (x:Mm):Mm:={ x with name:=PH++x.name,Un:={ x.Un with src:=x.name } }
def xy (p:Pr):Pr:=u9 Es Et p
theorem uo {c:Ci} {r:an} {i:Nat} (h:i<c.U.length):(aW c r).U.getD i ac=Av r (c.U.getD i ac):=aX h
theorem Px (p:Pr):xy (Av ⟨2,e0,0⟩ p)=u9 mW mX p:=by
 unfold xy u9 Av
 simp only[Wn]
 rfl
theorem K1 {F:Pr→Pr} {G:Pr→Pr} {c:Ci} {r:an} (h:∀p,F (Av r p)=G p):cG (fun zi=>F ((aW c r).U.getD zi ac)) (aW c r).U c.U.length=tab (fun i=>G (c.U.getD i ac)) c.U.length:=by
 have hl:(aW c r).U.length=c.U.length:=aJ _ _
 rw[bN (by rw[hl];exact Ut _)]
 exact cH (fun i hi=>by rw[uo hi,h])
abbrev Gz (c:Ci):List D:=[(dL 6 bG ac c.U),(dL 5 ca aK c.J)]
abbrev GA (c:Ci) (i:Nat):aC:=(.var 76 [(dS ((c.U.getD i ac).name)),(dS ((c.U.getD i ac).clock)),(.own 10),(.own 11),(dL 9 dU bC ((c.U.getD i ac).I)),(dL 16 dQ bt ((c.U.getD i ac).Uj))])
abbrev iY (c:Ci):aC:=(.var 32 [(.own 7),(dL 5 ca aK c.J)])
abbrev GB (c:Ci):List (Nat×D):=[(9,(.agg [(i6 2),(dS e0),(i6 0)])),(8,(.agg (Gz c))),(1,(.ptr 0 0 0 0)),(2,(.ptr 1 0 0 0))]
abbrev uZ:aC:=(.var 52 [(i6 2),(dS e0),(i6 0)])
abbrev ng:aC:=(.var 32 [.nils,.nils])
abbrev iJ (c:Ci):aC:=(.var 32 (Gz c))
set_option maxRecDepth 100000
def gC (l:List Pr) (rr:Nat):ry:=if rr%2=0 then ⟨60,13,Rg,bO,aI,(l.getD (rr / 2) ac).Ul⟩else ⟨64,27,Mm,b8,ay,(l.getD (rr / 2) ac).Uk⟩
theorem GD (l:List Pr) (i:Nat):gC l (2*i)=⟨60,13,Rg,bO,aI,(l.getD i ac).Ul⟩:=by unfold gC;rw[Uw (by omega),show 2*i / 2=i by omega]
theorem GE (l:List Pr) (i:Nat):gC l (2*i+1)=⟨64,27,Mm,b8,ay,(l.getD i ac).Uk⟩:=by unfold gC;rw[Ur (by omega),show(2*i+1) / 2=i by omega]
theorem Tt {l:List Pr} {i:Nat}:(.arr 60 13 bO aI (l.getD i ac).Ul:aC)=(gC l (2*i)).box:=by rw[GD];rfl
theorem Tu {l:List Pr} {i:Nat} {X:ry}:(.arr 64 27 b8 ay (l.getD i ac).Uk:aC)=(u4 (gC l) (2*i) X (2*i+1)).box:=by
  show _=(if 2*i+1=2*i then X else gC l (2*i+1)).box
  rw[Ur (by omega),GE];rfl
def cP (l:List Pr) (g zi zj:Nat):D:=if zj=2 then .gr g (2*zi)else if zj=3 then .gr g (2*zi+1)else m6 bG ac l zi zj
def CU (l:List Pr) (n q1 q2 zj:Nat):D:=if zj=2 then .own q1 else if zj=3 then .own q2 else m6 bG ac l n zj
def NK (l:List Pr) (n g q1 q2 zi zj:Nat):D:=if zi<n then cP l g zi zj else CU l n q1 q2 zj
def Q9 (l:List Pr) (n g q2 zi zj:Nat):D:=if zi<n then cP l g zi zj else if zj=3 then .own q2 else cP l g n zj
def Ra (l:List Pr) (i g q1 zi zj:Nat):D:=if zi=i∧zj=2 then .own q1 else cP l g zi zj
def yV (l:List Pr) (i g q1 q2 zi zj:Nat):D:=if zi=i then CU l i q1 q2 zj else cP l g zi zj
def Rb (l:List Pr) (i g q2 zi zj:Nat):D:=if zi=i∧zj=3 then .own q2 else cP l g zi zj
theorem K2 {q1 q2 k:Nat} (h:[q1,q2].all (fun g=>!(Nat.beq g k))=true):(!(Nat.beq q1 k))=true∧(!(Nat.beq q2 k))=true:=by
  simpa only [We,List.all_nil,Wo,Uo]using h
theorem xd {g q1 q2 k:Nat} (h:[g,q1,q2].all (fun g=>!(Nat.beq g k))=true):(!(Nat.beq g k))=true∧(!(Nat.beq q1 k))=true∧(!(Nat.beq q2 k))=true:=by
  simpa only [We,List.all_nil,Wo,Uo]using h
theorem CL {l:List Pr} {n q1 q2 j k:Nat} (h1:(!(Nat.beq q1 k))=true) (h2:(!(Nat.beq q2 k))=true):(CU l n q1 q2 j).free k=true:=by
  unfold CU;split
  · exact h1
  · split
    · exact h2
    · rfl
theorem GF {l:List Pr} {g i j k:Nat} (h:(!(Nat.beq g k))=true):(cP l g i j).free k=true:=by
  unfold cP;split
  · exact h
  · split
    · exact h
    · rfl
abbrev Rc (l:List Pr) (n q1 q2:Nat) (ds:List D):Prop:=∀zi zj,zi<1→zj<6→CU l n q1 q2 zj=ds.getD (zi*6+zj) .junk∧∀z8,[q1,q2].all (fun g=>!(Nat.beq g z8))=true→(CU l n q1 q2 zj).free z8=true
structure Rd (p q:Pr):Prop where
  n:p.name=q.name
  c:p.clock=q.clock
  t:p.I=q.I
  u:p.Uj=q.Uj
theorem Tv {l:List Pr} {n q1 q2:Nat} {p:Pr} (h:Rd (l.getD n ac) p):Rc l n q1 q2 [.v (.str p.name),.v (.str p.clock),.own q1,.own q2,.v (.sl 9 dU bC p.I),.v (.sl 16 dQ bt p.Uj)]:=fun i j hi hj=>by
  refine⟨?_,fun k hk=>CL (K2 hk).1 (K2 hk).2⟩
  have h0:i=0:=by omega
  subst h0
  obtain⟨a1,a2,a3,a4⟩:=h
  match j,hj with
  | 0,_=>show D.v (.str (l.getD n ac).name)=D.v (.str p.name);rw[a1]
  | 1,_=>show D.v (.str (l.getD n ac).clock)=D.v (.str p.clock);rw[a2]
  | 2,_=>rfl
  | 3,_=>rfl
  | 4,_=>show D.v (.sl 9 dU bC (l.getD n ac).I)=D.v (.sl 9 dU bC p.I);rw[a3]
  | 5,_=>show D.v (.sl 16 dQ bt (l.getD n ac).Uj)=D.v (.sl 16 dQ bt p.Uj);rw[a4]
abbrev Re (l:List Pr) (n g q1 q2 id:Nat):Prop:=n+1≤137438953472∧∀zi zj,zi<n+1→zj<6→NK l n g q1 q2 zi zj=(if zi<n then cP l g zi zj else CU l n q1 q2 zj)∧(NK l n g q1 q2 zi zj).free id=true∧∀z8,[g,q1,q2].all (fun g=>!(Nat.beq g z8))=true→(NK l n g q1 q2 zi zj).free z8=true
theorem Tw {l:List Pr} {n g q1 q2 id:Nat} (hn:n+1≤137438953472) (hg:(!(Nat.beq g id))=true) (h1:(!(Nat.beq q1 id))=true) (h2:(!(Nat.beq q2 id))=true):Re l n g q1 q2 id:=⟨hn,fun i j hi hj=>by
  have key:∀k,(!(Nat.beq g k))=true→(!(Nat.beq q1 k))=true→(!(Nat.beq q2 k))=true→(NK l n g q1 q2 i j).free k=true:=fun k a b c=>by
    unfold NK;split
    · exact GF a
    · exact CL b c
  exact⟨rfl,key id hg h1 h2,fun k hk=>key k (xd hk).1 (xd hk).2.1 (xd hk).2.2⟩⟩
theorem lI {g rr q:Nat} {cq:D} (h:(∃r',cq=.gr g r'∧r'≠rr)∨(∃x,cq=.v x)∨(cq=.nils)∨∃p,cq=.own p∧p≠q∧p≠g):Dw g rr q cq cq:=.inr ⟨rfl,h⟩
theorem CM {l:List Pr} {g i j rr:Nat} (h1:j=2→2*i≠rr) (h2:j=3→2*i+1≠rr):(∃r',cP l g i j=.gr g r'∧r'≠rr)∨(∃x,cP l g i j=.v x):=by
  unfold cP;split
  · rename_i h;exact .inl ⟨_,rfl,h1 h⟩
  · split
    · rename_i h;exact .inl ⟨_,rfl,h2 h⟩
    · exact .inr ⟨_,rfl⟩
theorem xe {l:List Pr} {g i j rr q:Nat} (h1:j=2→2*i≠rr) (h2:j=3→2*i+1≠rr):Dw g rr q (cP l g i j) (cP l g i j):=lI (by
  rcases CM (l:=l) (g:=g) h1 h2 with h | h
  · exact .inl h
  · exact .inr (.inl h))
abbrev TN (l:List Pr) (n g q1 q2:Nat) (w:List Rg):Prop:=2*n≤2*n∧2*n+1=max (2*n) (2*n+1)∧(∀z8,z8<2*n+1→gC l z8=if z8=2*n then (⟨60,13,Rg,bO,aI,w⟩:ry)else gC l z8)∧∀zi zj,zi<n+1→zj<6→Dw g (2*n) q1 (NK l n g q1 q2 zi zj) (Q9 l n g q2 zi zj)
abbrev TO (l:List Pr) (n g q2:Nat) (w:List Mm):Prop:=2*n+1≤2*n+1∧2*(n+1)=max (2*n+1) (2*n+1+1)∧(∀z8,z8<2*(n+1)→gC l z8=if z8=2*n+1 then (⟨64,27,Mm,b8,ay,w⟩:ry)else gC l z8)∧∀zi zj,zi<n+1→zj<6→Dw g (2*n+1) q2 (Q9 l n g q2 zi zj) (cP l g zi zj)
theorem Ub {l:List Pr} {n g q1 q2:Nat} {w:List Rg} (h:w=(l.getD n ac).Ul) (hq:q2≠q1) (hg:q2≠g):TN l n g q1 q2 w:=by
  refine⟨Ut _,by omega,fun k _=>?_,fun i j hi hj=>?_⟩
  · by_cases e:k=2*n
    · rw[Uw e,e,h,GD]
    · rw[Ur e]
  · unfold NK Q9
    by_cases h1:i<n
    · rw[Uw h1,Uw h1];exact xe (fun _=>by omega) (fun _=>by omega)
    · have h2:i=n:=by omega
      subst h2
      rw[Ur h1,Ur h1]
      unfold CU
      by_cases h2:j=2
      · subst h2;exact .inl ⟨rfl,rfl⟩
      · rw[Ur h2]
        by_cases h3:j=3
        · subst h3;exact lI (.inr (.inr (.inr ⟨q2,rfl,hq,hg⟩)))
        · rw[Ur h3,Ur h3]
          unfold cP;rw[Ur h2,Ur h3]
          exact lI (.inr (.inl ⟨_,rfl⟩))
theorem Uc {l:List Pr} {n g q2:Nat} {w:List Mm} (h:w=(l.getD n ac).Uk):TO l n g q2 w:=by
  refine⟨Ut _,by omega,fun k _=>?_,fun i j hi hj=>?_⟩
  · by_cases e:k=2*n+1
    · rw[Uw e,e,h,GE]
    · rw[Ur e]
  · unfold Q9
    by_cases h1:i<n
    · rw[Uw h1];exact xe (fun _=>by omega) (fun _=>by omega)
    · have h2:i=n:=by omega
      subst h2
      rw[Ur h1]
      by_cases h3:j=3
      · subst h3;exact .inl ⟨rfl,rfl⟩
      · rw[Ur h3];exact xe (fun e=>by omega) (fun e=>absurd e h3)
abbrev Rp (l:List Pr) (n m g:Nat):Prop:=n=m∧∀zi zj,zi<n→zj<6→cP l g zi zj=cP l g zi zj∧∀z8,[g].all (fun g=>!(Nat.beq g z8))=true→(cP l g zi zj).free z8=true
theorem K3 {l:List Pr} {g i j k:Nat} (h:[g].all (fun g=>!(Nat.beq g k))=true):(cP l g i j).free k=true:=GF (by simpa using h)
theorem Tx {l:List Pr} {n m g:Nat} (h:n=m):Rp l n m g:=⟨h,fun i j _ _=>⟨rfl,fun k hk=>K3 hk⟩⟩
theorem rx {g rr q:Nat} {cq:D} (h:(∃r',cq=.gr g r'∧r'≠rr)∨(∃x,cq=.v x)∨(cq=.nils)∨∃p,cq=.own p∧p≠q∧p≠g):Bs g rr q cq cq:=.inr ⟨rfl,h⟩
theorem GG {l:List Pr} {g i j rr q:Nat} (h1:j=2→2*i≠rr) (h2:j=3→2*i+1≠rr):Bs g rr q (cP l g i j) (cP l g i j):=rx (by
  rcases CM (l:=l) (g:=g) h1 h2 with h | h
  · exact .inl h
  · exact .inr (.inl h))
abbrev TP (l:List Pr) (n m i g q1:Nat):Prop:=2*i<m∧∀zi zj,zi<n→zj<6→Bs g (2*i) q1 (cP l g zi zj) (Ra l i g q1 zi zj)
abbrev TQ (l:List Pr) (n m i g q1 q2:Nat):Prop:=2*i+1<m∧∀zi zj,zi<n→zj<6→Bs g (2*i+1) q2 (Ra l i g q1 zi zj) (yV l i g q1 q2 zi zj)
theorem Ud {l:List Pr} {n m i g q1:Nat} (h:2*i<m):TP l n m i g q1:=⟨h,fun a b _ _=>by
  unfold Ra
  by_cases h1:a=i∧b=2
  · rw[Uw h1];obtain⟨rfl,rfl⟩:=h1;exact .inl ⟨rfl,rfl⟩
  · rw[Ur h1];exact GG (fun e=>by omega) (fun e=>by omega)⟩
theorem Ue {l:List Pr} {n m i g q1 q2:Nat} (h:2*i+1<m) (hq:q1≠q2) (hg:q1≠g):TQ l n m i g q1 q2:=⟨h,fun a b _ _=>by
  unfold Ra yV
  by_cases h0:a=i
  · subst h0
    rw[Uw rfl]
    unfold CU
    by_cases h1:b=2
    · subst h1;rw[Uw ⟨rfl,rfl⟩];exact rx (.inr (.inr (.inr ⟨q1,rfl,hq,hg⟩)))
    · rw[Ur (fun h=>h1 h.2),Ur h1]
      by_cases h2:b=3
      · subst h2;exact .inl ⟨rfl,rfl⟩
      · rw[Ur h2];unfold cP;rw[Ur h1,Ur h2];exact rx (.inr (.inl ⟨_,rfl⟩))
  · rw[Ur (fun h=>h0 h.1),Ur h0];exact GG (fun e=>by omega) (fun e=>by omega)⟩
theorem Py {l:List Pr} {i g q1 q2 j:Nat}:yV l i g q1 q2 i j=CU l i q1 q2 j:=Uw rfl
theorem Uf {l:List Pr} {i g q1 q2:Nat} {p:Pr} (h:Rd (l.getD i ac) p):u2 (yV l i g q1 q2 i 0) (.v (.str p.name))∧u2 (yV l i g q1 q2 i 1) (.v (.str p.clock))∧u2 (yV l i g q1 q2 i 2) (.own q1)∧u2 (yV l i g q1 q2 i 3) (.own q2)∧u2 (yV l i g q1 q2 i 4) (.v (.sl 9 dU bC p.I))∧u2 (yV l i g q1 q2 i 5) (.v (.sl 16 dQ bt p.Uj))∧True:=by
  obtain⟨a1,a2,a3,a4⟩:=h
  rw[← a1,← a2,← a3,← a4]
  simp only[Py]
  exact⟨by simp[CU,m6,bG,u2,AU],by simp[CU,m6,bG,u2,AU],rfl,rfl,by simp[CU,m6,bG,u2,AU],by simp[CU,m6,bG,u2,AU],oK⟩
abbrev Ty (l:List Pr) (i:Nat):Nat→ry:=u4 (u4 (gC l) (2*i) (tD (gC l (2*i)))) (2*i+1) (tD (u4 (gC l) (2*i) (tD (gC l (2*i))) (2*i+1)))
abbrev Tz (l l2:List Pr) (i:Nat):Nat→ry:=u4 (gC l2) (2*i+1) (tD (u4 (gC l) (2*i) (tD (gC l (2*i))) (2*i+1)))
abbrev TR (lc l l2:List Pr) (n m i g q1 q2:Nat) (w:List Rg):Prop:=2*i≤m∧m=max m (2*i+1)∧(∀z8,z8<m→Tz l l2 i z8=if z8=2*i then (⟨60,13,Rg,bO,aI,w⟩:ry)else Ty l i z8)∧∀zi zj,zi<n→zj<6→Dw g (2*i) q1 (yV lc i g q1 q2 zi zj) (Rb lc i g q2 zi zj)
abbrev TS (lc l l2:List Pr) (n m i g q2:Nat) (w:List Mm):Prop:=2*i+1≤m∧m=max m (2*i+1+1)∧(∀z8,z8<m→gC l2 z8=if z8=2*i+1 then (⟨64,27,Mm,b8,ay,w⟩:ry)else Tz l l2 i z8)∧∀zi zj,zi<n→zj<6→Dw g (2*i+1) q2 (Rb lc i g q2 zi zj) (cP lc g zi zj)
theorem Ug {lc l l2:List Pr} {n m i g q1 q2:Nat} {w:List Rg} (hi:2*i+1<m) (h:(l2.getD i ac).Ul=w) (ho:∀k,k≠i→l2.getD k ac=l.getD k ac) (hq:q2≠q1) (hg:q2≠g):TR lc l l2 n m i g q1 q2 w:=by
  refine⟨by omega,by omega,fun k _=>?_,fun a b _ _=>?_⟩
  · by_cases e:k=2*i
    · subst e
      rw[Uw rfl]
      show(if 2*i=2*i+1 then _ else gC l2 (2*i))=_
      rw[Ur (by omega),GD,h]
    · rw[Ur e]
      show(if k=2*i+1 then _ else gC l2 k)=(if k=2*i+1 then _ else (if k=2*i then _ else gC l k))
      by_cases e2:k=2*i+1
      · rw[Uw e2,Uw e2]
      · rw[Ur e2,Ur e2,Ur e]
        unfold gC
        rw[ho (k / 2) (by omega)]
  · unfold yV Rb
    by_cases h0:a=i
    · subst h0
      rw[Uw rfl]
      unfold CU
      by_cases h1:b=2
      · subst h1;rw[Ur (show ¬(a=a∧2=3)from fun h=>by omega)];exact .inl ⟨rfl,rfl⟩
      · rw[Ur h1]
        by_cases h2:b=3
        · subst h2;rw[Uw rfl,Uw ⟨rfl,rfl⟩];exact lI (.inr (.inr (.inr ⟨q2,rfl,hq,hg⟩)))
        · rw[Ur h2,Ur (fun h=>h2 h.2)];unfold cP;rw[Ur h1,Ur h2];exact lI (.inr (.inl ⟨_,rfl⟩))
    · rw[Ur h0,Ur (fun h=>h0 h.1)];exact xe (fun e=>by omega) (fun e=>by omega)
theorem Uh {lc l l2:List Pr} {n m i g q2:Nat} {w:List Mm} (hi:2*i+1<m) (h:(l2.getD i ac).Uk=w):TS lc l l2 n m i g q2 w:=by
  refine⟨by omega,by omega,fun k _=>?_,fun a b _ _=>?_⟩
  · by_cases e:k=2*i+1
    · subst e
      rw[Uw rfl,GE,h]
    · rw[Ur e]
      show _=(if k=2*i+1 then _ else gC l2 k)
      rw[Ur e]
  · unfold Rb
    by_cases h0:a=i∧b=3
    · rw[Uw h0];obtain⟨rfl,rfl⟩:=h0;exact .inl ⟨rfl,rfl⟩
    · rw[Ur h0];exact xe (fun e=>by omega) (fun e=>by omega)
theorem Ui {lc l:List Pr} {n g:Nat} (h:∀i,i<n→Rd (lc.getD i ac) (l.getD i ac)):∀i j,i<n→j<6→fG g (.gs (fun zr=>.sl (gC l zr).sz (gC l zr).enc (gC l zr).d (gC l zr).l)) (cP lc g i j)=m6 bG ac l i j:=by
  intro i j hi hj
  obtain⟨h1,h2,h3,h4⟩:=h i hi
  match j,hj with
  | 0,_=>show D.v (.str (lc.getD i ac).name)=D.v (.str (l.getD i ac).name);rw[h1]
  | 1,_=>show D.v (.str (lc.getD i ac).clock)=D.v (.str (l.getD i ac).clock);rw[h2]
  | 2,_=>show fG g _ (.gr g (2*i))=D.v (.sl 13 bO aI (l.getD i ac).Ul);unfold fG;rw[Uw (Nat.beq_refl g)];show D.v (.sl (gC l (2*i)).sz (gC l (2*i)).enc (gC l (2*i)).d (gC l (2*i)).l)=_;rw[GD]
  | 3,_=>show fG g _ (.gr g (2*i+1))=D.v (.sl 27 b8 ay (l.getD i ac).Uk);unfold fG;rw[Uw (Nat.beq_refl g)];show D.v (.sl (gC l (2*i+1)).sz (gC l (2*i+1)).enc (gC l (2*i+1)).d (gC l (2*i+1)).l)=_;rw[GE]
  | 4,_=>show D.v (.sl 9 dU bC (lc.getD i ac).I)=D.v (.sl 9 dU bC (l.getD i ac).I);rw[h3]
  | 5,_=>show D.v (.sl 16 dQ bt (lc.getD i ac).Uj)=D.v (.sl 16 dQ bt (l.getD i ac).Uj);rw[h4]
theorem Rf {c:Ci} {r:an} {i:Nat} (h:i<c.U.length):Rd ((aW c r).U.getD i ac) (c.U.getD i ac):=by rw[uo h];exact⟨rfl,rfl,rfl,rfl⟩
theorem TA {c:Ci} {r:an} {l:List Pr} (h:∀i,i<c.U.length→∃fR fM,l.getD i ac=u9 fR fM (c.U.getD i ac)):∀i,i<c.U.length→Rd ((aW c r).U.getD i ac) (l.getD i ac):=fun i hi=>by
  obtain⟨fR,fM,e⟩:=h i hi
  rw[uo hi,e]
  exact⟨rfl,rfl,rfl,rfl⟩
def TB (c:Ci):Prop:=∀i j,((c.U.getD i ac).Ul.getD j aI).name.size≤1000∧((c.U.getD i ac).Uk.getD j ay).name.size≤1000
theorem Pz (sx:Int) (b1 me:List Int):TB (aL sx b1 me):=fun i j=>by
  by_cases hi:i<(aF sx b1).U.length
  · have e:(aL sx b1 me).U.getD i ac=km (a9 (aF sx b1) i) me i:=aX hi
    have hl:(aF sx b1).U.length=(aj sx).length:=aJ _ _
    have e2:a9 (aF sx b1) i=pg b1 (aj sx) i:=aX (by omega)
    have hr:∀p:Pr,(km p me i).Ul=p.Ul:=fun p=>by unfold km;split<;>rfl
    rw[e,e2]
    constructor
    · rw[hr]
      unfold pg bH
      generalize (aj sx).getD i dj=q
      by_cases hj:j<qW (b1.getD (gY b1 (aj sx) i) 0)
      · rw[show((⟨K8 i,Oy (b1.getD (gY b1 (aj sx) i) 0),tab (Ox b1 (b1.getD (gY b1 (aj sx) i) 0) q.I.length (mi b1 (gY b1 (aj sx) i) q)) (qW (b1.getD (gY b1 (aj sx) i) 0)),[],tab (FP b1 (b1.getD (gY b1 (aj sx) i) 0) (gY b1 (aj sx) i+1) q) q.I.length,tab (H3 b1 (b1.getD (gY b1 (aj sx) i) 0) q.I.length (ll b1 (gY b1 (aj sx) i) q) q) q.Uj.length⟩:Pr).Ul.getD j aI)=_ from aX hj]
        show(Qo j).size≤1000
        unfold Qo
        match j with
        | 0=>decide
        | 1=>decide
        | j+2=>show e0.size≤1000;decide
      · rw[show((⟨K8 i,Oy (b1.getD (gY b1 (aj sx) i) 0),tab (Ox b1 (b1.getD (gY b1 (aj sx) i) 0) q.I.length (mi b1 (gY b1 (aj sx) i) q)) (qW (b1.getD (gY b1 (aj sx) i) 0)),[],tab (FP b1 (b1.getD (gY b1 (aj sx) i) 0) (gY b1 (aj sx) i+1) q) q.I.length,tab (H3 b1 (b1.getD (gY b1 (aj sx) i) 0) q.I.length (ll b1 (gY b1 (aj sx) i) q) q) q.Uj.length⟩:Pr).Ul.getD j aI)=aI from oY (by omega)]
        decide
    · unfold km
      split
      · match j with
        | 0=>show Nt.size≤1000;decide
        | j+1=>show(ay:Mm).name.size≤1000;decide
      · show ay.name.size≤1000
        decide
  · have e:(aL sx b1 me).U.getD i ac=ac:=oY (by omega)
    rw[e]
    exact⟨by show aI.name.size≤1000;decide,by show ay.name.size≤1000;decide⟩
theorem NL {c:Ci} (h:TB c) (r:an) (i j:Nat):((Av r (c.U.getD i ac)).Ul.getD j aI).name.size≤1000∧((Av r (c.U.getD i ac)).Uk.getD j ay).name.size≤1000:=by
  have hh:=h i j
  unfold Av
  simp only[Vj,UJ]at hh ⊢
  constructor
  · cases hq:(c.U[i]?.getD ac).Ul[j]? with
    | none=>rw[Option.map_none,Option.getD_none];decide
    | some x=>rw[hq]at hh;exact hh.1
  · cases hq:(c.U[i]?.getD ac).Uk[j]? with
    | none=>rw[Option.map_none,Option.getD_none];decide
    | some x=>rw[hq]at hh;exact hh.2
theorem GH {n:Nat} (h:n≤1000):(((bs [110,101,119]).size+n:Nat):Int)≤IntKind.i64.max:=by show _≤(9223372036854775807:Int);have:(bs [110,101,119]).size=3:=rfl;omega
abbrev c6 (c:Ci):Ct:=⟨6,[(.agg (Gz c))],true,(.agg [(dL 6 bG ac ((bo c).U)),(dL 5 ca aK ((bo c).J))])⟩
abbrev H0 (c:Ci):List aC:=[(iJ c),ng]
abbrev pT (c:Ci):List (Nat×D):=(GB c)
abbrev pU (c:Ci) (WI:Array Value):Lp (Nat):=gD [2,3,4,5,6] 9 (fun (i:Nat)=>⟨[(2,(.ptr 3 0 0 0)),(3,(.ptr 4 0 0 0)),(4,(.ptr 5 0 0 0)),(5,(.ptr 6 0 0 0)),(6,(i6 (i:Int)))],[(iJ c),ng,(.frame WI (GB c)),(iJ c),uZ,ng,(iY c),(.arrD 76 6 i [8] (cP ((aW c (⟨2,e0,0⟩:an)).U) 8)),(.grp (2*i) (gC ((aW c (⟨2,e0,0⟩:an)).U)))]⟩) (fun (i:Nat)=>i≤c.U.length) (fun (i:Nat)=>c.U.length-i)
abbrev pV (c:Ci) (WI:Array Value) (i:Nat):Lp (Nat×List Rg):=nN [2,3,4,5,6,7,8] 12 (fun (j:Nat) (gs:List Rg)=>⟨[(2,(.ptr 3 0 0 0)),(3,(.ptr 4 0 0 0)),(4,(.ptr 5 0 0 0)),(5,(.ptr 6 0 0 0)),(6,(i6 (i:Int))),(7,(.ptr 9 0 0 0)),(8,(i6 (j:Int)))],[(iJ c),ng,(.frame WI (GB c)),(iJ c),uZ,ng,(iY c),(.arrD 76 6 i [8] (cP ((aW c (⟨2,e0,0⟩:an)).U) 8)),(.grp (2*i) (gC ((aW c (⟨2,e0,0⟩:an)).U))),(GA c i),(.arr 60 13 bO aI gs),(.arr 64 27 b8 ay ((c.U.getD i ac).Uk))]⟩) (fun (j:Nat) (gs:List Rg)=>j≤(c.U.getD i ac).Ul.length∧gs=cG (fun zj=>DS (⟨2,e0,0⟩:an) ((c.U.getD i ac).Ul.getD zj aI)) (c.U.getD i ac).Ul j) (fun (j:Nat) (gs:List Rg)=>(c.U.getD i ac).Ul.length-j)
abbrev pW (c:Ci) (WI:Array Value) (i:Nat) (gs:List Rg):Lp (Nat×List Mm):=nN [2,3,4,5,6,7,9] 12 (fun (k:Nat) (ms:List Mm)=>⟨[(2,(.ptr 3 0 0 0)),(3,(.ptr 4 0 0 0)),(4,(.ptr 5 0 0 0)),(5,(.ptr 6 0 0 0)),(6,(i6 (i:Int))),(7,(.ptr 9 0 0 0)),(9,(i6 (k:Int)))],[(iJ c),ng,(.frame WI (GB c)),(iJ c),uZ,ng,(iY c),(.arrD 76 6 i [8] (cP ((aW c (⟨2,e0,0⟩:an)).U) 8)),(.grp (2*i) (gC ((aW c (⟨2,e0,0⟩:an)).U))),(GA c i),(.arr 60 13 bO aI gs),(.arr 64 27 b8 ay ms)]⟩) (fun (k:Nat) (ms:List Mm)=>k≤(c.U.getD i ac).Uk.length∧ms=cG (fun zj=>DT (⟨2,e0,0⟩:an) ((c.U.getD i ac).Uk.getD zj ay)) (c.U.getD i ac).Uk k) (fun (k:Nat) (ms:List Mm)=>(c.U.getD i ac).Uk.length-k)
abbrev uq (c:Ci):List aC:=[(iJ c),ng]
abbrev ur (c:Ci):List aC:=[(iJ c),uZ,(iY c),(iY c),(.arrD 76 6 c.U.length [8] (cP ((aW c (⟨2,e0,0⟩:an)).U) 8)),(.grp (2*c.U.length) (gC ((aW c (⟨2,e0,0⟩:an)).U)))]
abbrev pX (c:Ci):Lp (Nat×List Pr):=nN [2,3,4] 10 (fun (i:Nat) (ls:List Pr)=>⟨[(2,(.ptr 1 0 0 0)),(3,(.ptr 9 0 0 0)),(4,(i6 (i:Int)))],[(iJ c),ng,.dead,(iJ c),uZ,(iY c),(iY c),(.arrD 76 6 c.U.length [8] (cP ((aW c (⟨2,e0,0⟩:an)).U) 8)),(.grp (2*c.U.length) (gC ls)),(iY c)]⟩) (fun (i:Nat) (ls:List Pr)=>i≤c.U.length∧ls=cG (fun zi=>xy ((aW c (⟨2,e0,0⟩:an)).U.getD zi ac)) (aW c (⟨2,e0,0⟩:an)).U i) (fun (i:Nat) (ls:List Pr)=>c.U.length-i)
abbrev pY (c:Ci) (i:Nat) (ls:List Pr):Lp (Nat×List Rg):=nN [2,3,4,5,6] 13 (fun (j:Nat) (gs:List Rg)=>⟨[(2,(.ptr 1 0 0 0)),(3,(.ptr 9 0 0 0)),(4,(i6 (i:Int))),(5,(.ptr 12 0 0 0)),(6,(i6 (j:Int)))],[(iJ c),ng,.dead,(iJ c),uZ,(iY c),(iY c),(.arrD 76 6 c.U.length [11,10,8] (yV ((aW c (⟨2,e0,0⟩:an)).U) i 8 10 11)),(.grp (2*c.U.length) (Ty ls i)),(iY c),(.arr 60 13 bO aI gs),(.arr 64 27 b8 ay ((ls.getD i ac).Uk)),(GA c i)]⟩) (fun (j:Nat) (gs:List Rg)=>j≤(ls.getD i ac).Ul.length∧gs=cG (fun zj=>Es ((ls.getD i ac).Ul.getD zj aI)) (ls.getD i ac).Ul j) (fun (j:Nat) (gs:List Rg)=>(ls.getD i ac).Ul.length-j)
abbrev pZ (c:Ci) (i:Nat) (ls:List Pr) (gs:List Rg):Lp (Nat×List Mm):=nN [2,3,4,5,7] 13 (fun (k:Nat) (ms:List Mm)=>⟨[(2,(.ptr 1 0 0 0)),(3,(.ptr 9 0 0 0)),(4,(i6 (i:Int))),(5,(.ptr 12 0 0 0)),(7,(i6 (k:Int)))],[(iJ c),ng,.dead,(iJ c),uZ,(iY c),(iY c),(.arrD 76 6 c.U.length [11,10,8] (yV ((aW c (⟨2,e0,0⟩:an)).U) i 8 10 11)),(.grp (2*c.U.length) (Ty ls i)),(iY c),(.arr 60 13 bO aI gs),(.arr 64 27 b8 ay ms),(GA c i)]⟩) (fun (k:Nat) (ms:List Mm)=>k≤(ls.getD i ac).Uk.length∧ms=cG (fun zj=>Et ((ls.getD i ac).Uk.getD zj ay)) (ls.getD i ac).Uk k) (fun (k:Nat) (ms:List Mm)=>(ls.getD i ac).Uk.length-k)
theorem PA (c:Ci) (h1:c.U.length≤1000000) (hz:∀i,i<c.U.length→JE (c.U.getD i ac)) (hnz:TB c):CC (c6 c):=by
 refine ah.vc (V:=TT 4 (Bt Tryz.prog 25 [(.agg (Gz c)),(.agg [(i6 2),(dS e0),(i6 0)])] (H0 c) (pT c) (uq c) (ur c) (.agg [(.own 7),(dL 5 ca aK c.J)])∧TT 3 (GO (pX c) (0,(aW c (⟨2,e0,0⟩:an)).U) (∀i ls,(pX c).inv (i,ls)→TT 5 (CD ((i:Int)<(c.U.length:Int)) (TP ((aW c (⟨2,e0,0⟩:an)).U) c.U.length (2*c.U.length) i 8 10∧(.arr 60 13 bO aI ((ls.getD i ac).Ul))=(gC ls (2*i)).box∧TQ ((aW c (⟨2,e0,0⟩:an)).U) c.U.length (2*c.U.length) i 8 10 11∧(.arr 64 27 b8 ay ((ls.getD i ac).Uk))=(u4 (gC ls) (2*i) (tD (gC ls (2*i))) (2*i+1)).box∧TT 3 (IX (i:Int) c.U.length∧((i<c.U.length∧True)∧(u2 ((yV ((aW c (⟨2,e0,0⟩:an)).U) i 8 10 11) i 0) (dS ((c.U.getD i ac).name))∧u2 ((yV ((aW c (⟨2,e0,0⟩:an)).U) i 8 10 11) i 1) (dS ((c.U.getD i ac).clock))∧u2 ((yV ((aW c (⟨2,e0,0⟩:an)).U) i 8 10 11) i 2) (.own 10)∧u2 ((yV ((aW c (⟨2,e0,0⟩:an)).U) i 8 10 11) i 3) (.own 11)∧u2 ((yV ((aW c (⟨2,e0,0⟩:an)).U) i 8 10 11) i 4) (dL 9 dU bC ((c.U.getD i ac).I))∧u2 ((yV ((aW c (⟨2,e0,0⟩:an)).U) i 8 10 11) i 5) (dL 16 dQ bt ((c.U.getD i ac).Uj))∧True))∧TT 3 (GO (pY c i ls) (0,(ls.getD i ac).Ul) (∀j gs,(pY c i ls).inv (j,gs)→TT 5 (CD ((j:Int)<(gs.length:Int)) (TT 6 (IX (j:Int) gs.length∧TT 1 ((j<gs.length∧True)∧IX (j:Int) gs.length∧TT 2 ((j<gs.length∧(gs.map bO).set j ((bO (gs.getD j aI)).take 11++[(.str ((gs.getD j aI).name))]++(bO (gs.getD j aI)).drop (11+1))=(gs.set j (HY ((ls.getD i ac).Ul.getD j aI))).map bO)∧TT 6 (IX (j:Int) ((gs.set j (HY ((ls.getD i ac).Ul.getD j aI))).length)∧TT 1 ((j<(gs.set j (HY ((ls.getD i ac).Ul.getD j aI))).length∧True)∧(((bs [110,101,119]).size+(((gs.set j (HY ((ls.getD i ac).Ul.getD j aI))).getD j aI).name).size:Nat):Int)≤IntKind.i64.max∧IX (j:Int) ((gs.set j (HY ((ls.getD i ac).Ul.getD j aI))).length)∧TT 1 ((j<(gs.set j (HY ((ls.getD i ac).Ul.getD j aI))).length∧((gs.set j (HY ((ls.getD i ac).Ul.getD j aI))).map bO).set j ((bO ((gs.set j (HY ((ls.getD i ac).Ul.getD j aI))).getD j aI)).take 0++[(.str ((bs [110,101,119])++(((gs.set j (HY ((ls.getD i ac).Ul.getD j aI))).getD j aI).name)))]++(bO ((gs.set j (HY ((ls.getD i ac).Ul.getD j aI))).getD j aI)).drop (0+1))=(gs.set j (Es ((ls.getD i ac).Ul.getD j aI))).map bO)∧TT 1 (W6 ((j+1:Nat):Int)∧TT 1 (AG (pY c i ls) (j,gs) (j+1,gs.set j (Es ((ls.getD i ac).Ul.getD j aI)))))))))))) (TT 1 (GO (pZ c i ls gs) (0,(ls.getD i ac).Uk) (∀k ms,(pZ c i ls gs).inv (k,ms)→TT 5 (CD ((k:Int)<(ms.length:Int)) (TT 6 (IX (k:Int) ms.length∧TT 1 ((k<ms.length∧True)∧IX (k:Int) ms.length∧TT 2 ((k<ms.length∧(ms.map b8).set k ((b8 (ms.getD k ay)).take 25++[(.str ((ms.getD k ay).name))]++(b8 (ms.getD k ay)).drop (25+1))=(ms.set k (HZ ((ls.getD i ac).Uk.getD k ay))).map b8)∧TT 6 (IX (k:Int) ((ms.set k (HZ ((ls.getD i ac).Uk.getD k ay))).length)∧TT 1 ((k<(ms.set k (HZ ((ls.getD i ac).Uk.getD k ay))).length∧True)∧(((bs [110,101,119]).size+(((ms.set k (HZ ((ls.getD i ac).Uk.getD k ay))).getD k ay).name).size:Nat):Int)≤IntKind.i64.max∧IX (k:Int) ((ms.set k (HZ ((ls.getD i ac).Uk.getD k ay))).length)∧TT 1 ((k<(ms.set k (HZ ((ls.getD i ac).Uk.getD k ay))).length∧((ms.set k (HZ ((ls.getD i ac).Uk.getD k ay))).map b8).set k ((b8 ((ms.set k (HZ ((ls.getD i ac).Uk.getD k ay))).getD k ay)).take 0++[(.str ((bs [110,101,119])++(((ms.set k (HZ ((ls.getD i ac).Uk.getD k ay))).getD k ay).name)))]++(b8 ((ms.set k (HZ ((ls.getD i ac).Uk.getD k ay))).getD k ay)).drop (0+1))=(ms.set k (Et ((ls.getD i ac).Uk.getD k ay))).map b8)∧TT 1 (W6 ((k+1:Nat):Int)∧TT 1 (AG (pZ c i ls gs) (k,ms) (k+1,ms.set k (Et ((ls.getD i ac).Uk.getD k ay)))))))))))) (TR ((aW c (⟨2,e0,0⟩:an)).U) ls (ls.set i (xy (ls.getD i ac))) c.U.length (2*c.U.length) i 8 10 11 gs∧TS ((aW c (⟨2,e0,0⟩:an)).U) ls (ls.set i (xy (ls.getD i ac))) c.U.length (2*c.U.length) i 8 11 ms∧Rp ((aW c (⟨2,e0,0⟩:an)).U) c.U.length c.U.length 8∧TT 1 (W6 ((i+1:Nat):Int)∧TT 1 (AG (pX c) (i,ls) (i+1,ls.set i (xy (ls.getD i ac))))))))))))))) (((2*c.U.length)=(2*c.U.length)∧∀z8,z8<(2*c.U.length)→gC ((bo c).U) z8=(gC ls) z8)∧(((bo c).U).length=c.U.length∧(∀x∈((bo c).U),(bG x).length=6)∧∀zi zj,zi<c.U.length→zj<6→(fun (zi zj:Nat)=>fG 8 (.gs (fun zr=>.sl ((gC ((bo c).U)) zr).sz ((gC ((bo c).U)) zr).enc ((gC ((bo c).U)) zr).d ((gC ((bo c).U)) zr).l)) ((cP ((aW c (⟨2,e0,0⟩:an)).U) 8) zi zj)) zi zj=m6 bG ac ((bo c).U) zi zj)∧TT 3 (((bo c).U).map bG=((bo c).U).map bG∧c.J.map ca=((bo c).J).map ca∧True))))))) (.q 1 [1,2] 2<|.w 1 [(2,.inl (.agg [(.own 7),(dL 5 ca aK c.J)]) (pT c) ((uq c)++.dead::(ur c)))]<|.l (pX c) (0,(aW c (⟨2,e0,0⟩:an)).U) (fun ⟨i,ls⟩=>.b 15 (.gh 5 (take 7 8 (2*i) (Ra ((aW c (⟨2,e0,0⟩:an)).U) i 8 10))<|.gh 5 (Nf 10 (.arr 60 13 bO aI ((ls.getD i ac).Ul)))<|.gh 5 (take 7 8 (2*i+1) (yV ((aW c (⟨2,e0,0⟩:an)).U) i 8 10 11))<|.gh 5 (Nf 11 (.arr 64 27 b8 ay ((ls.getD i ac).Uk)))<|.w 5 [(4,.val (.agg [(dS ((c.U.getD i ac).name)),(dS ((c.U.getD i ac).clock)),(.own 10),(.own 11),(dL 9 dU bC ((c.U.getD i ac).I)),(dL 16 dQ bt ((c.U.getD i ac).Uj))]))]<|.l (pY c i ls) (0,(ls.getD i ac).Ul) (fun ⟨j,gs⟩=>.b 27 (.w 9 [(12,.box 60 13 bO aI (gs.set j (HY ((ls.getD i ac).Ul.getD j aI))))]<|.w 10 [(12,.box 60 13 bO aI (gs.set j (Es ((ls.getD i ac).Ul.getD j aI))))]<|.w 8 [(1,.val (i6 ((j+1:Nat):Int)))]<|.e) (.l (pZ c i ls gs) (0,(ls.getD i ac).Uk) (fun ⟨k,ms⟩=>.b 58 (.w 14 [(12,.box 64 27 b8 ay (ms.set k (HZ ((ls.getD i ac).Uk.getD k ay))))]<|.w 15 [(12,.box 64 27 b8 ay (ms.set k (Et ((ls.getD i ac).Uk.getD k ay))))]<|.w 13 [(1,.val (i6 ((k+1:Nat):Int)))]<|.e) (.gh 4 (put 7 8 10 (2*i) (2*c.U.length) (Rb ((aW c (⟨2,e0,0⟩:an)).U) i 8 11) (Tz ls (ls.set i (xy (ls.getD i ac))) i))<|.gh 4 (put 7 8 11 (2*i+1) (2*c.U.length) (cP ((aW c (⟨2,e0,0⟩:an)).U) 8) (gC (ls.set i (xy (ls.getD i ac)))))<|.gh 4 (zF 7 c.U.length [8] (cP ((aW c (⟨2,e0,0⟩:an)).U) 8))<|.w 4 [(1,.val (i6 ((i+1:Nat):Int)))]<|.e))))) (.gh 16 (Nd 8 (2*c.U.length) (gC ((bo c).U)))<|.f 16 8<|.gh 16 (TV 7 bG ac ((bo c).U))<|.f 16 7<|.e))) Tryz.func6 rfl rfl rfl (by kernel_rfl) ?_
 refine tt ⟨?_,?_⟩
 · intro WI
   refine j8.vc (V:=TT 10 ((0=([]:List Pr).length∧∀zi zj,zi<0→zj<6→(cP ((aW c (⟨2,e0,0⟩:an)).U) 8) zi zj=m6 bG ac ([]:List Pr) zi zj∧∀z8,[8].all (fun g=>!(Nat.beq g z8))=true→((cP ((aW c (⟨2,e0,0⟩:an)).U) 8) zi zj).free z8=true)∧TT 1 (GO (pU c WI) 0 (∀i,(pU c WI).inv i→TT 5 (CD ((i:Int)<(c.U.length:Int)) (TT 3 (IX (i:Int) c.U.length∧TT 3 (am [] (([]:List Rg).map bO)∧TT 2 ((([]:List Rg).length+(((c.U.getD i ac).Ul).map bO).length≤137438953472∧([]:List Rg).map bO++((c.U.getD i ac).Ul).map bO=((c.U.getD i ac).Ul).map bO)∧TT 2 (am [] (([]:List Mm).map b8)∧TT 2 ((([]:List Mm).length+(((c.U.getD i ac).Uk).map b8).length≤137438953472∧([]:List Mm).map b8++((c.U.getD i ac).Uk).map b8=((c.U.getD i ac).Uk).map b8)∧TT 3 (GO (pV c WI i) (0,(c.U.getD i ac).Ul) (∀j gs,(pV c WI i).inv (j,gs)→TT 5 (CD ((j:Int)<(gs.length:Int)) (TT 4 (IX (j:Int) gs.length∧TT 1 ((j<gs.length∧(gs.map bO).set j ((bO (gs.getD j aI)).take 10++[(.int .i64 2),(.str e0),(.int .i64 0)]++(bO (gs.getD j aI)).drop (10+3))=(gs.set j (DS (⟨2,e0,0⟩:an) ((c.U.getD i ac).Ul.getD j aI))).map bO)∧TT 1 (W6 ((j+1:Nat):Int)∧TT 1 (AG (pV c WI i) (j,gs) (j+1,gs.set j (DS (⟨2,e0,0⟩:an) ((c.U.getD i ac).Ul.getD j aI)))))))) (TT 1 (GO (pW c WI i gs) (0,(c.U.getD i ac).Uk) (∀k ms,(pW c WI i gs).inv (k,ms)→TT 5 (CD ((k:Int)<(ms.length:Int)) (TT 4 (IX (k:Int) ms.length∧TT 1 ((k<ms.length∧(ms.map b8).set k ((b8 (ms.getD k ay)).take 24++[(.int .i64 2),(.str e0),(.int .i64 0)]++(b8 (ms.getD k ay)).drop (24+3))=(ms.set k (DT (⟨2,e0,0⟩:an) ((c.U.getD i ac).Uk.getD k ay))).map b8)∧TT 1 (W6 ((k+1:Nat):Int)∧TT 1 (AG (pW c WI i gs) (k,ms) (k+1,ms.set k (DT (⟨2,e0,0⟩:an) ((c.U.getD i ac).Uk.getD k ay)))))))) (TT 3 (Rc ((aW c (⟨2,e0,0⟩:an)).U) i 10 11 [(dS ((c.U.getD i ac).name)),(dS ((c.U.getD i ac).clock)),(.own 10),(.own 11),(dL 9 dU bC ((c.U.getD i ac).I)),(dL 16 dQ bt ((c.U.getD i ac).Uj))]∧Re ((aW c (⟨2,e0,0⟩:an)).U) i 8 10 11 7∧TT 2 (TN ((aW c (⟨2,e0,0⟩:an)).U) i 8 10 11 gs∧TO ((aW c (⟨2,e0,0⟩:an)).U) i 8 11 ms∧Rp ((aW c (⟨2,e0,0⟩:an)).U) (i+1) (i+1) 8∧TT 1 (W6 ((i+1:Nat):Int)∧TT 1 (AG (pU c WI) i (i+1))))))))))))))))))) (Rp ((aW c (⟨2,e0,0⟩:an)).U) c.U.length i 8∧((2*c.U.length)=(2*i)∧∀z8,z8<(2*c.U.length)→gC ((aW c (⟨2,e0,0⟩:an)).U) z8=(gC ((aW c (⟨2,e0,0⟩:an)).U)) z8)∧TT 3 (((((.own 7):D)=(.own 7)∧c.J.map ca=c.J.map ca∧True))∧([(iJ c),ng,.frame WI (pT c),(iJ c),uZ,(iY c),(iY c),(.arrD 76 6 c.U.length [8] (cP ((aW c (⟨2,e0,0⟩:an)).U) 8)),(.grp (2*c.U.length) (gC ((aW c (⟨2,e0,0⟩:an)).U)))]:List aC)=(uq c)++.frame WI (pT c)::(ur c)))))))) (.g 2 6 0 76 6 bG ac<|.gh 2 (TU 7)<|.gh 2 (Rv (gC ((aW c (⟨2,e0,0⟩:an)).U)))<|.gh 2 (zF 7 0 [8] (cP ((aW c (⟨2,e0,0⟩:an)).U) 8))<|.l (pU c WI) 0 (fun i=>.b 17 (.w 6 [(0,.box 60 13 bO aI ([]:List Rg)),(3,.box 60 13 bO aI ((c.U.getD i ac).Ul))]<|.w 7 [(0,.box 64 27 b8 ay ([]:List Mm)),(3,.box 64 27 b8 ay ((c.U.getD i ac).Uk))]<|.l (pV c WI i) (0,(c.U.getD i ac).Ul) (fun ⟨j,gs⟩=>.b 39 (.w 11 [(6,.box 60 13 bO aI (gs.set j (DS (⟨2,e0,0⟩:an) ((c.U.getD i ac).Ul.getD j aI))))]<|.w 10 [(1,.val (i6 ((j+1:Nat):Int)))]<|.e) (.l (pW c WI i gs) (0,(c.U.getD i ac).Uk) (fun ⟨k,ms⟩=>.b 52 (.w 15 [(6,.box 64 27 b8 ay (ms.set k (DT (⟨2,e0,0⟩:an) ((c.U.getD i ac).Uk.getD k ay))))]<|.w 14 [(1,.val (i6 ((k+1:Nat):Int)))]<|.e) (.w 16 [(3,.cells [10,11] (fun (zi zj:Nat)=>CU ((aW c (⟨2,e0,0⟩:an)).U) i 10 11 zj)),(4,.cells [8,10,11] (NK ((aW c (⟨2,e0,0⟩:an)).U) i 8 10 11))]<|.gh 4 (put 7 8 10 (2*i) (2*i+1) (Q9 ((aW c (⟨2,e0,0⟩:an)).U) i 8 11) (gC ((aW c (⟨2,e0,0⟩:an)).U)))<|.gh 4 (put 7 8 11 (2*i+1) (2*(i+1)) (cP ((aW c (⟨2,e0,0⟩:an)).U) 8) (gC ((aW c (⟨2,e0,0⟩:an)).U)))<|.gh 4 (zF 7 (i+1) [8] (cP ((aW c (⟨2,e0,0⟩:an)).U) 8))<|.w 4 [(1,.val (i6 ((i+1:Nat):Int)))]<|.e))))) (.gh 17 (zF 7 c.U.length [8] (cP ((aW c (⟨2,e0,0⟩:an)).U) 8))<|.gh 17 (Nd 8 (2*c.U.length) (gC ((aW c (⟨2,e0,0⟩:an)).U)))<|.e))) Tryz.func25 rfl rfl (by kernel_rfl) ?_
   refine tt ⟨⟨rfl,fun i j hi _=>absurd hi (VN _)⟩,tt ⟨rfl,(by omega),?_⟩⟩
   intro i F'
   have hi:=F'
   refine tt (cd (fun XT=>?_) (fun XT=>?_))
   · refine tt ⟨ix,tt ?_⟩
     have Yg:=hz i (by omega)
     have hpl1:=Yg.1
     have hpl2:=Yg.2
     refine⟨oK,tt ⟨⟨by simp only[UB,UR];omega,by rfl⟩,tt ⟨oK,tt ⟨⟨by simp only[UB,UR];omega,by rfl⟩,tt ⟨rfl,⟨by omega,rfl⟩,?_⟩⟩⟩⟩⟩
     intro j gs F'
     obtain⟨hj,hgs⟩:=F'
     have hlgs:gs.length=(c.U.getD i ac).Ul.length:=by rw[hgs,ci (by omega)]
     refine tt (cd (fun Xq=>?_) (fun Xq=>?_))
     · refine tt ⟨ix,tt ⟨⟨by omega,by rw[show gs.getD j aI=(c.U.getD i ac).Ul.getD j aI from by rw[hgs,e7,Ur (Wr _)]];simp only[US];rfl⟩,tt ⟨w6,tt ⟨(j+1,gs.set j (DS (⟨2,e0,0⟩:an) ((c.U.getD i ac).Ul.getD j aI))),rfl,?_,(?_:(c.U.getD i ac).Ul.length-(j+1)<(c.U.getD i ac).Ul.length-j)⟩⟩⟩⟩
       · exact⟨by omega,by rw[hgs];exact bn (by omega) rfl⟩
       · omega
     · refine tt ⟨rfl,⟨by omega,rfl⟩,?_⟩
       intro k ms F'
       obtain⟨hk,hms⟩:=F'
       have hlms:ms.length=(c.U.getD i ac).Uk.length:=by rw[hms,ci (by omega)]
       refine tt (cd (fun hc52=>?_) (fun hc52=>?_))
       · refine tt ⟨ix,tt ⟨⟨by omega,by rw[show ms.getD k ay=(c.U.getD i ac).Uk.getD k ay from by rw[hms,e7,Ur (Wr _)]];simp only[US];rfl⟩,tt ⟨w6,tt ⟨(k+1,ms.set k (DT (⟨2,e0,0⟩:an) ((c.U.getD i ac).Uk.getD k ay))),rfl,?_,(?_:(c.U.getD i ac).Uk.length-(k+1)<(c.U.getD i ac).Uk.length-k)⟩⟩⟩⟩
         · exact⟨by omega,by rw[hms];exact bn (by omega) rfl⟩
         · omega
       · refine tt ⟨(Tv (Rf (c:=c) (r:=(⟨2,e0,0⟩:an)) (i:=i) (by omega))),⟨(Tw (by omega) rfl rfl rfl),tt ⟨(Ub (by rw[hgs,show j=(c.U.getD i ac).Ul.length by omega,bN (Ut _),vR (DS (⟨2,e0,0⟩:an)),uo (c:=c) (r:=(⟨2,e0,0⟩:an)) (i:=i) (by omega)];rfl) (by decide) (by decide)),⟨(Uc (by rw[hms,show k=(c.U.getD i ac).Uk.length by omega,bN (Ut _),vR (DT (⟨2,e0,0⟩:an)),uo (c:=c) (r:=(⟨2,e0,0⟩:an)) (i:=i) (by omega)];rfl)),⟨(Tx rfl),tt ⟨w6,tt ⟨(i+1),rfl,(?_:(i+1)≤c.U.length),(?_:c.U.length-(i+1)<c.U.length-i)⟩⟩⟩⟩⟩⟩⟩
         · omega
         · omega
   · exact⟨(Tx (by omega)),⟨⟨by omega,fun _ _=>rfl⟩,tt ⟨⟨rfl,rfl,oK⟩,rfl⟩⟩⟩
 refine tt ⟨rfl,⟨by omega,rfl⟩,?_⟩
 intro i ls F'
 obtain⟨hi,hls⟩:=F'
 have hlrl:(aW c (⟨2,e0,0⟩:an)).U.length=c.U.length:=aJ _ _
 have hlsl:ls.length=c.U.length:=by rw[hls,ci (by omega),hlrl]
 have hlsi:∀hq:i<c.U.length,ls.getD i ac=Av (⟨2,e0,0⟩:an) (c.U.getD i ac):=fun hq=>by rw[hls,e7,Ur (Wr _),uo hq]
 refine tt (cd (fun W4=>?_) (fun W4=>?_))
 · have Yg:=hz i (by omega)
   have hpl1:=Yg.1
   have hpl2:=Yg.2
   have hlsr:(ls.getD i ac).Ul.length=(c.U.getD i ac).Ul.length:=by rw[hlsi (by omega)];exact UB ..
   have hlsm:(ls.getD i ac).Uk.length=(c.U.getD i ac).Uk.length:=by rw[hlsi (by omega)];exact UB ..
   refine⟨(Ud (by omega)),⟨Tt,⟨(Ue (by omega) (by decide) (by decide)),⟨Tu,tt ⟨ix,⟨⟨⟨om,oK⟩,(Uf (Rf (c:=c) (r:=(⟨2,e0,0⟩:an)) (i:=i) (by omega)))⟩,tt ⟨rfl,⟨by omega,rfl⟩,?_⟩⟩⟩⟩⟩⟩⟩
   intro j gs F'
   obtain⟨hj,hgs⟩:=F'
   have hlgs:gs.length=(ls.getD i ac).Ul.length:=by rw[hgs,ci (by omega)]
   refine tt (cd (fun hc27=>?_) (fun hc27=>?_))
   · refine tt ⟨ix,tt ⟨⟨om,oK⟩,⟨ix,tt ⟨⟨by omega,by rw[show gs.getD j aI=(ls.getD i ac).Ul.getD j aI from by rw[hgs,e7,Ur (Wr _)]];simp only[US];rfl⟩,tt ⟨ix,tt ⟨⟨om,oK⟩,⟨(by rw[bM (by omega),Uw rfl];exact GH (by have:=(NL hnz (⟨2,e0,0⟩:an) i j).1;rw[← hlsi (by omega)]at this;exact this)),⟨ix,tt ⟨⟨by rw[UQ];omega,by rw[show(gs.set j (HY ((ls.getD i ac).Ul.getD j aI))).getD j aI=(HY ((ls.getD i ac).Ul.getD j aI))from by rw[bM (by omega),Uw rfl]];simp only[US,List.set_set];rfl⟩,tt ⟨w6,tt ⟨(j+1,gs.set j (Es ((ls.getD i ac).Ul.getD j aI))),rfl,?_,(?_:(ls.getD i ac).Ul.length-(j+1)<(ls.getD i ac).Ul.length-j)⟩⟩⟩⟩⟩⟩⟩⟩⟩⟩⟩
     · exact⟨by omega,by rw[hgs];exact bn (by omega) rfl⟩
     · omega
   · refine tt ⟨rfl,⟨by omega,rfl⟩,?_⟩
     intro k ms F'
     obtain⟨hk,hms⟩:=F'
     have hlms:ms.length=(ls.getD i ac).Uk.length:=by rw[hms,ci (by omega)]
     refine tt (cd (fun YO=>?_) (fun YO=>?_))
     · refine tt ⟨ix,tt ⟨⟨om,oK⟩,⟨ix,tt ⟨⟨by omega,by rw[show ms.getD k ay=(ls.getD i ac).Uk.getD k ay from by rw[hms,e7,Ur (Wr _)]];simp only[US];rfl⟩,tt ⟨ix,tt ⟨⟨om,oK⟩,⟨(by rw[bM (by omega),Uw rfl];exact GH (by have:=(NL hnz (⟨2,e0,0⟩:an) i k).2;rw[← hlsi (by omega)]at this;exact this)),⟨ix,tt ⟨⟨by rw[UQ];omega,by rw[show(ms.set k (HZ ((ls.getD i ac).Uk.getD k ay))).getD k ay=(HZ ((ls.getD i ac).Uk.getD k ay))from by rw[bM (by omega),Uw rfl]];simp only[US,List.set_set];rfl⟩,tt ⟨w6,tt ⟨(k+1,ms.set k (Et ((ls.getD i ac).Uk.getD k ay))),rfl,?_,(?_:(ls.getD i ac).Uk.length-(k+1)<(ls.getD i ac).Uk.length-k)⟩⟩⟩⟩⟩⟩⟩⟩⟩⟩⟩
       · exact⟨by omega,by rw[hms];exact bn (by omega) rfl⟩
       · omega
     · refine⟨(Ug (by omega) (by rw[bM (by omega),Uw rfl,hgs,show j=(ls.getD i ac).Ul.length by omega,bN (Ut _),vR Es];rfl) (fun kz hkz=>by rw[bM (by omega),Ur (fun e=>hkz e.symm)]) (by decide) (by decide)),⟨(Uh (by omega) (by rw[bM (by omega),Uw rfl,hms,show k=(ls.getD i ac).Uk.length by omega,bN (Ut _),vR Et];rfl)),⟨(Tx rfl),tt ⟨w6,tt ⟨(i+1,ls.set i (xy (ls.getD i ac))),rfl,?_,(?_:c.U.length-(i+1)<c.U.length-i)⟩⟩⟩⟩⟩
       · exact⟨by omega,by rw[hls];exact bn (by rw[show(aW c (⟨2,e0,0⟩:an)).U.length=c.U.length from aJ _ _];omega) (by rw[e7,Ur (Wr _)])⟩
       · omega
 · refine⟨⟨rfl,fun _ _=>by rw[hls,show i=c.U.length by omega,K1 (F:=xy) (G:=(u9 mW mX)) Px];rfl⟩,⟨⟨(aJ _ _),fun _ _=>rfl,Ui (TA (fun i hi=>⟨_,_,aX hi⟩))⟩,tt ⟨rfl,(congrArg _ (?_:c.J=((bo c).J))),oK⟩⟩⟩
   rfl
abbrev NM (sx:Int) (b1:List Int) (sy:Int) (b2:List Int) (oth:Bool) (ed fe pl me:List Int) (u:Ns):List aC:=[(.var 26 [(dI .u8 sx),(LY b1),(dI .u8 sy),(LY b2),(dB oth),(LY ed),(LY fe),(LY pl),(LY me)]),(.var 38 [(dL 6 bG ac ((aL sx b1 me).U)),(dL 5 ca aK ((aL sx b1 me).J)),(dL 6 bG ac ((sJ sx b1 sy b2 oth ed fe me).U)),(dL 5 ca aK ((sJ sx b1 sy b2 oth ed fe me).J)),(dL 2 bi a7 ((ex sx b1 fe pl me).U)),(dL 1 aa [] ((ex sx b1 fe pl me).J))]),(.var 32 [(dL 6 bG ac ((bo (aL sx b1 me)).U)),(dL 5 ca aK ((bo (aL sx b1 me)).J))]),(.var 43 [(dL 2 bi a7 (((au (aL sx b1 me) (bo (aL sx b1 me)) (ex sx b1 fe pl me)).1).U)),(dL 1 aa [] (((au (aL sx b1 me) (bo (aL sx b1 me)) (ex sx b1 fe pl me)).1).J)),(i6 ((au (aL sx b1 me) (bo (aL sx b1 me)) (ex sx b1 fe pl me)).2))]),.dead,.dead,.dead,.dead,(.var 36 [(dL 2 bi a7 u.U),(dL 1 aa [] u.J)]),(.var 36 [(dL 2 bi a7 u.U),(dL 1 aa [] u.J)]),.dead]
set_option maxRecDepth 100000
abbrev c3 (sx:Int) (b1:List Int) (sy:Int) (b2:List Int) (oth:Bool) (ed fe pl me:List Int) (tk:List Bool):Ct:=⟨3,[(.agg [(dI .u8 sx),(LY b1),(dI .u8 sy),(LY b2),(dB oth),(LY ed),(LY fe),(LY pl),(LY me)]),(LB tk)],false,(dB true)⟩
abbrev kB (sx:Int) (b1:List Int) (sy:Int) (b2:List Int) (oth:Bool) (ed:List Int) (fe:List Int) (pl:List Int) (me:List Int) (tk:List Bool):Lp (Nat×Ns):=nN [1,5,6,7,9,10,11] 11 (fun (i:Nat) (u:Ns)=>⟨[(1,(LB tk)),(5,(dB true)),(6,(.ptr 1 0 0 0)),(7,(.ptr 2 0 0 0)),(9,(.ptr 8 0 0 0)),(10,(.ptr 9 0 0 0)),(11,(i6 (i:Int)))],(NM sx b1 sy b2 oth ed fe pl me u)⟩) (fun (i:Nat) (u:Ns)=>i≤tk.length∧i≤24∧eG (aL sx b1 me) u∧sA u (1000000+i)) (fun (i:Nat) (u:Ns)=>tk.length-i)
abbrev kC (sx:Int) (b1:List Int) (sy:Int) (b2:List Int) (oth:Bool) (ed:List Int) (fe:List Int) (pl:List Int) (me:List Int) (tk:List Bool) (i:Nat) (u:Ns):Lp (ByteArray):=gD [1,5,6,7,9,10,11,12] 11 (fun (cb:ByteArray)=>⟨[(1,(LB tk)),(5,(dB true)),(6,(.ptr 1 0 0 0)),(7,(.ptr 2 0 0 0)),(9,(.ptr 8 0 0 0)),(10,(.ptr 9 0 0 0)),(11,(i6 (i:Int))),(12,(dS cb))],(NM sx b1 sy b2 oth ed fe pl me u)⟩) (fun (cb:ByteArray)=>True) (fun (cb:ByteArray)=>0)
theorem K4 (sx:Int) (b1:List Int) (sy:Int) (b2:List Int) (oth:Bool) (ed fe pl me:List Int) (tk:List Bool) (g0:0≤sx) (g1:sx≤255) (Zq:ic b1) (k0:0≤sy) (k1:sy≤255) (X7:ic b2) (hed:ic ed) (XR:ic fe) (Yg:ic pl) (X8:ic me) (ZA:tk.length≤9223372036854775807):CC (c3 sx b1 sy b2 oth ed fe pl me tk):=by
 have hp:Ar (aL sx b1 me) (sJ sx b1 sy b2 oth ed fe me) (ex sx b1 fe pl me):=My g0 g1 Zq k0 k1 X7 XR
 have hrc:=hp.rc
 have hol:=hp.co.cl
 have Xo:=hp.cn.cl
 have XP:=hp.co.nl
 have hnp:=hp.cn.nl
 have hsc:=hp.so.cl
 have ZD:=hp.sm
 have hm6:sA (ex sx b1 fe pl me) 1000000:=fun n=>U6 (ZD n) (by decide)
 have hci:Gx (aL sx b1 me):=KS sx b1
 have hcr:cr (bo (aL sx b1 me)):=Ck (K0 _) hp.co
 have e1:au (aL sx b1 me) (bo (aL sx b1 me)) (ex sx b1 fe pl me)=((ex sx b1 fe pl me),0):=HX hp.co hp.no hp.so hci
 have hcarr:qp (aL sx b1 me) (bo (aL sx b1 me)) (ex sx b1 fe pl me):=(FZ hp.co hcr (KX (Gy _) (.inl rfl)) hp.so hm6).1
 refine ah.vc (V:=TT 2 (CC c4∧TT 4 (CC (c5 sx b1 sy b2 oth ed fe pl me)∧TT 4 (CC (c6 (aL sx b1 me))∧TT 7 (CC (c7 (aL sx b1 me) (bo (aL sx b1 me)) (ex sx b1 fe pl me))∧TT 5 ((True∧(!decide (((au (aL sx b1 me) (bo (aL sx b1 me)) (ex sx b1 fe pl me)).2)=0))=false)∧TT 3 (CC (c8 (bo (aL sx b1 me)) ((au (aL sx b1 me) (bo (aL sx b1 me)) (ex sx b1 fe pl me)).1))∧TT 2 ((!(cC (bo (aL sx b1 me)) ((au (aL sx b1 me) (bo (aL sx b1 me)) (ex sx b1 fe pl me)).1)))=false∧TT 3 ((True∧((((au (aL sx b1 me) (bo (aL sx b1 me)) (ex sx b1 fe pl me)).1).U).map bi=((ex sx b1 fe pl me).U).map bi∧(((au (aL sx b1 me) (bo (aL sx b1 me)) (ex sx b1 fe pl me)).1).J).map aa=((ex sx b1 fe pl me).J).map aa∧True))∧TT 5 (GO (kB sx b1 sy b2 oth ed fe pl me tk) (0,(ex sx b1 fe pl me)) (∀i u,(kB sx b1 sy b2 oth ed fe pl me tk).inv (i,u)→CS ((i:Int)<(tk.length:Int)) (TT 4 ((True∧(decide ((i:Int)<(tk.length:Int)))=true)∧TT 3 (CD ((i:Int)<24) (TT 1 (TT 2 (IX (i:Int) tk.length∧TT 1 (CB ((tk.getD i false)) (TT 1 (AT (kC sx b1 sy b2 oth ed fe pl me tk i u) (bs [98]))) (AT (kC sx b1 sy b2 oth ed fe pl me tk i u) (bs [97]))))∧∀cb,(kC sx b1 sy b2 oth ed fe pl me tk i u).inv cb→TT 4 (CC (c9 (aL sx b1 me) u cb)∧TT 9 (CC (c9 (bo (aL sx b1 me)) u cb)∧TT 8 (CC (Tg (tab (aV (aL sx b1 me) u (bE (aL sx b1 me) cb)) (aL sx b1 me).U.length) (tab (aV (bo (aL sx b1 me)) u (bE (bo (aL sx b1 me)) cb)) (bo (aL sx b1 me)).U.length))∧TT 1 ((True∧(!decide ((tab (aV (aL sx b1 me) u (bE (aL sx b1 me) cb)) (aL sx b1 me).U.length)=(tab (aV (bo (aL sx b1 me)) u (bE (bo (aL sx b1 me)) cb)) (bo (aL sx b1 me)).U.length)))=false)∧TT 2 (CC (MV (bx (aL sx b1 me) u (bE (aL sx b1 me) cb)) (bx (bo (aL sx b1 me)) u (bE (bo (aL sx b1 me)) cb)))∧TT 2 ((True∧(!(cZ (bx (aL sx b1 me) u (bE (aL sx b1 me) cb)) (bx (bo (aL sx b1 me)) u (bE (bo (aL sx b1 me)) cb))))=false)∧TT 3 (CC (c8 (aL sx b1 me) (bx (aL sx b1 me) u (bE (aL sx b1 me) cb)))∧TT 2 ((True∧(!(cC (aL sx b1 me) (bx (aL sx b1 me) u (bE (aL sx b1 me) cb))))=false)∧TT 2 (CC (c8 (bo (aL sx b1 me)) (bx (bo (aL sx b1 me)) u (bE (bo (aL sx b1 me)) cb)))∧TT 2 ((!(cC (bo (aL sx b1 me)) (bx (bo (aL sx b1 me)) u (bE (bo (aL sx b1 me)) cb))))=false∧TT 2 ((True∧(((bx (bo (aL sx b1 me)) u (bE (bo (aL sx b1 me)) cb)).U).map bi=((bx (aL sx b1 me) u (bE (aL sx b1 me) cb)).U).map bi∧((bx (bo (aL sx b1 me)) u (bE (bo (aL sx b1 me)) cb)).J).map aa=((bx (aL sx b1 me) u (bE (aL sx b1 me) cb)).J).map aa∧True))∧TT 2 (W6 ((i+1:Nat):Int)∧TT 1 (AG (kB sx b1 sy b2 oth ed fe pl me tk) (i,u) (i+1,(bx (aL sx b1 me) u (bE (aL sx b1 me) cb)))))))))))))))))) (TT 2 (CC (MV u u)∧(True∧(cZ u u)=true)∧TT 4 (true=true∧True)))))) (TT 4 ((True∧(decide ((i:Int)<(tk.length:Int)))=false)∧TT 5 (CC (MV u u)∧(True∧(cZ u u)=true)∧TT 4 (true=true∧True))))))))))))))) (.w 1 [(0,c4.O)]<|.w 4 [(1,(c5 sx b1 sy b2 oth ed fe pl me).O)]<|.w 5 [(2,(c6 (aL sx b1 me)).O)]<|.w 6 [(5,(c7 (aL sx b1 me) (bo (aL sx b1 me)) (ex sx b1 fe pl me)).O)]<|.w 7 [(3,.val (dB false)),(7,(c8 (bo (aL sx b1 me)) ((au (aL sx b1 me) (bo (aL sx b1 me)) (ex sx b1 fe pl me)).1)).O)]<|.u 40 (.w 9 [(3,.val (.agg [(dL 2 bi a7 ((ex sx b1 fe pl me).U)),(dL 1 aa [] ((ex sx b1 fe pl me).J))])),(6,.val .junk)]<|.l (kB sx b1 sy b2 oth ed fe pl me tk) (0,(ex sx b1 fe pl me)) (fun ⟨i,u⟩=>.s 11 ((i:Int)<(tk.length:Int)) (.w 11 [(4,.val (dB true))]<|.b 52 (.k 14 (kC sx b1 sy b2 oth ed fe pl me tk i u) (.b 58 (.e) (.e)) (fun cb=>.w 16 [(4,(c9 (aL sx b1 me) u cb).O)]<|.w 17 [(3,(c9 (bo (aL sx b1 me)) u cb).O)]<|.w 18 [(2,(Tg (tab (aV (aL sx b1 me) u (bE (aL sx b1 me) cb)) (aL sx b1 me).U.length) (tab (aV (bo (aL sx b1 me)) u (bE (bo (aL sx b1 me)) cb)) (bo (aL sx b1 me)).U.length)).O),(4,.val (dB false)),(7,(MV (bx (aL sx b1 me) u (bE (aL sx b1 me) cb)) (bx (bo (aL sx b1 me)) u (bE (bo (aL sx b1 me)) cb))).O),(10,.val (dB false)),(14,(c8 (aL sx b1 me) (bx (aL sx b1 me) u (bE (aL sx b1 me) cb))).O),(17,.val (dB false)),(20,(c8 (bo (aL sx b1 me)) (bx (bo (aL sx b1 me)) u (bE (bo (aL sx b1 me)) cb))).O)]<|.u 96 (.w 21 [(0,.val (.agg [(dL 2 bi a7 ((bx (aL sx b1 me) u (bE (aL sx b1 me) cb)).U)),(dL 1 aa [] ((bx (aL sx b1 me) u (bE (aL sx b1 me) cb)).J))]))]<|.w 12 [(1,.val (i6 ((i+1:Nat):Int)))]<|.e))) (.w 22 [(2,(MV u u).O),(3,.val (dB true))]<|.e)) (.w 11 [(4,.val (dB false))]<|.w 22 [(2,(MV u u).O),(3,.val (dB true))]<|.e)))) Tryz.func3 rfl rfl rfl (by kernel_rfl) ?_
 refine tt ⟨(CG),tt ⟨(Pq sx b1 sy b2 oth ed fe pl me g0 g1 Zq k0 k1 X7 hed XR Yg X8),tt ⟨(PA (aL sx b1 me) (U6 XP (by decide)) (OM hp.co) (Pz sx b1 me)),tt ⟨(lG (aL sx b1 me) (bo (aL sx b1 me)) (ex sx b1 fe pl me) hcarr),tt ⟨(nF (by rw[e1])),tt ⟨(ru (bo (aL sx b1 me)) ((au (aL sx b1 me) (bo (aL sx b1 me)) (ex sx b1 fe pl me)).1) hcr (fun z=>U6 (OS hm6 z) (by decide))),tt ⟨(ya (qT.2 (by rw[e1];exact Er hp.so))),tt ⟨⟨oK,(by rw[e1];exact⟨rfl,rfl,oK⟩)⟩,tt ⟨rfl,⟨by omega,by omega,hp.so,hm6⟩,?_⟩⟩⟩⟩⟩⟩⟩⟩⟩
 intro i u F'
 obtain⟨hi,hi24,WX,hum⟩:=F'
 refine⟨fun N'=>?_,fun N'=>?_⟩
 · refine tt ⟨(vT N'),tt (cd (fun hc52=>?_) (fun hc52=>?_))⟩
   · refine tt ⟨?_,?_⟩
     · refine tt ⟨ix,tt ⟨fun YO=>?_,fun YO=>?_⟩⟩
       · refine tt ⟨(bs [98]),rfl,(?_:True)⟩
         · trivial
       · refine⟨(bs [97]),rfl,(?_:True)⟩
         · trivial
     · intro cb F'
       have hcb:=F'
       refine tt ⟨(Cu (aL sx b1 me) u cb hp.co WX (fun z=>by have:=hum z;omega)),tt ⟨(Cu (bo (aL sx b1 me)) u cb hcr (Er WX) (fun z=>by have:=hum z;omega)),tt ⟨(KK (tab (aV (aL sx b1 me) u (bE (aL sx b1 me) cb)) (aL sx b1 me).U.length) (tab (aV (bo (aL sx b1 me)) u (bE (bo (aL sx b1 me)) cb)) (bo (aL sx b1 me)).U.length) (by rw[aJ];omega)),tt ⟨(nF (by rw[ta,HW];exact congrArg (tab _) (aJ _ _).symm)),tt ⟨(pN (bx (aL sx b1 me) u (bE (aL sx b1 me) cb)) (bx (bo (aL sx b1 me)) u (bE (bo (aL sx b1 me)) cb)) (DM hp.co (tP hp.co WX _) (fun z=>by have:=t1 (w:=bE (aL sx b1 me) cb) hp.co hum z;omega))),tt ⟨(mF (mh.2 (by rw[ta,vU]))),tt ⟨(ru (aL sx b1 me) (bx (aL sx b1 me) u (bE (aL sx b1 me) cb)) hp.co (fun z=>by have:=t1 (w:=bE (aL sx b1 me) cb) hp.co hum z;omega)),tt ⟨(mF (qT.2 (tP hp.co WX _))),tt ⟨(ru (bo (aL sx b1 me)) (bx (bo (aL sx b1 me)) u (bE (bo (aL sx b1 me)) cb)) hcr (by rw[ta,vU];exact(fun z=>by have:=t1 (w:=bE (aL sx b1 me) cb) hp.co hum z;omega))),tt ⟨(ya (qT.2 (by rw[ta,vU];exact Er (tP hp.co WX _)))),tt ⟨⟨oK,(by rw[ta,vU];exact⟨rfl,rfl,oK⟩)⟩,tt ⟨w6,tt ⟨(i+1,(bx (aL sx b1 me) u (bE (aL sx b1 me) cb))),rfl,?_,(?_:tk.length-(i+1)<tk.length-i)⟩⟩⟩⟩⟩⟩⟩⟩⟩⟩⟩⟩⟩
       · exact⟨by omega,by omega,tP hp.co WX _,t1 hp.co hum⟩
       · omega
   · exact tt ⟨(pN u u (DM hp.co WX (fun z=>by have:=hum z;omega))),⟨(bT (mh.2 rfl)),tt ⟨rfl,oK⟩⟩⟩
 · exact tt ⟨(vF N'),tt ⟨(pN u u (DM hp.co WX (fun z=>by have:=hum z;omega))),⟨(bT (mh.2 rfl)),tt ⟨rfl,oK⟩⟩⟩⟩
abbrev K5 (k:IntKind) (x:Int):Prop:=(Lit.int k x).wf=true
def yW {α:Type} (enc:α→Value) (S:Nat→Prop) (w:World) (v:Value) (l:List α):Prop :=
 ∃(p:Option Addr) (c:Nat),v=.slice p l.length c∧l.length≤c∧c≤maxLen∧(p=none→c=0) ∧
  (0<l.length→∃b J',p=some ⟨b,J',none⟩∧S b∧b<w.heap.size∧∀(i:Nat) (x:α),l[i]?=some x→w.cell? ⟨b,J'+i,none⟩=some (enc x))
theorem yW.stable {α:Type} (enc:α→Value) (l:List α):kD (fun S v w=>yW enc S w v l):=by
 rintro S S' v w w' ⟨p,c,rfl,h1,h2,h3,h4⟩ hS hw WE
 refine⟨p,c,rfl,h1,h2,h3,fun h0=>?_⟩
 obtain⟨b,J',rfl,q1,q2,q3⟩:=h4 h0
 refine⟨b,J',rfl,hS b q1 q2,by omega,fun i x hx=>?_⟩
 rw[← q3 i x hx]
 exact Wi (hw b q1 q2)
theorem yW.mono {α:Type} {enc:α→Value} {l:List α} {S S':Nat→Prop} {w w':World} {v:Value} (h:yW enc S w v l) (hS:∀b,S b→b<w.heap.size→S' b)
  (hb:Below w.heap.size w w'):yW enc S' w' v l:=yW.stable enc l S S' v w w' h hS (fun b _ Xa=>hb.block b Xa) hb.size
open Go.ChangeShapes Go.WideShapes Go.ChangeAt Go.RowKit
set_option linter.unusedVariables false
set_option linter.unusedSimpArgs false
section
variable {H:Type} {enc:TypeId×Value→H} {P:Program} {W:World}
theorem yX {α:Type} {S:Nat→Prop} {t e:TypeId} {WF:α→List V} {d0:α} {good:α→Prop} {fuel:Nat} {cs:List Value} {x:DataW H×List MemPlace} (ht:P.underlying t=some (.slice e)) (hc:P.cellsOf e=1) (hS:∀b,b<W.heap.size→S b)
  (he:∀fuel cs y,DataW.trod enc P W 0 (fun _=>true) true fuel e cs=some y→∃v a y0,cs=[v]∧good a∧WF a=[y0]∧eh S W y0 v) (h:DataW.trod enc P W 0 (fun _=>true) true fuel t cs=some x) :
  ∃v l,cs=[v]∧(∀a∈l,good a)∧l.length≤maxLen∧eh S W (.sl 1 WF d0 l) v:=by
 rcases DataW.trod_slice ht h with ⟨rfl,_⟩ | ⟨a,len,cap,elems,rest,n,_,rfl,rfl,_,hl,hm,WA,hel,_,_⟩
 ·exact⟨_,[],rfl,fun a ha=>by simp at ha,by simp,.nil _ _ _ _ _ (by omega) (fun _=>rfl)⟩
 by_cases h0:len=0
 ·subst h0
  exact⟨_,[],rfl,fun a ha=>by simp at ha,by simp,.nil _ _ _ _ _ hm (fun h=>by cases h)⟩
 have each:∀i,∃a':α,i<len→∃v y0,W.cell? (a.add i)=some v∧good a'∧WF a'=[y0]∧eh S W y0 v:=by
  intro i
  by_cases hi:i<len
  ·have h1:=hel i hi
   rw[Uq (by omega),hc,Nat.mul_one,Option.bind_eq_some_iff]at h1
   obtain⟨cs',hcs,hy⟩:=h1
   obtain⟨v,a',y0,rfl,g1,g2,g3⟩:=he _ _ _ hy
   exact⟨a',fun _=>⟨v,y0,cell_of_cells?_one hcs,g1,g2,g3⟩⟩
  ·exact⟨d0,fun h=>(hi h).elim⟩
 obtain⟨f,hf⟩:=Classical.axiomOfChoice each
 obtain⟨b,J',spot⟩:=a
 obtain⟨v0,_,h00,_⟩:=hf 0 (by omega)
 have hspot:spot=none:=by simpa[Addr.add]using World.cell?_spot h00
 subst hspot
 have hadd:∀i,(⟨b,J',none⟩:Addr).add i=⟨b,J'+i,none⟩:=fun i=>by unfold Addr.add;split<;>simp_all
 have hb:b<W.heap.size:=by
  have:=h00
  unfold World.cell? at this
  simp only[Addr.add,V5]at this
  split at this
  ·rename_i hb
   exact(UC.1 hb).1
  ·cases this
 have W7:∀(i:Nat) (x:α),((List.range len).map f)[i]?=some x→i<len∧x=f i:=by
  intro i x hx
  simp only[UJ,Option.map_eq_some_iff]at hx
  obtain⟨j,hj,rfl⟩:=hx
  obtain⟨h1,h2⟩:=Up.1 hj
  simp at h1 h2
  exact⟨h1,by rw[h2]⟩
 refine⟨_,(List.range len).map f,rfl,?_,by simp;omega,.row 1 WF d0 _ b J' cap len (fun i _=>(W.cell? ⟨b,J'+i,none⟩).getD undef) (hS b hb) hb (by simp) hl hm ?_ ?_ ?_⟩
 ·intro a' ha
  obtain⟨i,hi⟩:=List.getElem?_of_mem ha
  obtain⟨h1,rfl⟩:=W7 i a' hi
  obtain⟨_,_,_,g,_⟩:=hf i h1
  exact g
 ·intro i x hx
  obtain⟨h1,rfl⟩:=W7 i x hx
  obtain⟨_,_,_,_,g,_⟩:=hf i h1
  rw[g];rfl
 ·intro i x j y hx hy
  obtain⟨h1,rfl⟩:=W7 i x hx
  obtain⟨v,y0,g0,_,g,g2⟩:=hf i h1
  rw[g]at hy
  have hj:j=0:=by
   cases j with
   | zero=>rfl
   | succ j=>simp at hy
  subst hj
  rw[hadd]at g0
  rw[Nat.mul_one,VM,g0]
  rfl
 ·intro i x j y hx hy
  obtain⟨h1,rfl⟩:=W7 i x hx
  obtain⟨v,y0,g0,_,g,g2⟩:=hf i h1
  rw[g]at hy
  have hj:j=0:=by
   cases j with
   | zero=>rfl
   | succ j=>simp at hy
  subst hj
  simp only[List.getElem?_cons_zero,UA]at hy
  subst hy
  rw[hadd]at g0
  simp only[g0,Wk]
  exact g2
theorem f7 {S:Nat→Prop} {t e:TypeId} {k:IntKind} {fuel:Nat} {cs:List Value} {x:DataW H×List MemPlace} (ht:P.underlying t=some (.slice e)) (he:P.underlying e=some (.int k)) (hc:P.cellsOf e=1) (hS:∀b,b<W.heap.size→S b)
  (h:DataW.trod enc P W 0 (fun _=>true) true fuel t cs=some x):∃v l,cs=[v]∧(∀n∈l,K5 k n)∧l.length≤maxLen∧eh S W (.sl 1 (ab k) 0 l) v :=
 yX ht hc hS (fun fuel cs y hy=>by
  obtain⟨n,e1,_,e3⟩:=DataW.trod_int he hy
  exact⟨_,n,_,e1,e3,rfl,.int _ _⟩) h
theorem Eu {f:FuncId} {ys:List D} {al b:Bool} (h:ah P f ys [] al (dB b) []) (us:Array Value) (W:World) (hr:aU (fun b=>b<W.heap.size) (fun _=>undef) W ys us) (hg:gG (fun b=>b<W.heap.size) W:=by exact GL rfl) :
  Calls P f us W (fun e W'=>e=.returned (.bool b)∧Below W.heap.size W W'):=by
 refine(h (fun b=>b<W.heap.size) (fun _=>undef) W us (fun _ h=>h) hg ⟨fun id B hB=>by simp at hB,fun i j A B b hA=>by simp at hA,fun i A b hA=>by simp at hA⟩ hr).mono ?_
 rintro e w' ⟨u,μ',S',rfl,h1,h2,h3,h4,h5,_,_,_,h9,_⟩
 refine⟨?_,⟨h1,h2,h3,h4,fun k hk=>h5 k hk (fun i A hA=>by simp at hA)⟩⟩
 rw[f9 h9]
theorem xf {x:Int} (h:K5 .u8 x):0≤x∧x<256:=by
 have h1:IntKind.u8.min≤x∧x≤IntKind.u8.max:=by simpa[K5,Lit.wf]using h
 have h2:IntKind.u8.min=0:=rfl
 have h3:IntKind.u8.max=255:=rfl
 omega
theorem xg {t:TypeId} {fs:Array Field} {fuel:Nat} {cs:List Value} {x:DataW H×List MemPlace} (ht:P.underlying t=some (.struct fs)) (h:DataW.trod enc P W 0 (fun _=>true) true fuel t cs=some x) :
  ∃n,∀(i:Nat) (f:Field),fs[i]?=some f→∃y,DataW.trod enc P W 0 (fun _=>true) true n f.type ((cs.drop f.offset).take (P.cellsOf f.type))=some y:=by
 obtain⟨xs,n,_,_,_,WA,hf⟩:=DataW.trod_struct ht h
 refine⟨n,fun i f hi=>?_⟩
 have h1:=hf i f hi
 have h2:=(UC.1 hi).1
 rw[Uq (by omega)]at h1
 exact⟨_,h1⟩
theorem xz {r:Reach} {base:Nat} {t:TypeId} {fs:Array Field} {v:Value} {m:Nat} (ht:P.underlying t=some (.struct fs)) (hm:P.cellsOf t=m) (hv:Value.okWide P W r base t v):∃cs:List Value,v=.agg cs.toArray∧cs.length=m:=by
 unfold Value.okWide at hv
 rw[ht]at hv
 obtain⟨cs,rfl,hs,_⟩:=hv
 exact⟨cs.toList,by simp,by simp[hs,hm]⟩
def AQ (S:Nat→Prop) (μ:Nat→Value) (w:World):List D→List Value→Prop
 | [],[]=>True
 | d::ds,u::us=>aq S μ w d u∧AQ S μ w ds us
 | _,_=>False
theorem AQ.at {S:Nat→Prop} {μ:Nat→Value} {w:World}:∀{ds:List D} {us:List Value},AQ S μ w ds us→us.length=ds.length∧∀(j:Nat) (y:D) (u:Value),ds[j]?=some y→us[j]?=some u→aq S μ w y u
 | [],[],_=>⟨rfl,fun j y u hy=>by simp at hy⟩
 | d::ds,u::us,h=>by
  obtain⟨h1,h2⟩:=h.2.at
  refine⟨by simp[h1],fun j y z hy hz=>?_⟩
  match j with
  | 0=>simp at hy hz;subst hy hz;exact h.1
  | j+1=>exact h2 j y z (by simpa using hy) (by simpa using hz)
 | [],_::_,h=>h.elim
 | _::_,[],h=>h.elim
theorem M4 {S:Nat→Prop} {μ:Nat→Value} {w:World} {ds:List D} {us:List Value} (h:AQ S μ w ds us):aq S μ w (.agg ds) (.agg us.toArray) :=
 .agg _ _ (by simpa using h.at.1) (fun j y u hy hu=>h.at.2 j y u hy (by simpa using hu))
end
section
variable {H:Type} {enc:TypeId×Value→H} {P:Program} {W:World}
theorem AR {S:Nat→Prop} {t e:TypeId} {fuel:Nat} {cs:List Value} {x:DataW H×List MemPlace} (ht:P.underlying t=some (.slice e)) (he:P.underlying e=some .bool) (hc:P.cellsOf e=1) (hS:∀b,b<W.heap.size→S b)
  (h:DataW.trod enc P W 0 (fun _=>true) true fuel t cs=some x):∃v l,cs=[v]∧l.length≤maxLen∧eh S W (.sl 1 ba false l) v:=by
 obtain⟨v,l,e1,_,h2,h3⟩:=yX (good:=fun _=>True) (WF:=ba) (d0:=false) ht hc hS (fun fuel cs y hy=>by
  obtain⟨n,e1,_⟩:=DataW.trod_bool he hy
  exact⟨_,n,_,e1,⟨⟩,rfl,.bool _⟩) h
 exact⟨v,l,e1,h2,h3⟩
theorem Rh {α:Type} (l:List α) (h:l.length=9):∃a b c d e f g i j,l=[a,b,c,d,e,f,g,i,j]:=by
 match l,h with
 | [a,b,c,d,e,f,g,i,j],_=>exact⟨a,b,c,d,e,f,g,i,j,rfl⟩
end
theorem ut {l:List Int} (h:∀n∈l,K5 .u8 n):ic l:=fun x hx=>by
 have:=xf (h x hx);omega
theorem GI {x:Int} (h:K5 .u8 x):0≤x∧x≤255:=by have:=xf h;omega
theorem PB {S:Nat→Prop} {μ:Nat→Value} {w:World} {x y:D} {u v:Value} (h:aq S μ w x u) (k:aq S μ w y v):aU S μ w [x,y] #[u,v]:=⟨rfl,fun j a z hy hz=>by
 match j with
 | 0=>simp at hy hz;subst hy hz;exact h
 | 1=>simp at hy hz;subst hy hz;exact k
 | j+2=>simp at hy⟩
end Go.Proofs.YtnlmlkbaflmgcaaGreat
