/-
  Package process: values of expressions.
-/
import Derived.Test.YtckgpflobhpnpaaGreatQVbM
import Derived.Test.YtckgpflobhpnpaaGreatQPrQ
namespace Go.Proofs.YtckgpflobhpnpaaGreat
open Go.RowKit
set_option linter.unusedVariables false
set_option linter.unusedSimpArgs false
set_option maxRecDepth 100000
abbrev KJ (p:Pr) (s:Ps) (data:List Int) (n:Nat) (e:Ex):Ct:=⟨80,[(.agg [(dS p.name),(dS p.clock),(dL 13 kr cC p.regs),(dL 27 wo bi p.mems),(dL 9 kt aO p.takes),(dL 16 nJ aK p.puts),(LI s.regs),(dL 1 ac [] s.mems),(LI data)]),(.agg [(i6 e.op),(dS e.name),(i6 e.k.n),(dS e.k.p),(i6 e.w.n),(dS e.w.p),(dL 7 (eA n) dE e.args)])],false,(.tup [(i6 ((bK p s data e).1)),(i6 ((bK p s data e).2))])⟩
abbrev zx (p:Pr) (s:Ps) (data:List Int) (n:Nat) (e:Ex):Lp (Nat):=li [2,3,6,9,10,90,91,92] 4 (fun (i:Nat)=>⟨[(2,(.ptr 0 0 0 0)),(3,(.ptr 1 0 0 0)),(6,(i6 e.k.n)),(9,(.own 2)),(10,(.own 3)),(90,(dL 7 (eA (n+1)) dE e.args)),(91,(i6 (e.args.length:Int))),(92,(i6 (i:Int)))],[(.var 174 [(dS p.name),(dS p.clock),(dL 13 kr cC p.regs),(dL 27 wo bi p.mems),(dL 9 kt aO p.takes),(dL 16 nJ aK p.puts),(LI s.regs),(dL 1 ac [] s.mems),(LI data)]),(.var 111 [(i6 e.op),(dS e.name),(i6 e.k.n),(dS e.k.p),(i6 e.w.n),(dS e.w.p),(dL 7 (eA (n+1)) dE e.args)]),(.arr 3 1 (ae .i64) 0 (mX p s data (e.args.take i))),(.arr 3 1 (ae .i64) 0 (jb p s data (e.args.take i)))]⟩) (fun (i:Nat)=>i≤e.args.length) (fun (i:Nat)=>e.args.length-i)
theorem HY (p:Pr) (s:Ps) (data:List Int) (n:Nat) (e:Ex) (c:Sc) (v:Int) (ho:zw c p s data) (ht:fq c e=some v) (ih:∀a∈e.args,CC (KJ p s data n a)):CC (KJ p s data (n+1) e):=by
 have hal:=MV ht
 refine ah.vc (V:=TT 12 (CD (e.op=16) (TT 4 (IX e.k.n s.regs.length∧TT 5 (IX e.k.n p.regs.length∧TT 6 (((s.regs.getD e.k.n.toNat 0)=((bK p s data e).1)∧((p.regs.getD e.k.n.toNat cC).w)=((bK p s data e).2)∧True)∧(True∧True∧True))))) (TT 2 (CD (e.op=18) (TT 3 (IX e.k.n data.length∧TT 5 (IX e.k.n p.takes.length∧TT 6 (((data.getD e.k.n.toNat 0)=((bK p s data e).1)∧((p.takes.getD e.k.n.toNat aO).w)=((bK p s data e).2)∧True)∧(True∧True∧True))))) (TT 2 (CD (e.op=17) (TT 3 (IX 0 e.args.length∧TT 1 (CC (KJ p s data n (e.args.getD 0 dE))∧TT 9 (IX e.k.n s.mems.length∧TT 6 (IX e.k.n s.mems.length∧TT 2 ((((s.mems.getD e.k.n.toNat []).length:Nat):Int)≠0∧IX (Int.tmod ((bK p s data (e.args.getD 0 dE)).1) (((s.mems.getD e.k.n.toNat []).length:Nat):Int)) ((s.mems.getD e.k.n.toNat []).length)∧TT 5 (IX e.k.n p.mems.length∧TT 6 ((((s.mems.getD e.k.n.toNat []).getD ((Int.tmod ((bK p s data (e.args.getD 0 dE)).1) (((s.mems.getD e.k.n.toNat []).length:Nat):Int)).toNat) 0)=((bK p s data e).1)∧((p.mems.getD e.k.n.toNat bi).w)=((bK p s data e).2)∧True)∧(True∧True∧True))))))))) (TT 6 (GO (zx p s data n e) 0 (∀i,(zx p s data n e).inv i→TT 1 (CD ((i:Int)<(e.args.length:Int)) (IX (i:Int) e.args.length∧TT 5 (CC (KJ p s data n (e.args.getD i dE))∧TT 7 (ap [[(i6 ((bK p s data (e.args.getD i dE)).1))]] ([(bK p s data (e.args.getD i dE)).1].map (ae .i64))∧((mX p s data (e.args.take i)).length+([(bK p s data (e.args.getD i dE)).1].map (ae .i64)).length≤137438953472∧(mX p s data (e.args.take i)).map (ae .i64)++[(bK p s data (e.args.getD i dE)).1].map (ae .i64)=(mX p s data (e.args.take (i+1))).map (ae .i64))∧TT 2 (ap [[(i6 ((bK p s data (e.args.getD i dE)).2))]] ([(bK p s data (e.args.getD i dE)).2].map (ae .i64))∧((jb p s data (e.args.take i)).length+([(bK p s data (e.args.getD i dE)).2].map (ae .i64)).length≤137438953472∧(jb p s data (e.args.take i)).map (ae .i64)++[(bK p s data (e.args.getD i dE)).2].map (ae .i64)=(jb p s data (e.args.take (i+1))).map (ae .i64))∧TT 2 (W6 ((i+1:Nat):Int)∧TT 1 (AG (zx p s data n e) i (i+1))))))) (TT 11 ((0≤(0:Int)∧(0:Int)≤(2:Int)∧(2:Int)≤(2:Int))∧CK (MR e.op (jb p s data (e.args.take i)) (mX p s data (e.args.take i)) [e.k.n,e.w.n])∧TT 9 (CK (MQ e.op (jb p s data (e.args.take i)) e.k.n e.w.n)∧TT 11 (((dZ e.op (jb p s data (e.args.take i)) (mX p s data (e.args.take i)) [e.k.n,e.w.n])=((bK p s data e).1)∧(gy e.op (jb p s data (e.args.take i)) e.k.n e.w.n)=((bK p s data e).2)∧True)∧(True∧True∧True))))))))))))))) (.b 25 (.e) (.b 40 (.e) (.b 54 (.w 8 [(5,(KJ p s data n (e.args.getD 0 dE)).O)]<|.e) (.gs 11 9 3 1 (ae .i64) 0<|.gs 11 10 3 1 (ae .i64) 0<|.l (zx p s data n e) 0 (fun i=>.b 93 (.w 14 [(2,(KJ p s data n (e.args.getD i dE)).O)]<|.w 15 [(2,.box 3 1 (ae .i64) 0 [(bK p s data (e.args.getD i dE)).1]),(3,.box 3 1 (ae .i64) 0 (mX p s data (e.args.take (i+1)))),(6,.box 3 1 (ae .i64) 0 [(bK p s data (e.args.getD i dE)).2]),(7,.box 3 1 (ae .i64) 0 (jb p s data (e.args.take (i+1))))]<|.w 16 [(0,.val (i6 ((i+1:Nat):Int)))]<|.e) (.f 18 4<|.w 18 [(5,(MR e.op (jb p s data (e.args.take i)) (mX p s data (e.args.take i)) [e.k.n,e.w.n]).O')]<|.w 19 [(4,(MQ e.op (jb p s data (e.args.take i)) e.k.n e.w.n).O')]<|.e)))))) Tryz.func80 rfl rfl rfl (by kernel_rfl) ?_
 refine tt (cd (fun hc25=>?_) (fun hc25=>?_))
 · obtain⟨h1,h2,h3⟩:=MW ho ht hc25
   refine tt ⟨ix,tt ⟨ix,tt ⟨⟨?_,?_,oK⟩,⟨oK,oK,oK⟩⟩⟩⟩
   all_goals (first | exact(nM hc25).1.symm | exact(nM hc25).2.symm | exact(jT hc40).1.symm | exact(jT hc40).2.symm | exact(jU hc54 hlen).1.symm | exact(jU hc54 hlen).2.symm | (rw[hie,List.take_length];exact(t9 hc25 hc40 hc54).1.symm) | (rw[hie,List.take_length];exact(t9 hc25 hc40 hc54).2.symm))
 · refine tt (cd (fun hc40=>?_) (fun hc40=>?_))
   · obtain⟨h1,h2,h3⟩:=KH ho ht hc40
     refine tt ⟨ix,tt ⟨ix,tt ⟨⟨?_,?_,oK⟩,⟨oK,oK,oK⟩⟩⟩⟩
     all_goals (first | exact(nM hc25).1.symm | exact(nM hc25).2.symm | exact(jT hc40).1.symm | exact(jT hc40).2.symm | exact(jU hc54 hlen).1.symm | exact(jU hc54 hlen).2.symm | (rw[hie,List.take_length];exact(t9 hc25 hc40 hc54).1.symm) | (rw[hie,List.take_length];exact(t9 hc25 hc40 hc54).2.symm))
   · refine tt (cd (fun hc54=>?_) (fun hc54=>?_))
     · obtain⟨h1,h2,h3,hlen,h4,h5,h6⟩:=KI ho ht hc54
       refine tt ⟨ix,tt ⟨(ih _ (oV (by omega))),tt ⟨ix,tt ⟨ix,tt ⟨om,⟨ix,tt ⟨ix,tt ⟨⟨?_,?_,oK⟩,⟨oK,oK,oK⟩⟩⟩⟩⟩⟩⟩⟩⟩
       all_goals (first | exact(nM hc25).1.symm | exact(nM hc25).2.symm | exact(jT hc40).1.symm | exact(jT hc40).2.symm | exact(jU hc54 hlen).1.symm | exact(jU hc54 hlen).2.symm | (rw[hie,List.take_length];exact(t9 hc25 hc40 hc54).1.symm) | (rw[hie,List.take_length];exact(t9 hc25 hc40 hc54).2.symm))
     · refine tt ⟨rfl,(by omega),?_⟩
       intro i hinv
       have hi:=hinv
       refine tt (cd (fun hc93=>?_) (fun hc93=>?_))
       · refine⟨ix,tt ⟨(ih _ (oV (by omega))),tt ⟨⟨⟨rfl,oK⟩,oK⟩,⟨⟨by first | (simp[mX];done) | (simp[mX];omega),by rw[Gf (by omega),List.map_append]⟩,tt ⟨⟨⟨rfl,oK⟩,oK⟩,⟨⟨by first | (simp[jb];done) | (simp[jb];omega),by rw[Gg (by omega),List.map_append]⟩,tt ⟨w6,tt ⟨(i+1),rfl,(?_:(i+1)≤e.args.length),(?_:e.args.length-(i+1)<e.args.length-i)⟩⟩⟩⟩⟩⟩⟩⟩
         · omega
         · omega
       · have hie:i=e.args.length:=by omega
         refine tt ⟨om,⟨⟨dU _ rfl,(HV e.op (jb p s data (e.args.take i)) (mX p s data (e.args.take i)) [e.k.n,e.w.n] (by rw[A8,List.length_take];omega) (by rw[HX,List.length_take];omega))⟩,tt ⟨⟨dU _ rfl,(HU e.op (jb p s data (e.args.take i)) e.k.n e.w.n (by rw[A8,List.length_take];omega))⟩,tt ⟨⟨?_,?_,oK⟩,⟨oK,oK,oK⟩⟩⟩⟩⟩
         all_goals (first | exact(nM hc25).1.symm | exact(nM hc25).2.symm | exact(jT hc40).1.symm | exact(jT hc40).2.symm | exact(jU hc54 hlen).1.symm | exact(jU hc54 hlen).2.symm | (rw[hie,List.take_length];exact(t9 hc25 hc40 hc54).1.symm) | (rw[hie,List.take_length];exact(t9 hc25 hc40 hc54).2.symm))
theorem EI {c:Sc} {p:Pr} {s:Ps} {data:List Int} (ho:zw c p s data):∀(n:Nat) (e:Ex) (v:Int),fq c e=some v→gd e≤n+1→CC (KJ p s data n e)
  | 0,e,v,ht,hd=>by
    have ha:e.args=[]:=by
      cases hl:e.args with
      | nil=>rfl
      | cons a r =>
        have:=EH (e:=e) (a:=a) (by rw[hl];simp)
        cases a with | mk op name k w args=>rw[gd]at this;omega
    have h:=HY p s data 0 e c v ho ht (fun a h=>by rw[ha]at h;cases h)
    refine ah.recast ?_ h
    refine⟨A5 _ rfl,⟨rfl,rfl,rfl,rfl,rfl,rfl,?_,oK⟩,oK⟩
    show e.args.map (eA 0)=e.args.map (eA 1)
    rw[ha];rfl
  | n+1,e,v,ht,hd=>HY p s data n e c v ho ht (fun a h=>by
    obtain⟨w,hw⟩:=MU ht h
    exact EI ho n a w hw (by have:=EH h;omega))
end Go.Proofs.YtckgpflobhpnpaaGreat
