/-
  Package process: values of expressions.
-/
import Derived.Test.YtckgpflobhpnpaaGreatQVbM
import Derived.Test.YtckgpflobhpnpaaGreatQPrQ
namespace Go.Proofs.YtckgpflobhpnpaaGreat
open Go.RowKit
set_option linter.unusedVariables false
set_option linter.unusedSimpArgs false
set_option maxRecDepth 100000
abbrev Ip (p:Pr) (s:Ps) (data:List Int) (n:Nat) (e:Ex):Ct:=⟨80,[(.agg [(dS p.name),(dS p.clock),(dL 13 jq cb p.regs),(dL 27 tf ba p.mems),(dL 9 jY aK p.takes),(dL 16 lM aL p.puts),(LI s.regs),(dL 1 ae [] s.mems),(LI data)]),(.agg [(i6 e.op),(dS e.name),(i6 e.k.n),(dS e.k.p),(i6 e.w.n),(dS e.w.p),(dL 7 (eA n) dE e.args)])],false,(.tup [(i6 ((bC p s data e).1)),(i6 ((bC p s data e).2))])⟩
abbrev xU (p:Pr) (s:Ps) (data:List Int) (n:Nat) (e:Ex):Lp (Nat):=lS [2,3,6,9,10,90,91,92] 4 (fun (i:Nat)=>⟨[(2,(.ptr 0 0 0 0)),(3,(.ptr 1 0 0 0)),(6,(i6 e.k.n)),(9,(.own 2)),(10,(.own 3)),(90,(dL 7 (eA (n+1)) dE e.args)),(91,(i6 (e.args.length:Int))),(92,(i6 (i:Int)))],[(.var 174 [(dS p.name),(dS p.clock),(dL 13 jq cb p.regs),(dL 27 tf ba p.mems),(dL 9 jY aK p.takes),(dL 16 lM aL p.puts),(LI s.regs),(dL 1 ae [] s.mems),(LI data)]),(.var 111 [(i6 e.op),(dS e.name),(i6 e.k.n),(dS e.k.p),(i6 e.w.n),(dS e.w.p),(dL 7 (eA (n+1)) dE e.args)]),(.arr 3 1 (ab .i64) 0 (lN p s data (e.args.take i))),(.arr 3 1 (ab .i64) 0 (iP p s data (e.args.take i)))]⟩) (fun (i:Nat)=>i≤e.args.length) (fun (i:Nat)=>e.args.length-i)
theorem FZ (p:Pr) (s:Ps) (data:List Int) (n:Nat) (e:Ex) (c:Sc) (v:Int) (ho:xT c p s data) (ht:e9 c e=some v) (ih:∀a∈e.args,CC (Ip p s data n a)):CC (Ip p s data (n+1) e):=by
 have hal:=Kr ht
 refine ai.vc (V:=TT 12 (CD (e.op=16) (TT 4 (IX e.k.n s.regs.length∧TT 5 (IX e.k.n p.regs.length∧TT 6 (((s.regs.getD e.k.n.toNat 0)=((bC p s data e).1)∧((p.regs.getD e.k.n.toNat cb).w)=((bC p s data e).2)∧True)∧(True∧True∧True))))) (TT 2 (CD (e.op=18) (TT 3 (IX e.k.n data.length∧TT 5 (IX e.k.n p.takes.length∧TT 6 (((data.getD e.k.n.toNat 0)=((bC p s data e).1)∧((p.takes.getD e.k.n.toNat aK).w)=((bC p s data e).2)∧True)∧(True∧True∧True))))) (TT 2 (CD (e.op=17) (TT 3 (IX 0 e.args.length∧TT 1 (CC (Ip p s data n (e.args.getD 0 dE))∧TT 9 (IX e.k.n s.mems.length∧TT 6 (IX e.k.n s.mems.length∧TT 2 ((((s.mems.getD e.k.n.toNat []).length:Nat):Int)≠0∧IX (Int.tmod ((bC p s data (e.args.getD 0 dE)).1) (((s.mems.getD e.k.n.toNat []).length:Nat):Int)) ((s.mems.getD e.k.n.toNat []).length)∧TT 5 (IX e.k.n p.mems.length∧TT 6 ((((s.mems.getD e.k.n.toNat []).getD ((Int.tmod ((bC p s data (e.args.getD 0 dE)).1) (((s.mems.getD e.k.n.toNat []).length:Nat):Int)).toNat) 0)=((bC p s data e).1)∧((p.mems.getD e.k.n.toNat ba).w)=((bC p s data e).2)∧True)∧(True∧True∧True))))))))) (TT 6 (GO (xU p s data n e) 0 (∀i,(xU p s data n e).inv i→TT 1 (CD ((i:Int)<(e.args.length:Int)) (IX (i:Int) e.args.length∧TT 5 (CC (Ip p s data n (e.args.getD i dE))∧TT 7 (an [[(i6 ((bC p s data (e.args.getD i dE)).1))]] ([(bC p s data (e.args.getD i dE)).1].map (ab .i64))∧((lN p s data (e.args.take i)).length+([(bC p s data (e.args.getD i dE)).1].map (ab .i64)).length≤137438953472∧(lN p s data (e.args.take i)).map (ab .i64)++[(bC p s data (e.args.getD i dE)).1].map (ab .i64)=(lN p s data (e.args.take (i+1))).map (ab .i64))∧TT 2 (an [[(i6 ((bC p s data (e.args.getD i dE)).2))]] ([(bC p s data (e.args.getD i dE)).2].map (ab .i64))∧((iP p s data (e.args.take i)).length+([(bC p s data (e.args.getD i dE)).2].map (ab .i64)).length≤137438953472∧(iP p s data (e.args.take i)).map (ab .i64)++[(bC p s data (e.args.getD i dE)).2].map (ab .i64)=(iP p s data (e.args.take (i+1))).map (ab .i64))∧TT 2 (W6 ((i+1:Nat):Int)∧TT 1 (AG (xU p s data n e) i (i+1))))))) (TT 11 ((0≤(0:Int)∧(0:Int)≤(2:Int)∧(2:Int)≤(2:Int))∧CK (Kn e.op (iP p s data (e.args.take i)) (lN p s data (e.args.take i)) [e.k.n,e.w.n])∧TT 9 (CK (Km e.op (iP p s data (e.args.take i)) e.k.n e.w.n)∧TT 11 (((dA e.op (iP p s data (e.args.take i)) (lN p s data (e.args.take i)) [e.k.n,e.w.n])=((bC p s data e).1)∧(ge e.op (iP p s data (e.args.take i)) e.k.n e.w.n)=((bC p s data e).2)∧True)∧(True∧True∧True))))))))))))))) (.b 25 (.e) (.b 40 (.e) (.b 54 (.w 8 [(5,(Ip p s data n (e.args.getD 0 dE)).O)]<|.e) (.gs 11 9 3 1 (ab .i64) 0<|.gs 11 10 3 1 (ab .i64) 0<|.l (xU p s data n e) 0 (fun i=>.b 93 (.w 14 [(2,(Ip p s data n (e.args.getD i dE)).O)]<|.w 15 [(2,.box 3 1 (ab .i64) 0 [(bC p s data (e.args.getD i dE)).1]),(3,.box 3 1 (ab .i64) 0 (lN p s data (e.args.take (i+1)))),(6,.box 3 1 (ab .i64) 0 [(bC p s data (e.args.getD i dE)).2]),(7,.box 3 1 (ab .i64) 0 (iP p s data (e.args.take (i+1))))]<|.w 16 [(0,.val (i6 ((i+1:Nat):Int)))]<|.e) (.f 18 4<|.w 18 [(5,(Kn e.op (iP p s data (e.args.take i)) (lN p s data (e.args.take i)) [e.k.n,e.w.n]).O')]<|.w 19 [(4,(Km e.op (iP p s data (e.args.take i)) e.k.n e.w.n).O')]<|.e)))))) Tryz.func80 rfl rfl rfl (by kernel_rfl) ?_
 refine tt (cd (fun hc25=>?_) (fun hc25=>?_))
 · obtain⟨h1,h2,h3⟩:=Ks ho ht hc25
   refine tt ⟨ix,tt ⟨ix,tt ⟨⟨?_,?_,oK⟩,⟨oK,oK,oK⟩⟩⟩⟩
   all_goals (first | exact(mB hc25).1.symm | exact(mB hc25).2.symm | exact(js hc40).1.symm | exact(js hc40).2.symm | exact(jt hc54 hlen).1.symm | exact(jt hc54 hlen).2.symm | (rw[hie,List.take_length];exact(sS hc25 hc40 hc54).1.symm) | (rw[hie,List.take_length];exact(sS hc25 hc40 hc54).2.symm))
 · refine tt (cd (fun hc40=>?_) (fun hc40=>?_))
   · obtain⟨h1,h2,h3⟩:=Im ho ht hc40
     refine tt ⟨ix,tt ⟨ix,tt ⟨⟨?_,?_,oK⟩,⟨oK,oK,oK⟩⟩⟩⟩
     all_goals (first | exact(mB hc25).1.symm | exact(mB hc25).2.symm | exact(js hc40).1.symm | exact(js hc40).2.symm | exact(jt hc54 hlen).1.symm | exact(jt hc54 hlen).2.symm | (rw[hie,List.take_length];exact(sS hc25 hc40 hc54).1.symm) | (rw[hie,List.take_length];exact(sS hc25 hc40 hc54).2.symm))
   · refine tt (cd (fun hc54=>?_) (fun hc54=>?_))
     · obtain⟨h1,h2,h3,hlen,h4,h5,h6⟩:=Io ho ht hc54
       refine tt ⟨ix,tt ⟨(ih _ (nI (by omega))),tt ⟨ix,tt ⟨ix,tt ⟨om,⟨ix,tt ⟨ix,tt ⟨⟨?_,?_,oK⟩,⟨oK,oK,oK⟩⟩⟩⟩⟩⟩⟩⟩⟩
       all_goals (first | exact(mB hc25).1.symm | exact(mB hc25).2.symm | exact(js hc40).1.symm | exact(js hc40).2.symm | exact(jt hc54 hlen).1.symm | exact(jt hc54 hlen).2.symm | (rw[hie,List.take_length];exact(sS hc25 hc40 hc54).1.symm) | (rw[hie,List.take_length];exact(sS hc25 hc40 hc54).2.symm))
     · refine tt ⟨rfl,(by omega),?_⟩
       intro i hinv
       have hi:=hinv
       refine tt (cd (fun hc93=>?_) (fun hc93=>?_))
       · refine⟨ix,tt ⟨(ih _ (nI (by omega))),tt ⟨⟨⟨rfl,oK⟩,oK⟩,⟨⟨by first | (simp[lN];done) | (simp[lN];omega),by rw[Ef (by omega),List.map_append]⟩,tt ⟨⟨⟨rfl,oK⟩,oK⟩,⟨⟨by first | (simp[iP];done) | (simp[iP];omega),by rw[Eg (by omega),List.map_append]⟩,tt ⟨w6,tt ⟨(i+1),rfl,(?_:(i+1)≤e.args.length),(?_:e.args.length-(i+1)<e.args.length-i)⟩⟩⟩⟩⟩⟩⟩⟩
         · omega
         · omega
       · have hie:i=e.args.length:=by omega
         refine tt ⟨om,⟨⟨dU _ rfl,(FW e.op (iP p s data (e.args.take i)) (lN p s data (e.args.take i)) [e.k.n,e.w.n] (by rw[zw,List.length_take];omega) (by rw[FY,List.length_take];omega))⟩,tt ⟨⟨dU _ rfl,(FV e.op (iP p s data (e.args.take i)) e.k.n e.w.n (by rw[zw,List.length_take];omega))⟩,tt ⟨⟨?_,?_,oK⟩,⟨oK,oK,oK⟩⟩⟩⟩⟩
         all_goals (first | exact(mB hc25).1.symm | exact(mB hc25).2.symm | exact(js hc40).1.symm | exact(js hc40).2.symm | exact(jt hc54 hlen).1.symm | exact(jt hc54 hlen).2.symm | (rw[hie,List.take_length];exact(sS hc25 hc40 hc54).1.symm) | (rw[hie,List.take_length];exact(sS hc25 hc40 hc54).2.symm))
theorem CQ {c:Sc} {p:Pr} {s:Ps} {data:List Int} (ho:xT c p s data):∀(n:Nat) (e:Ex) (v:Int),e9 c e=some v→fS e≤n+1→CC (Ip p s data n e)
  | 0,e,v,ht,hd=>by
    have ha:e.args=[]:=by
      cases hl:e.args with
      | nil=>rfl
      | cons a r =>
        have:=CP (e:=e) (a:=a) (by rw[hl];simp)
        cases a with | mk op name k w args=>rw[fS]at this;omega
    have h:=FZ p s data 0 e c v ho ht (fun a h=>by rw[ha]at h;cases h)
    refine ai.recast ?_ h
    refine⟨zq _ rfl,⟨rfl,rfl,rfl,rfl,rfl,rfl,?_,oK⟩,oK⟩
    show e.args.map (eA 0)=e.args.map (eA 1)
    rw[ha];rfl
  | n+1,e,v,ht,hd=>FZ p s data n e c v ho ht (fun a h=>by
    obtain⟨w,hw⟩:=Kq ht h
    exact CQ ho n a w hw (by have:=CP h;omega))
end Go.Proofs.YtckgpflobhpnpaaGreat
