/-
  The law of migration: states.
-/
import Derived.Test.YtnlmlkbaflmgcaaQMjO
import Derived.Test.YtnlmlkbaflmgcaaQMjR
namespace Go.Proofs.Ytnlmlkbaflmgcaa
open Go.RowKit
set_option linter.unusedVariables false
set_option linter.unusedSimpArgs false
abbrev EW (sx : Int) (b1 me : List Int) (sy : Int) (b2 : List Int) (oth : Bool) (ed fe pl : List Int) : List D := [(dL 2 bg aZ (((ae (aG sx b1 me) (aJ sx b1 sy b2 oth ed fe me) (be sx b1 fe pl me)).1).procs)),(dL 1 ac [] (((ae (aG sx b1 me) (aJ sx b1 sy b2 oth ed fe me) (be sx b1 fe pl me)).1).chans)),(i6 ((ae (aG sx b1 me) (aJ sx b1 sy b2 oth ed fe me) (be sx b1 fe pl me)).2))]
set_option maxRecDepth 100000
abbrev c7 (sx : Int) (b1 : List Int) (sy : Int) (b2 : List Int) (oth : Bool) (ed fe pl me : List Int) : Ct := ⟨7,[(.agg [(dI .u8 sx),(LY b1),(dI .u8 sy),(LY b2),(dB oth),(LY ed),(LY fe),(LY pl),(LY me)])],false,(dB true)⟩
abbrev cR (sx : Int) (b1 : List Int) (sy : Int) (b2 : List Int) (oth : Bool) (ed : List Int) (fe : List Int) (pl : List Int) (me : List Int) : Lp (Nat × Bool) := nU [3,4,5,6,7] 3 (fun (i : Nat) (fb : Bool) => ⟨[(3,(dB true)),(4,(.ptr 1 0 0 0)),(5,(.ptr 2 0 0 0)),(6,(dB fb)),(7,(i6 (i : Int)))],[(.var 26 [(dI .u8 sx),(LY b1),(dI .u8 sy),(LY b2),(dB oth),(LY ed),(LY fe),(LY pl),(LY me)]),(.var 37 [(dL 6 bn af ((aG sx b1 me).procs)),(dL 5 bD ax ((aG sx b1 me).chans)),(dL 6 bn af ((aJ sx b1 sy b2 oth ed fe me).procs)),(dL 5 bD ax ((aJ sx b1 sy b2 oth ed fe me).chans)),(dL 2 bg aZ ((be sx b1 fe pl me).procs)),(dL 1 ac [] ((be sx b1 fe pl me).chans))]),(.var 42 (EW sx b1 me sy b2 oth ed fe pl))]⟩) (fun (i : Nat) (fb : Bool) => i ≤ (aG sx b1 me).chans.length∧fb = sE (xD (aG sx b1 me) (aJ sx b1 sy b2 oth ed fe me) (be sx b1 fe pl me)) i) (fun (i : Nat) (fb : Bool) => (aG sx b1 me).chans.length - i)
abbrev bR (sx : Int) (b1 : List Int) (sy : Int) (b2 : List Int) (oth : Bool) (ed : List Int) (fe : List Int) (pl : List Int) (me : List Int) (i : Nat) (fb : Bool) : Lp (Nat × Bool) := nU [3,4,5,6,7,8,9] 3 (fun (k : Nat) (pb : Bool) => ⟨[(3,(dB true)),(4,(.ptr 1 0 0 0)),(5,(.ptr 2 0 0 0)),(6,(dB fb)),(7,(i6 (i : Int))),(8,(dB pb)),(9,(i6 (k : Int)))],[(.var 26 [(dI .u8 sx),(LY b1),(dI .u8 sy),(LY b2),(dB oth),(LY ed),(LY fe),(LY pl),(LY me)]),(.var 37 [(dL 6 bn af ((aG sx b1 me).procs)),(dL 5 bD ax ((aG sx b1 me).chans)),(dL 6 bn af ((aJ sx b1 sy b2 oth ed fe me).procs)),(dL 5 bD ax ((aJ sx b1 sy b2 oth ed fe me).chans)),(dL 2 bg aZ ((be sx b1 fe pl me).procs)),(dL 1 ac [] ((be sx b1 fe pl me).chans))]),(.var 42 (EW sx b1 me sy b2 oth ed fe pl))]⟩) (fun (k : Nat) (pb : Bool) => k ≤ (aJ sx b1 sy b2 oth ed fe me).chans.length∧pb = sE (G4 (aG sx b1 me) (aJ sx b1 sy b2 oth ed fe me) (be sx b1 fe pl me) i) k) (fun (k : Nat) (pb : Bool) => (aJ sx b1 sy b2 oth ed fe me).chans.length - k)
theorem xG (sx : Int) (b1 : List Int) (sy : Int) (b2 : List Int) (oth : Bool) (ed fe pl me : List Int) (g0 : 0 ≤ sx) (g1 : sx ≤ 255) (hb1 : eS b1) (k0 : 0 ≤ sy) (k1 : sy ≤ 255) (hb2 : eS b2) (hed : eS ed) (hfe : eS fe) (hpl : eS pl) (hme : eS me) : CC (c7 sx b1 sy b2 oth ed fe pl me) := by
 have hp : pG (aG sx b1 me) (aJ sx b1 sy b2 oth ed fe me) (be sx b1 fe pl me) := Ay g0 g1 hb1 k0 k1 hb2 hfe
 have hrc := hp.rc
 have hol := hp.co.cl
 have hnl := hp.cn.cl
 have hop := hp.co.nl
 have hnp := hp.cn.nl
 have hsc := hp.so.cl
 have hsm := hp.sm
 have hm6 : pX (be sx b1 fe pl me) 1000000 := fun n => Nat.le_trans (hsm n) (by decide)
 refine ap.vc (V := TT 2 (CC c8∧TT 4 (CC (c9 sx b1 sy b2 oth ed fe pl me)∧TT 8 (CC (v4 (aG sx b1 me) (aJ sx b1 sy b2 oth ed fe me) (be sx b1 fe pl me))∧TT 4 (GO (cR sx b1 sy b2 oth ed fe pl me) (0,false) (∀ i fb,(cR sx b1 sy b2 oth ed fe pl me).inv (i,fb) → TT 6 (CD ((i : Int) < ((((aG sx b1 me).chans).length : Nat) : Int)) (TT 2 (GO (bR sx b1 sy b2 oth ed fe pl me i fb) (0,false) (∀ k pb,(bR sx b1 sy b2 oth ed fe pl me i fb).inv (k,pb) → TT 6 (CD ((k : Int) < ((((aJ sx b1 sy b2 oth ed fe me).chans).length : Nat) : Int)) (TT 4 (IX (i : Int) (((aG sx b1 me).chans).length)∧TT 5 (IX (k : Int) (((aJ sx b1 sy b2 oth ed fe me).chans).length)∧TT 5 (CS (pb = true) (TT 1 ((True∧pb = true)∧TT 3 (W6 ((k + 1 : Nat) : Int)∧TT 1 (AG (bR sx b1 sy b2 oth ed fe pl me i fb) (k,pb) (k + 1,true))))) (CS ((((((aG sx b1 me).chans).getD i ax).name).toList == ((((aJ sx b1 sy b2 oth ed fe me).chans).getD k ax).name).toList) = true) (CS (((((aG sx b1 me).chans).getD i ax).w) = ((((aJ sx b1 sy b2 oth ed fe me).chans).getD k ax).w)) (CS (((((aJ sx b1 sy b2 oth ed fe me).chans).getD k ax).cap) = 0) (TT 1 ((True∧pb = false)∧TT 5 ((True∧(((((aG sx b1 me).chans).getD i ax).name).toList == ((((aJ sx b1 sy b2 oth ed fe me).chans).getD k ax).name).toList) = true)∧TT 6 ((True∧(decide (((((aG sx b1 me).chans).getD i ax).w) = ((((aJ sx b1 sy b2 oth ed fe me).chans).getD k ax).w))) = true)∧TT 3 ((True∧(decide (((((aJ sx b1 sy b2 oth ed fe me).chans).getD k ax).cap) = 0)) = true)∧TT 5 (W6 ((k + 1 : Nat) : Int)∧TT 1 (AG (bR sx b1 sy b2 oth ed fe pl me i fb) (k,pb) (k + 1,true)))))))) (TT 1 ((True∧pb = false)∧TT 5 ((True∧(((((aG sx b1 me).chans).getD i ax).name).toList == ((((aJ sx b1 sy b2 oth ed fe me).chans).getD k ax).name).toList) = true)∧TT 6 ((True∧(decide (((((aG sx b1 me).chans).getD i ax).w) = ((((aJ sx b1 sy b2 oth ed fe me).chans).getD k ax).w))) = true)∧TT 3 ((True∧(decide (((((aJ sx b1 sy b2 oth ed fe me).chans).getD k ax).cap) = 0)) = false)∧TT 4 (IX (i : Int) (((be sx b1 fe pl me).chans).length)∧TT 10 (W6 ((k + 1 : Nat) : Int)∧TT 1 (AG (bR sx b1 sy b2 oth ed fe pl me i fb) (k,pb) (k + 1,decide ((((((be sx b1 fe pl me).chans).getD i []).length : Nat) : Int) ≤ ((((aJ sx b1 sy b2 oth ed fe me).chans).getD k ax).cap)))))))))))) (TT 1 ((True∧pb = false)∧TT 5 ((True∧(((((aG sx b1 me).chans).getD i ax).name).toList == ((((aJ sx b1 sy b2 oth ed fe me).chans).getD k ax).name).toList) = true)∧TT 6 ((True∧(decide (((((aG sx b1 me).chans).getD i ax).w) = ((((aJ sx b1 sy b2 oth ed fe me).chans).getD k ax).w))) = false)∧TT 4 (W6 ((k + 1 : Nat) : Int)∧TT 1 (AG (bR sx b1 sy b2 oth ed fe pl me i fb) (k,pb) (k + 1,false)))))))) (TT 1 ((True∧pb = false)∧TT 5 ((True∧(((((aG sx b1 me).chans).getD i ax).name).toList == ((((aJ sx b1 sy b2 oth ed fe me).chans).getD k ax).name).toList) = false)∧TT 6 (W6 ((k + 1 : Nat) : Int)∧TT 1 (AG (bR sx b1 sy b2 oth ed fe pl me i fb) (k,pb) (k + 1,false))))))))))) (CS (fb = true) (TT 1 ((True∧fb = true)∧TT 15 (W6 ((i + 1 : Nat) : Int)∧TT 1 (AG (cR sx b1 sy b2 oth ed fe pl me) (i,fb) (i + 1,true))))) (CS (pb = true) (TT 1 ((True∧fb = false)∧TT 2 ((True∧(!pb) = false)∧TT 12 (W6 ((i + 1 : Nat) : Int)∧TT 1 (AG (cR sx b1 sy b2 oth ed fe pl me) (i,fb) (i + 1,false)))))) (TT 1 ((True∧fb = false)∧TT 2 ((True∧(!pb) = true)∧TT 4 (IX (i : Int) (((be sx b1 fe pl me).chans).length)∧TT 7 (W6 ((i + 1 : Nat) : Int)∧TT 1 (AG (cR sx b1 sy b2 oth ed fe pl me) (i,fb) (i + 1,decide ((((((be sx b1 fe pl me).chans).getD i []).length : Nat) : Int) > 0)))))))))))))) (TT 1 (CB (fb) (TT 2 ((qa [] [(.agg (EW sx b1 me sy b2 oth ed fe pl)),(.agg [.nils,.nils,(i6 150)])] (BV ((ae (aG sx b1 me) (aJ sx b1 sy b2 oth ed fe me) (be sx b1 fe pl me)).1) (⟨[],[]⟩ : Ns) ((ae (aG sx b1 me) (aJ sx b1 sy b2 oth ed fe me) (be sx b1 fe pl me)).2) 150).as∧CC (BV ((ae (aG sx b1 me) (aJ sx b1 sy b2 oth ed fe me) (be sx b1 fe pl me)).1) (⟨[],[]⟩ : Ns) ((ae (aG sx b1 me) (aJ sx b1 sy b2 oth ed fe me) (be sx b1 fe pl me)).2) 150))∧(True∧(ez ((ae (aG sx b1 me) (aJ sx b1 sy b2 oth ed fe me) (be sx b1 fe pl me)).1) (⟨[],[]⟩ : Ns) ((ae (aG sx b1 me) (aJ sx b1 sy b2 oth ed fe me) (be sx b1 fe pl me)).2) 150) = true)∧TT 4 (true = true∧True))) (TT 3 ((True∧(decide (((ae (aG sx b1 me) (aJ sx b1 sy b2 oth ed fe me) (be sx b1 fe pl me)).2) = 0)) = true)∧TT 4 (CC (KZ (aJ sx b1 sy b2 oth ed fe me) ((ae (aG sx b1 me) (aJ sx b1 sy b2 oth ed fe me) (be sx b1 fe pl me)).1))∧TT 1 ((True∧(bN (aJ sx b1 sy b2 oth ed fe me) ((ae (aG sx b1 me) (aJ sx b1 sy b2 oth ed fe me) (be sx b1 fe pl me)).1)) = true)∧TT 4 (true = true∧True)))))))))))))) (.w 1 [(0,c8.O)] <| .w 4 [(1,(c9 sx b1 sy b2 oth ed fe pl me).O)] <| .w 5 [(6,(v4 (aG sx b1 me) (aJ sx b1 sy b2 oth ed fe me) (be sx b1 fe pl me)).O)] <| .l (cR sx b1 sy b2 oth ed fe pl me) (0,false) (fun ⟨i,fb⟩ => .b 29 (.l (bR sx b1 sy b2 oth ed fe pl me i fb) (0,false) (fun ⟨k,pb⟩ => .b 37 (.w 14 [(14,.val .junk)] <| .s 15 (pb = true) (.w 15 [(1,.val (dB true))] <| .w 13 [(1,.val (i6 ((k + 1 : Nat) : Int)))] <| .e) (.s 15 ((((((aG sx b1 me).chans).getD i ax).name).toList == ((((aJ sx b1 sy b2 oth ed fe me).chans).getD k ax).name).toList) = true) (.s 15 (((((aG sx b1 me).chans).getD i ax).w) = ((((aJ sx b1 sy b2 oth ed fe me).chans).getD k ax).w)) (.s 15 (((((aJ sx b1 sy b2 oth ed fe me).chans).getD k ax).cap) = 0) (.w 15 [(1,.val (dB false)),(7,.val (dB true)),(14,.val (dB true)),(18,.val (dB true))] <| .w 13 [(1,.val (i6 ((k + 1 : Nat) : Int)))] <| .e) (.w 15 [(1,.val (dB false)),(7,.val (dB true)),(14,.val (dB true)),(18,.val (dB false))] <| .w 13 [(1,.val (i6 ((k + 1 : Nat) : Int)))] <| .e)) (.w 15 [(1,.val (dB false)),(7,.val (dB true)),(14,.val (dB false))] <| .w 13 [(1,.val (i6 ((k + 1 : Nat) : Int)))] <| .e)) (.w 15 [(1,.val (dB false)),(7,.val (dB false))] <| .w 13 [(1,.val (i6 ((k + 1 : Nat) : Int)))] <| .e))) (.s 16 (fb = true) (.w 16 [(1,.val (dB true))] <| .w 9 [(1,.val (i6 ((i + 1 : Nat) : Int)))] <| .e) (.s 16 (pb = true) (.w 16 [(1,.val (dB false)),(4,.val (dB false))] <| .w 9 [(1,.val (i6 ((i + 1 : Nat) : Int)))] <| .e) (.w 16 [(1,.val (dB false)),(4,.val (dB true))] <| .w 9 [(1,.val (i6 ((i + 1 : Nat) : Int)))] <| .e))))) (.b 99 (.w 18 [(2,(BV ((ae (aG sx b1 me) (aJ sx b1 sy b2 oth ed fe me) (be sx b1 fe pl me)).1) (⟨[],[]⟩ : Ns) ((ae (aG sx b1 me) (aJ sx b1 sy b2 oth ed fe me) (be sx b1 fe pl me)).2) 150).O'),(3,.val (dB true))] <| .e) (.w 19 [(3,.val (dB true)),(8,(KZ (aJ sx b1 sy b2 oth ed fe me) ((ae (aG sx b1 me) (aJ sx b1 sy b2 oth ed fe me) (be sx b1 fe pl me)).1)).O),(10,.val (dB true))] <| .e)))) Try.func7 rfl rfl rfl (by kernel_rfl) ?_
 refine tt ⟨(p7),tt ⟨(EK sx b1 sy b2 oth ed fe pl me g0 g1 hb1 k0 k1 hb2 hed hfe hpl hme),tt ⟨(iw (aG sx b1 me) (aJ sx b1 sy b2 oth ed fe me) (be sx b1 fe pl me) hrc.1),tt ⟨rfl,⟨by omega,rfl⟩,?_⟩⟩⟩⟩
 intro i fb hinv
 obtain ⟨hi,hfb⟩ := hinv
 refine tt (cd (fun hc29 => ?_) (fun hc29 => ?_))
 · refine tt ⟨rfl,⟨by omega,rfl⟩,?_⟩
   intro k pb hinv
   obtain ⟨hk,hpb⟩ := hinv
   refine tt (cd (fun hc37 => ?_) (fun hc37 => ?_))
   · refine tt ⟨ix,tt ⟨ix,tt ⟨fun hs0 => ?_,fun hs0 => ?_⟩⟩⟩
     · refine tt ⟨(bT hs0),tt ⟨w6,tt ⟨(k + 1,true),rfl,?_,(?_ : (aJ sx b1 sy b2 oth ed fe me).chans.length - (k + 1) < (aJ sx b1 sy b2 oth ed fe me).chans.length - k)⟩⟩⟩
       · refine ⟨by omega,?_⟩
         first | exact (iY (by rw [← hpb]; assumption)).symm | (rw [f8 (by rw [← hpb]; assumption)]; unfold G4 a6; (first | rw [iu] at *); simp_all)
       · omega
     · refine ⟨fun hs1 => ?_,fun hs1 => ?_⟩
       · refine ⟨fun hs2 => ?_,fun hs2 => ?_⟩
         · refine ⟨fun hs3 => ?_,fun hs3 => ?_⟩
           · refine tt ⟨(bF hs0),tt ⟨(bT hs1),tt ⟨(vT hs2),tt ⟨(vT hs3),tt ⟨w6,tt ⟨(k + 1,true),rfl,?_,(?_ : (aJ sx b1 sy b2 oth ed fe me).chans.length - (k + 1) < (aJ sx b1 sy b2 oth ed fe me).chans.length - k)⟩⟩⟩⟩⟩⟩
             · refine ⟨by omega,?_⟩
               first | exact (iY (by rw [← hpb]; assumption)).symm | (rw [f8 (by rw [← hpb]; assumption)]; unfold G4 a6; (first | rw [iu] at *); simp_all)
             · omega
           · refine tt ⟨(bF hs0),tt ⟨(bT hs1),tt ⟨(vT hs2),tt ⟨(vF hs3),tt ⟨ix,tt ⟨w6,tt ⟨(k + 1,decide ((((((be sx b1 fe pl me).chans).getD i []).length : Nat) : Int) ≤ ((((aJ sx b1 sy b2 oth ed fe me).chans).getD k ax).cap))),rfl,?_,(?_ : (aJ sx b1 sy b2 oth ed fe me).chans.length - (k + 1) < (aJ sx b1 sy b2 oth ed fe me).chans.length - k)⟩⟩⟩⟩⟩⟩⟩
             · refine ⟨by omega,?_⟩
               first | exact (iY (by rw [← hpb]; assumption)).symm | (rw [f8 (by rw [← hpb]; assumption)]; unfold G4 a6; (first | rw [iu] at *); simp_all)
             · omega
         · refine tt ⟨(bF hs0),tt ⟨(bT hs1),tt ⟨(vF hs2),tt ⟨w6,tt ⟨(k + 1,false),rfl,?_,(?_ : (aJ sx b1 sy b2 oth ed fe me).chans.length - (k + 1) < (aJ sx b1 sy b2 oth ed fe me).chans.length - k)⟩⟩⟩⟩⟩
           · refine ⟨by omega,?_⟩
             first | exact (iY (by rw [← hpb]; assumption)).symm | (rw [f8 (by rw [← hpb]; assumption)]; unfold G4 a6; (first | rw [iu] at *); simp_all)
           · omega
       · refine tt ⟨(bF hs0),tt ⟨(bF hs1),tt ⟨w6,tt ⟨(k + 1,false),rfl,?_,(?_ : (aJ sx b1 sy b2 oth ed fe me).chans.length - (k + 1) < (aJ sx b1 sy b2 oth ed fe me).chans.length - k)⟩⟩⟩⟩
         · refine ⟨by omega,?_⟩
           first | exact (iY (by rw [← hpb]; assumption)).symm | (rw [f8 (by rw [← hpb]; assumption)]; unfold G4 a6; (first | rw [iu] at *); simp_all)
         · omega
   · refine ⟨fun hs4 => ?_,fun hs4 => ?_⟩
     · refine tt ⟨(bT hs4),tt ⟨w6,tt ⟨(i + 1,true),rfl,?_,(?_ : (aG sx b1 me).chans.length - (i + 1) < (aG sx b1 me).chans.length - i)⟩⟩⟩
       · refine ⟨by omega,?_⟩
         first | exact (iY (by rw [← hfb]; assumption)).symm | (rw [f8 (by rw [← hfb]; assumption)]; unfold xD mA; rw [show (aJ sx b1 sy b2 oth ed fe me).chans.length = k by omega]; unfold sE at hpb; rw [← hpb]; simp_all)
       · omega
     · refine ⟨fun hs5 => ?_,fun hs5 => ?_⟩
       · refine tt ⟨(bF hs4),tt ⟨(mF hs5),tt ⟨w6,tt ⟨(i + 1,false),rfl,?_,(?_ : (aG sx b1 me).chans.length - (i + 1) < (aG sx b1 me).chans.length - i)⟩⟩⟩⟩
         · refine ⟨by omega,?_⟩
           first | exact (iY (by rw [← hfb]; assumption)).symm | (rw [f8 (by rw [← hfb]; assumption)]; unfold xD mA; rw [show (aJ sx b1 sy b2 oth ed fe me).chans.length = k by omega]; unfold sE at hpb; rw [← hpb]; simp_all)
         · omega
       · refine tt ⟨(bF hs4),tt ⟨(mT hs5),tt ⟨ix,tt ⟨w6,tt ⟨(i + 1,decide ((((((be sx b1 fe pl me).chans).getD i []).length : Nat) : Int) > 0)),rfl,?_,(?_ : (aG sx b1 me).chans.length - (i + 1) < (aG sx b1 me).chans.length - i)⟩⟩⟩⟩⟩
         · refine ⟨by omega,?_⟩
           first | exact (iY (by rw [← hfb]; assumption)).symm | (rw [f8 (by rw [← hfb]; assumption)]; unfold xD mA; rw [show (aJ sx b1 sy b2 oth ed fe me).chans.length = k by omega]; unfold sE at hpb; rw [← hpb]; simp_all)
         · omega
 · refine tt ⟨fun hc99 => ?_,fun hc99 => ?_⟩
   · have hie : i = (aG sx b1 me).chans.length := by omega
     have hf : nh (aG sx b1 me) (aJ sx b1 sy b2 oth ed fe me) (be sx b1 fe pl me) = true := by unfold nh; rw [hie] at hfb; show sE (xD (aG sx b1 me) (aJ sx b1 sy b2 oth ed fe me) (be sx b1 fe pl me)) _ = true; rw [← hfb]; exact hc99
     have he := (uz hp.no hp.nn hp.cn).1 hf
     exact tt ⟨⟨⟨⟨rfl,rfl,rfl,oK⟩,⟨rfl,rfl,rfl,oK⟩,oK⟩,(qM ((ae (aG sx b1 me) (aJ sx b1 sy b2 oth ed fe me) (be sx b1 fe pl me)).1) (⟨[],[]⟩ : Ns) ((ae (aG sx b1 me) (aJ sx b1 sy b2 oth ed fe me) (be sx b1 fe pl me)).2) 150 (Ic hp.cn hm6))⟩,⟨(bT (by rw [he,AP he]; exact vX _ _)),tt ⟨rfl,oK⟩⟩⟩
   · have hie : i = (aG sx b1 me).chans.length := by omega
     have hf : ¬nh (aG sx b1 me) (aJ sx b1 sy b2 oth ed fe me) (be sx b1 fe pl me) = true := by unfold nh; rw [hie] at hfb; show ¬sE (xD (aG sx b1 me) (aJ sx b1 sy b2 oth ed fe me) (be sx b1 fe pl me)) _ = true; rw [← hfb,hc99]; simp
     have hne : (ae (aG sx b1 me) (aJ sx b1 sy b2 oth ed fe me) (be sx b1 fe pl me)).2 ≠ 150 := fun h => hf ((uz hp.no hp.nn hp.cn).2 h)
     exact tt ⟨(vT (JX hne)),tt ⟨(BK (aJ sx b1 sy b2 oth ed fe me) ((ae (aG sx b1 me) (aJ sx b1 sy b2 oth ed fe me) (be sx b1 fe pl me)).1) hp.cn (fun z => Nat.le_trans (ER hm6 z) (by decide))),tt ⟨(bT (yv.2 (Iq hp hne))),tt ⟨rfl,oK⟩⟩⟩⟩
end Go.Proofs.Ytnlmlkbaflmgcaa
