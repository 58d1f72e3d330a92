/-
  The law of migration: words.
-/
import Derived.Test.YtnlmlkbaflmgcaaQMjO
import Derived.Test.YtnlmlkbaflmgcaaQMjR
namespace Go.Proofs.Ytnlmlkbaflmgcaa
open Go.RowKit
set_option linter.unusedVariables false
set_option linter.unusedSimpArgs false
abbrev ES (sx : Int) (b1 me : List Int) (sy : Int) (b2 : List Int) (oth : Bool) (ed fe pl : List Int) : aC := (.var 42 [(dL 2 bg aZ (((ae (aG sx b1 me) (aJ sx b1 sy b2 oth ed fe me) (be sx b1 fe pl me)).1).procs)),(dL 1 ac [] (((ae (aG sx b1 me) (aJ sx b1 sy b2 oth ed fe me) (be sx b1 fe pl me)).1).chans)),(i6 ((ae (aG sx b1 me) (aJ sx b1 sy b2 oth ed fe me) (be sx b1 fe pl me)).2))])
abbrev ET (sx : Int) (b1 me : List Int) (sy : Int) (b2 : List Int) (oth : Bool) (ed fe pl : List Int) : aC := (.var 37 [(dL 6 bn af ((aG sx b1 me).procs)),(dL 5 bD ax ((aG sx b1 me).chans)),(dL 6 bn af ((aJ sx b1 sy b2 oth ed fe me).procs)),(dL 5 bD ax ((aJ sx b1 sy b2 oth ed fe me).chans)),(dL 2 bg aZ ((be sx b1 fe pl me).procs)),(dL 1 ac [] ((be sx b1 fe pl me).chans))])
set_option maxRecDepth 100000
abbrev c5 (sx : Int) (b1 : List Int) (sy : Int) (b2 : List Int) (oth : Bool) (ed fe pl me : List Int) : Ct := ⟨5,[(.agg [(dI .u8 sx),(LY b1),(dI .u8 sy),(LY b2),(dB oth),(LY ed),(LY fe),(LY pl),(LY me)])],false,(dB true)⟩
abbrev fN (sx : Int) (b1 : List Int) (sy : Int) (b2 : List Int) (oth : Bool) (ed : List Int) (fe : List Int) (pl : List Int) (me : List Int) : Lp (Nat) := gZ [3,4,5,6,7] 3 (fun (k : Nat) => ⟨[(3,(dB true)),(4,(.ptr 1 0 0 0)),(5,(.ptr 2 0 0 0)),(6,(dL 1 cD .empty (aK (aG sx b1 me) (aJ sx b1 sy b2 oth ed fe me) (aG sx b1 me).chans.length))),(7,(i6 (k : Int)))],[(.var 26 [(dI .u8 sx),(LY b1),(dI .u8 sy),(LY b2),(dB oth),(LY ed),(LY fe),(LY pl),(LY me)]),(ET sx b1 me sy b2 oth ed fe pl),(ES sx b1 me sy b2 oth ed fe pl)]⟩) (fun (k : Nat) => k ≤ (aJ sx b1 sy b2 oth ed fe me).chans.length) (fun (k : Nat) => (aJ sx b1 sy b2 oth ed fe me).chans.length - k)
abbrev df (sx : Int) (b1 : List Int) (sy : Int) (b2 : List Int) (oth : Bool) (ed : List Int) (fe : List Int) (pl : List Int) (me : List Int) (k : Nat) : Lp (Nat × List Int) := nU [3,4,5,6,7,8,9] 4 (fun (i : Nat) (w : List Int) => ⟨[(3,(dB true)),(4,(.ptr 1 0 0 0)),(5,(.ptr 2 0 0 0)),(6,(dL 1 cD .empty (aK (aG sx b1 me) (aJ sx b1 sy b2 oth ed fe me) (aG sx b1 me).chans.length))),(7,(i6 (k : Int))),(8,(LI w)),(9,(i6 (i : Int)))],[(.var 26 [(dI .u8 sx),(LY b1),(dI .u8 sy),(LY b2),(dB oth),(LY ed),(LY fe),(LY pl),(LY me)]),(ET sx b1 me sy b2 oth ed fe pl),(ES sx b1 me sy b2 oth ed fe pl),.dead]⟩) (fun (i : Nat) (w : List Int) => i ≤ (aG sx b1 me).chans.length∧w = EM (aG sx b1 me) (aJ sx b1 sy b2 oth ed fe me) (be sx b1 fe pl me) k i) (fun (i : Nat) (w : List Int) => (aG sx b1 me).chans.length - i)
abbrev dg (sx : Int) (b1 : List Int) (sy : Int) (b2 : List Int) (oth : Bool) (ed : List Int) (fe : List Int) (pl : List Int) (me : List Int) : Lp (Nat × Nat) := nU [3,4,6,10,11] 3 (fun (j : Nat) (q : Nat) => ⟨[(3,(dB true)),(4,(.ptr 1 0 0 0)),(6,(dL 1 cD .empty (aK (aG sx b1 me) (aJ sx b1 sy b2 oth ed fe me) (aG sx b1 me).chans.length))),(10,(i6 (q : Int))),(11,(i6 (j : Int)))],[(.var 26 [(dI .u8 sx),(LY b1),(dI .u8 sy),(LY b2),(dB oth),(LY ed),(LY fe),(LY pl),(LY me)]),(ET sx b1 me sy b2 oth ed fe pl),(ES sx b1 me sy b2 oth ed fe pl)]⟩) (fun (j : Nat) (q : Nat) => j ≤ (aG sx b1 me).chans.length∧q = (aK (aG sx b1 me) (aJ sx b1 sy b2 oth ed fe me) j).length∧q ≤ j) (fun (j : Nat) (q : Nat) => (aG sx b1 me).chans.length - j)
theorem yX (sx : Int) (b1 : List Int) (sy : Int) (b2 : List Int) (oth : Bool) (ed fe pl me : List Int) (g0 : 0 ≤ sx) (g1 : sx ≤ 255) (hb1 : eS b1) (k0 : 0 ≤ sy) (k1 : sy ≤ 255) (hb2 : eS b2) (hed : eS ed) (hfe : eS fe) (hpl : eS pl) (hme : eS me) : CC (c5 sx b1 sy b2 oth ed fe pl me) := by
 have hp : pG (aG sx b1 me) (aJ sx b1 sy b2 oth ed fe me) (be sx b1 fe pl me) := Ay g0 g1 hb1 k0 k1 hb2 hfe
 have hrc := hp.rc
 have hol := hp.co.cl
 have hnl := hp.cn.cl
 have hop := hp.co.nl
 have hnp := hp.cn.nl
 have hsc := hp.so.cl
 have hsm := hp.sm
 have hm6 : pX (be sx b1 fe pl me) 1000000 := fun n => Nat.le_trans (hsm n) (by decide)
 refine ap.vc (V := TT 2 (CC c8∧TT 4 (CC (c9 sx b1 sy b2 oth ed fe pl me)∧TT 8 (CC (v4 (aG sx b1 me) (aJ sx b1 sy b2 oth ed fe me) (be sx b1 fe pl me))∧TT 5 (CN (((ae (aG sx b1 me) (aJ sx b1 sy b2 oth ed fe me) (be sx b1 fe pl me)).2) = 0) (TT 5 ((True∧(decide ((((((ae (aG sx b1 me) (aJ sx b1 sy b2 oth ed fe me) (be sx b1 fe pl me)).1).chans).length : Nat) : Int) = 0)) = true)∧TT 6 ((True∧(decide ((((((ae (aG sx b1 me) (aJ sx b1 sy b2 oth ed fe me) (be sx b1 fe pl me)).1).procs).length : Nat) : Int) = 0)) = true)∧TT 4 (true = true∧True)))) (TT 9 ((True∧(!decide ((((((ae (aG sx b1 me) (aJ sx b1 sy b2 oth ed fe me) (be sx b1 fe pl me)).1).chans).length : Nat) : Int) = ((((aJ sx b1 sy b2 oth ed fe me).chans).length : Nat) : Int))) = false)∧TT 10 ((!decide ((((((ae (aG sx b1 me) (aJ sx b1 sy b2 oth ed fe me) (be sx b1 fe pl me)).1).procs).length : Nat) : Int) = ((((aJ sx b1 sy b2 oth ed fe me).procs).length : Nat) : Int))) = false∧TT 4 (CC (EX (aG sx b1 me) (aJ sx b1 sy b2 oth ed fe me))∧TT 2 (GO (fN sx b1 sy b2 oth ed fe pl me) 0 (∀ k,(fN sx b1 sy b2 oth ed fe pl me).inv k → TT 6 (CD ((k : Int) < ((((aJ sx b1 sy b2 oth ed fe me).chans).length : Nat) : Int)) (am [] (([] : List Int).map (aa .i64))∧TT 2 (GO (df sx b1 sy b2 oth ed fe pl me k) (0,[]) (∀ i w,(df sx b1 sy b2 oth ed fe pl me k).inv (i,w) → TT 6 (CD ((i : Int) < ((((aG sx b1 me).chans).length : Nat) : Int)) (CS ((((((aG sx b1 me).chans).getD i ax).name).toList == ((((aJ sx b1 sy b2 oth ed fe me).chans).getD k ax).name).toList) = true) (TT 4 (IX (i : Int) (((aG sx b1 me).chans).length)∧TT 6 (IX (k : Int) (((aJ sx b1 sy b2 oth ed fe me).chans).length)∧TT 3 ((True∧(((((aG sx b1 me).chans).getD i ax).name).toList == ((((aJ sx b1 sy b2 oth ed fe me).chans).getD k ax).name).toList) = true)∧TT 4 (IX (i : Int) (((aG sx b1 me).chans).length)∧TT 6 (IX (k : Int) (((aJ sx b1 sy b2 oth ed fe me).chans).length)∧TT 4 (CD (((((aG sx b1 me).chans).getD i ax).w) = ((((aJ sx b1 sy b2 oth ed fe me).chans).getD k ax).w)) (TT 4 (IX (i : Int) (((be sx b1 fe pl me).chans).length)∧TT 3 (W6 ((i + 1 : Nat) : Int)∧TT 1 (AG (df sx b1 sy b2 oth ed fe pl me k) (i,w) (i + 1,(((be sx b1 fe pl me).chans).getD i [])))))) (TT 1 (W6 ((i + 1 : Nat) : Int)∧TT 1 (AG (df sx b1 sy b2 oth ed fe pl me k) (i,w) (i + 1,w))))))))))) (TT 4 (IX (i : Int) (((aG sx b1 me).chans).length)∧TT 6 (IX (k : Int) (((aJ sx b1 sy b2 oth ed fe me).chans).length)∧TT 3 ((True∧(((((aG sx b1 me).chans).getD i ax).name).toList == ((((aJ sx b1 sy b2 oth ed fe me).chans).getD k ax).name).toList) = false)∧TT 2 (W6 ((i + 1 : Nat) : Int)∧TT 1 (AG (df sx b1 sy b2 oth ed fe pl me k) (i,w) (i + 1,w)))))))) (TT 4 (IX (k : Int) ((((ae (aG sx b1 me) (aJ sx b1 sy b2 oth ed fe me) (be sx b1 fe pl me)).1).chans).length)∧TT 2 (CC (ED ((((ae (aG sx b1 me) (aJ sx b1 sy b2 oth ed fe me) (be sx b1 fe pl me)).1).chans).getD k []) w)∧TT 1 ((!decide (((((ae (aG sx b1 me) (aJ sx b1 sy b2 oth ed fe me) (be sx b1 fe pl me)).1).chans).getD k []) = w)) = false∧TT 1 (W6 ((k + 1 : Nat) : Int)∧TT 1 (AG (fN sx b1 sy b2 oth ed fe pl me) k (k + 1))))))))))) (TT 2 (GO (dg sx b1 sy b2 oth ed fe pl me) (0,0) (∀ j q,(dg sx b1 sy b2 oth ed fe pl me).inv (j,q) → TT 6 (CD ((j : Int) < ((((aG sx b1 me).chans).length : Nat) : Int)) (CS ((q : Int) < (((aK (aG sx b1 me) (aJ sx b1 sy b2 oth ed fe me) (aG sx b1 me).chans.length).length : Nat) : Int)) (TT 4 ((True∧(decide ((q : Int) < (((aK (aG sx b1 me) (aJ sx b1 sy b2 oth ed fe me) (aG sx b1 me).chans.length).length : Nat) : Int))) = true)∧TT 2 (IX (q : Int) ((aK (aG sx b1 me) (aJ sx b1 sy b2 oth ed fe me) (aG sx b1 me).chans.length).length)∧TT 5 (IX (j : Int) (((aG sx b1 me).chans).length)∧TT 4 (CB (((aK (aG sx b1 me) (aJ sx b1 sy b2 oth ed fe me) (aG sx b1 me).chans.length).getD q .empty).toList == ((((aG sx b1 me).chans).getD j ax).name).toList) (TT 4 (IX (j : Int) (((be sx b1 fe pl me).chans).length)∧TT 3 ((decide ((((((be sx b1 fe pl me).chans).getD j []).length : Nat) : Int) > 0)) = false∧TT 1 (W6 ((q + 1 : Nat) : Int)∧TT 2 (W6 ((j + 1 : Nat) : Int)∧TT 1 (AG (dg sx b1 sy b2 oth ed fe pl me) (j,q) (j + 1,q + 1))))))) (TT 1 (W6 ((j + 1 : Nat) : Int)∧TT 1 (AG (dg sx b1 sy b2 oth ed fe pl me) (j,q) (j + 1,q))))))))) (TT 4 ((True∧(decide ((q : Int) < (((aK (aG sx b1 me) (aJ sx b1 sy b2 oth ed fe me) (aG sx b1 me).chans.length).length : Nat) : Int))) = false)∧TT 2 (W6 ((j + 1 : Nat) : Int)∧TT 1 (AG (dg sx b1 sy b2 oth ed fe pl me) (j,q) (j + 1,q)))))) (TT 4 ((True∧(decide ((q : Int) = (((aK (aG sx b1 me) (aJ sx b1 sy b2 oth ed fe me) (aG sx b1 me).chans.length).length : Nat) : Int))) = true)∧TT 4 (true = true∧True))))))))))))))))))) (.w 1 [(0,c8.O)] <| .w 4 [(1,(c9 sx b1 sy b2 oth ed fe pl me).O)] <| .w 5 [(6,(v4 (aG sx b1 me) (aJ sx b1 sy b2 oth ed fe me) (be sx b1 fe pl me)).O)] <| .b 26 (.w 7 [(5,.val (dB true)),(12,.val (dB true))] <| .e) (.w 8 [(9,.val (dB false))] <| .u 61 (.w 10 [(4,(EX (aG sx b1 me) (aJ sx b1 sy b2 oth ed fe me)).O)] <| .l (fN sx b1 sy b2 oth ed fe pl me) 0 (fun k => .b 72 (.w 14 [(0,.frz 3 1 (aa .i64) 0 ([] : List Int))] <| .l (df sx b1 sy b2 oth ed fe pl me k) (0,[]) (fun ⟨i,w⟩ => .b 81 (.s 18 ((((((aG sx b1 me).chans).getD i ax).name).toList == ((((aJ sx b1 sy b2 oth ed fe me).chans).getD k ax).name).toList) = true) (.w 18 [(15,.val (dB true))] <| .b 115 (.w 17 [(1,.val (i6 ((i + 1 : Nat) : Int)))] <| .e) (.w 17 [(1,.val (i6 ((i + 1 : Nat) : Int)))] <| .e)) (.w 18 [(15,.val (dB false))] <| .w 17 [(1,.val (i6 ((i + 1 : Nat) : Int)))] <| .e)) (.w 20 [(7,(ED ((((ae (aG sx b1 me) (aJ sx b1 sy b2 oth ed fe me) (be sx b1 fe pl me)).1).chans).getD k []) w).O)] <| .u 130 (.w 13 [(1,.val (i6 ((k + 1 : Nat) : Int)))] <| .e)))) (.l (dg sx b1 sy b2 oth ed fe pl me) (0,0) (fun ⟨j,q⟩ => .b 136 (.s 26 ((q : Int) < (((aK (aG sx b1 me) (aJ sx b1 sy b2 oth ed fe me) (aG sx b1 me).chans.length).length : Nat) : Int)) (.w 26 [(4,.val (dB true))] <| .b 156 (.u 164 (.w 29 [(1,.val (i6 ((q + 1 : Nat) : Int)))] <| .w 25 [(1,.val (i6 ((j + 1 : Nat) : Int)))] <| .e)) (.w 25 [(1,.val (i6 ((j + 1 : Nat) : Int)))] <| .e)) (.w 26 [(4,.val (dB false))] <| .w 25 [(1,.val (i6 ((j + 1 : Nat) : Int)))] <| .e)) (.w 30 [(4,.val (dB true))] <| .e))))))) Try.func5 rfl rfl rfl (by kernel_rfl) ?_
 refine tt ⟨(p7),tt ⟨(EK sx b1 sy b2 oth ed fe pl me g0 g1 hb1 k0 k1 hb2 hed hfe hpl hme),tt ⟨(iw (aG sx b1 me) (aJ sx b1 sy b2 oth ed fe me) (be sx b1 fe pl me) hrc.1),tt (cn (fun hc26 => ?_) (fun hc26 => ?_))⟩⟩⟩
 · exact tt ⟨(vT (by rw [(uB (by omega)).1]; rfl)),tt ⟨(vT (by rw [(uB (by omega)).2]; rfl)),tt ⟨rfl,oK⟩⟩⟩
 · have hcl := EN hp.no hp.nn (by omega)
   have hc0 : (ae (aG sx b1 me) (aJ sx b1 sy b2 oth ed fe me) (be sx b1 fe pl me)).2 = 0 := by omega
   refine tt ⟨(nF (by omega)),tt ⟨(I4 (by omega)),tt ⟨(ln (aG sx b1 me) (aJ sx b1 sy b2 oth ed fe me) (Nat.le_trans hol (by decide)) (Nat.le_trans hnl (by decide))),tt ⟨rfl,(by omega),?_⟩⟩⟩⟩
   intro k hinv
   have hk := hinv
   refine tt (cd (fun hc72 => ?_) (fun hc72 => ?_))
   · refine ⟨oK,tt ⟨rfl,⟨by omega,rfl⟩,?_⟩⟩
     intro i w hinv
     obtain ⟨hi,hw⟩ := hinv
     refine tt (cd (fun hc81 => ?_) (fun hc81 => ?_))
     · refine ⟨fun hs0 => ?_,fun hs0 => ?_⟩
       · refine tt ⟨ix,tt ⟨ix,tt ⟨(bT hs0),tt ⟨ix,tt ⟨ix,tt (cd (fun hc115 => ?_) (fun hc115 => ?_))⟩⟩⟩⟩⟩
         · refine tt ⟨ix,tt ⟨w6,tt ⟨(i + 1,(((be sx b1 fe pl me).chans).getD i [])),rfl,?_,(?_ : (aG sx b1 me).chans.length - (i + 1) < (aG sx b1 me).chans.length - i)⟩⟩⟩
           · refine ⟨by omega,?_⟩
             first | exact (ni (fM hs0) (by omega)).symm | exact (ni (fM (by assumption)) (by omega)).symm | (rw [hw]; exact (oL (ka (by assumption))).symm) | (rw [hw]; exact (qO (by omega)).symm)
           · omega
         · refine tt ⟨w6,tt ⟨(i + 1,w),rfl,?_,(?_ : (aG sx b1 me).chans.length - (i + 1) < (aG sx b1 me).chans.length - i)⟩⟩
           · refine ⟨by omega,?_⟩
             first | exact (ni (fM hs0) (by omega)).symm | exact (ni (fM (by assumption)) (by omega)).symm | (rw [hw]; exact (oL (ka (by assumption))).symm) | (rw [hw]; exact (qO (by omega)).symm)
           · omega
       · refine tt ⟨ix,tt ⟨ix,tt ⟨(bF hs0),tt ⟨w6,tt ⟨(i + 1,w),rfl,?_,(?_ : (aG sx b1 me).chans.length - (i + 1) < (aG sx b1 me).chans.length - i)⟩⟩⟩⟩⟩
         · refine ⟨by omega,?_⟩
           first | exact (ni (fM hs0) (by omega)).symm | exact (ni (fM (by assumption)) (by omega)).symm | (rw [hw]; exact (oL (ka (by assumption))).symm) | (rw [hw]; exact (qO (by omega)).symm)
         · omega
     · refine tt ⟨ix,tt ⟨(oH ((((ae (aG sx b1 me) (aJ sx b1 sy b2 oth ed fe me) (be sx b1 fe pl me)).1).chans).getD k []) w (Nat.le_trans (ER hm6 _) (by decide))),tt ⟨(I4 (by rw [hw,show i = (aG sx b1 me).chans.length by omega]; exact EO hp.no hp.nn hc0 (by omega))),tt ⟨w6,tt ⟨(k + 1),rfl,(?_ : (k + 1) ≤ (aJ sx b1 sy b2 oth ed fe me).chans.length),(?_ : (aJ sx b1 sy b2 oth ed fe me).chans.length - (k + 1) < (aJ sx b1 sy b2 oth ed fe me).chans.length - k)⟩⟩⟩⟩⟩
       · omega
       · omega
   · refine tt ⟨rfl,⟨by omega,rfl,by omega⟩,?_⟩
     intro j q hinv
     obtain ⟨hj,hq,hqj⟩ := hinv
     refine tt (cd (fun hc136 => ?_) (fun hc136 => ?_))
     · refine ⟨fun hs1 => ?_,fun hs1 => ?_⟩
       · refine tt ⟨(vT hs1),tt ⟨ix,tt ⟨ix,tt ⟨fun hc156 => ?_,fun hc156 => ?_⟩⟩⟩⟩
         · refine tt ⟨ix,tt ⟨(decide_eq_false (EP hp.no hp.nn hc0 (by omega) hq (by omega) (fM (by assumption)))),tt ⟨w6,tt ⟨w6,tt ⟨(j + 1,q + 1),rfl,?_,(?_ : (aG sx b1 me).chans.length - (j + 1) < (aG sx b1 me).chans.length - j)⟩⟩⟩⟩⟩
           · refine ⟨by omega,?_,by omega⟩
             rw [sG hp.no (by omega) hq]
             first | (rw [if_pos ⟨by omega,fM (by assumption)⟩]) | (rw [if_neg (fun h => ka (by assumption) h.2)]) | (rw [if_neg (fun h => yW (by assumption) h.2)]) | (rw [if_neg (fun h => by have := h.1; omega)])
           · omega
         · refine tt ⟨w6,tt ⟨(j + 1,q),rfl,?_,(?_ : (aG sx b1 me).chans.length - (j + 1) < (aG sx b1 me).chans.length - j)⟩⟩
           · refine ⟨by omega,?_,by omega⟩
             rw [sG hp.no (by omega) hq]
             first | (rw [if_pos ⟨by omega,fM (by assumption)⟩]) | (rw [if_neg (fun h => ka (by assumption) h.2)]) | (rw [if_neg (fun h => yW (by assumption) h.2)]) | (rw [if_neg (fun h => by have := h.1; omega)])
           · omega
       · refine tt ⟨(vF hs1),tt ⟨w6,tt ⟨(j + 1,q),rfl,?_,(?_ : (aG sx b1 me).chans.length - (j + 1) < (aG sx b1 me).chans.length - j)⟩⟩⟩
         · refine ⟨by omega,?_,by omega⟩
           rw [sG hp.no (by omega) hq]
           first | (rw [if_pos ⟨by omega,fM (by assumption)⟩]) | (rw [if_neg (fun h => ka (by assumption) h.2)]) | (rw [if_neg (fun h => yW (by assumption) h.2)]) | (rw [if_neg (fun h => by have := h.1; omega)])
         · omega
     · exact tt ⟨(vT (by rw [hq,show j = (aG sx b1 me).chans.length by omega])),tt ⟨rfl,oK⟩⟩
end Go.Proofs.Ytnlmlkbaflmgcaa
