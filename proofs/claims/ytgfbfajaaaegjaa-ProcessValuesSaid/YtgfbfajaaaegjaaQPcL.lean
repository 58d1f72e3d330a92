/-
  The laws of processes: all expressions with their parts; the reference.
-/
import Derived.Test.YtgfbfajaaaegjaaQPcH
import Derived.Test.YtgfbfajaaaegjaaQPcK
namespace Go.Proofs.Ytgfbfajaaaegjaa
open Go.RowKit
set_option linter.unusedVariables false
set_option linter.unusedSimpArgs false
abbrev yk (p : Pr) : ay := (.var 37 [(dS p.name),(dS p.clock),(dL 13 bS aM p.regs),(dL 27 dW ax p.mems),(dL 9 bU aX p.takes),(dL 16 bL bg p.puts)])
set_option maxRecDepth 100000
abbrev Ed (p : Pr) : Ct := ⟨24,[(.agg [(dS p.name),(dS p.clock),(dL 13 bS aM p.regs),(dL 27 dW ax p.mems),(dL 9 bU aX p.takes),(dL 16 bL bg p.puts)])],true,(dL 7 (eA 3) dE (aj p))⟩
abbrev jD (p : Pr) : Lp (Nat) := io [1,3,4] 2 (fun (i : Nat) => ⟨[(1,(.ptr 0 0 0 0)),(3,(.own 1)),(4,(i6 (i : Int)))],[(yk p),(.arr 60 7 (eA 3) dE (du [] (fT p) i))]⟩) (fun (i : Nat) => i ≤ p.takes.length) (fun (i : Nat) => p.takes.length - i)
abbrev jE (p : Pr) : Lp (Nat × List Ex) := xu [1,3,5] 2 (fun (j : Nat) (lb : List Ex) => ⟨[(1,(.ptr 0 0 0 0)),(3,(.own 1)),(5,(i6 (j : Int)))],[(yk p),(.arr 60 7 (eA 3) dE lb)]⟩) (fun (j : Nat) (lb : List Ex) => j ≤ p.regs.length∧lb = du (Az p) (fR p) j) (fun (j : Nat) (lb : List Ex) => p.regs.length - j)
abbrev jF (p : Pr) : Lp (Nat × List Ex) := xu [1,3,6] 2 (fun (k : Nat) (lc : List Ex) => ⟨[(1,(.ptr 0 0 0 0)),(3,(.own 1)),(6,(i6 (k : Int)))],[(yk p),(.arr 60 7 (eA 3) dE lc)]⟩) (fun (k : Nat) (lc : List Ex) => k ≤ p.mems.length∧lc = du (AA p) (fM p) k) (fun (k : Nat) (lc : List Ex) => p.mems.length - k)
abbrev jG (p : Pr) : Lp (Nat × List Ex) := xu [1,3,7] 2 (fun (q : Nat) (ld : List Ex) => ⟨[(1,(.ptr 0 0 0 0)),(3,(.own 1)),(7,(i6 (q : Int)))],[(yk p),(.arr 60 7 (eA 3) dE ld)]⟩) (fun (q : Nat) (ld : List Ex) => q ≤ p.puts.length∧ld = du (AB p) (fP p) q) (fun (q : Nat) (ld : List Ex) => p.puts.length - q)
theorem yl (p : Pr) (hp : cZ p) : CC (Ed p) := by
 have hl1 := hp.rl
 have hl2 := hp.ml
 have hl3 := hp.tl
 have hl4 := hp.pl
 have hxl := yg hp
 refine ah.vc (V := TT 2 (au [] ((du [] (fT p) 0).map (eA 3))∧TT 2 (GO (jD p) 0 (∀ i,(jD p).inv i → TT 5 (CD ((i : Int) < (p.takes.length : Int)) (TT 4 (IX (i : Int) p.takes.length∧TT 2 (au [[(i6 (((p.takes.getD i aX).when).op)),(dS (((p.takes.getD i aX).when).name)),(i6 ((((p.takes.getD i aX).when).k).n)),(dS ((((p.takes.getD i aX).when).k).p)),(i6 ((((p.takes.getD i aX).when).w).n)),(dS ((((p.takes.getD i aX).when).w).p)),(dL 7 (eA 2) dE (((p.takes.getD i aX).when).args))]] ([(p.takes.getD i aX).when].map (eA 3))∧((du [] (fT p) i).length + ([(p.takes.getD i aX).when].map (eA 3)).length ≤ 137438953472∧(du [] (fT p) i).map (eA 3) ++ [(p.takes.getD i aX).when].map (eA 3) = (du [] (fT p) (i + 1)).map (eA 3))∧TT 2 (W6 ((i + 1 : Nat) : Int)∧TT 1 (AG (jD p) i (i + 1)))))) (TT 1 (GO (jE p) (0,du [] (fT p) i) (∀ j lb,(jE p).inv (j,lb) → TT 5 (CD ((j : Int) < (p.regs.length : Int)) (TT 4 (IX (j : Int) p.regs.length∧TT 2 (au [[(i6 (((p.regs.getD j aM).next).op)),(dS (((p.regs.getD j aM).next).name)),(i6 ((((p.regs.getD j aM).next).k).n)),(dS ((((p.regs.getD j aM).next).k).p)),(i6 ((((p.regs.getD j aM).next).w).n)),(dS ((((p.regs.getD j aM).next).w).p)),(dL 7 (eA 2) dE (((p.regs.getD j aM).next).args))]] ([(p.regs.getD j aM).next].map (eA 3))∧(lb.length + ([(p.regs.getD j aM).next].map (eA 3)).length ≤ 137438953472∧lb.map (eA 3) ++ [(p.regs.getD j aM).next].map (eA 3) = (du (Az p) (fR p) (j + 1)).map (eA 3))∧TT 2 (W6 ((j + 1 : Nat) : Int)∧TT 1 (AG (jE p) (j,lb) (j + 1,du (Az p) (fR p) (j + 1))))))) (TT 1 (GO (jF p) (0,lb) (∀ k lc,(jF p).inv (k,lc) → TT 5 (CD ((k : Int) < (p.mems.length : Int)) (TT 4 (IX (k : Int) p.mems.length∧TT 5 (IX (k : Int) p.mems.length∧TT 5 (IX (k : Int) p.mems.length∧TT 2 (au [[(i6 (((p.mems.getD k ax).enable).op)),(dS (((p.mems.getD k ax).enable).name)),(i6 ((((p.mems.getD k ax).enable).k).n)),(dS ((((p.mems.getD k ax).enable).k).p)),(i6 ((((p.mems.getD k ax).enable).w).n)),(dS ((((p.mems.getD k ax).enable).w).p)),(dL 7 (eA 2) dE (((p.mems.getD k ax).enable).args))],[(i6 (((p.mems.getD k ax).addr).op)),(dS (((p.mems.getD k ax).addr).name)),(i6 ((((p.mems.getD k ax).addr).k).n)),(dS ((((p.mems.getD k ax).addr).k).p)),(i6 ((((p.mems.getD k ax).addr).w).n)),(dS ((((p.mems.getD k ax).addr).w).p)),(dL 7 (eA 2) dE (((p.mems.getD k ax).addr).args))],[(i6 (((p.mems.getD k ax).data).op)),(dS (((p.mems.getD k ax).data).name)),(i6 ((((p.mems.getD k ax).data).k).n)),(dS ((((p.mems.getD k ax).data).k).p)),(i6 ((((p.mems.getD k ax).data).w).n)),(dS ((((p.mems.getD k ax).data).w).p)),(dL 7 (eA 2) dE (((p.mems.getD k ax).data).args))]] ([(p.mems.getD k ax).enable,(p.mems.getD k ax).addr,(p.mems.getD k ax).data].map (eA 3))∧(lc.length + ([(p.mems.getD k ax).enable,(p.mems.getD k ax).addr,(p.mems.getD k ax).data].map (eA 3)).length ≤ 137438953472∧lc.map (eA 3) ++ [(p.mems.getD k ax).enable,(p.mems.getD k ax).addr,(p.mems.getD k ax).data].map (eA 3) = (du (AA p) (fM p) (k + 1)).map (eA 3))∧TT 2 (W6 ((k + 1 : Nat) : Int)∧TT 1 (AG (jF p) (k,lc) (k + 1,du (AA p) (fM p) (k + 1))))))))) (TT 1 (GO (jG p) (0,lc) (∀ q ld,(jG p).inv (q,ld) → TT 5 (CD ((q : Int) < (p.puts.length : Int)) (TT 4 (IX (q : Int) p.puts.length∧TT 5 (IX (q : Int) p.puts.length∧TT 2 (au [[(i6 (((p.puts.getD q bg).when).op)),(dS (((p.puts.getD q bg).when).name)),(i6 ((((p.puts.getD q bg).when).k).n)),(dS ((((p.puts.getD q bg).when).k).p)),(i6 ((((p.puts.getD q bg).when).w).n)),(dS ((((p.puts.getD q bg).when).w).p)),(dL 7 (eA 2) dE (((p.puts.getD q bg).when).args))],[(i6 (((p.puts.getD q bg).data).op)),(dS (((p.puts.getD q bg).data).name)),(i6 ((((p.puts.getD q bg).data).k).n)),(dS ((((p.puts.getD q bg).data).k).p)),(i6 ((((p.puts.getD q bg).data).w).n)),(dS ((((p.puts.getD q bg).data).w).p)),(dL 7 (eA 2) dE (((p.puts.getD q bg).data).args))]] ([(p.puts.getD q bg).when,(p.puts.getD q bg).data].map (eA 3))∧(ld.length + ([(p.puts.getD q bg).when,(p.puts.getD q bg).data].map (eA 3)).length ≤ 137438953472∧ld.map (eA 3) ++ [(p.puts.getD q bg).when,(p.puts.getD q bg).data].map (eA 3) = (du (AB p) (fP p) (q + 1)).map (eA 3))∧TT 2 (W6 ((q + 1 : Nat) : Int)∧TT 1 (AG (jG p) (q,ld) (q + 1,du (AB p) (fP p) (q + 1)))))))) (TT 3 (ld.map (eA 3) = (aj p).map (eA 3)))))))))))))))))))) (.w 1 [(0,.box 60 7 (eA 3) dE (du [] (fT p) 0))] <| .l (jD p) 0 (fun i => .b 13 (.w 5 [(7,.box 60 7 (eA 3) dE [(p.takes.getD i aX).when]),(8,.box 60 7 (eA 3) dE (du [] (fT p) (i + 1)))] <| .w 4 [(1,.val (i6 ((i + 1 : Nat) : Int)))] <| .e) (.l (jE p) (0,du [] (fT p) i) (fun ⟨j,lb⟩ => .b 29 (.w 9 [(7,.box 60 7 (eA 3) dE [(p.regs.getD j aM).next]),(8,.box 60 7 (eA 3) dE (du (Az p) (fR p) (j + 1)))] <| .w 8 [(1,.val (i6 ((j + 1 : Nat) : Int)))] <| .e) (.l (jF p) (0,lb) (fun ⟨k,lc⟩ => .b 45 (.w 13 [(19,.box 60 7 (eA 3) dE [(p.mems.getD k ax).enable,(p.mems.getD k ax).addr,(p.mems.getD k ax).data]),(20,.box 60 7 (eA 3) dE (du (AA p) (fM p) (k + 1)))] <| .w 12 [(1,.val (i6 ((k + 1 : Nat) : Int)))] <| .e) (.l (jG p) (0,lc) (fun ⟨q,ld⟩ => .b 73 (.w 17 [(13,.box 60 7 (eA 3) dE [(p.puts.getD q bg).when,(p.puts.getD q bg).data]),(14,.box 60 7 (eA 3) dE (du (AB p) (fP p) (q + 1)))] <| .w 16 [(1,.val (i6 ((q + 1 : Nat) : Int)))] <| .e) (.e))))))))) Try.func24 rfl rfl rfl (by kernel_rfl) ?_
 refine tt ⟨oK,tt ⟨rfl,(by omega),?_⟩⟩
 intro i hinv
 have hi := hinv
 refine tt (cd (fun hc13 => ?_) (fun hc13 => ?_))
 · refine tt ⟨ix,tt ⟨⟨⟨rfl,rfl,rfl,rfl,rfl,rfl,rfl,oK⟩,oK⟩,⟨(qt (by simp) (B7 p) (by omega) rfl),tt ⟨w6,tt ⟨(i + 1),rfl,(?_ : (i + 1) ≤ p.takes.length),(?_ : p.takes.length - (i + 1) < p.takes.length - i)⟩⟩⟩⟩⟩
   · omega
   · omega
 · have eA : du [] (fT p) i = Az p := by rw [show i = p.takes.length by omega]; rfl
   refine tt ⟨rfl,⟨by omega,eA⟩,?_⟩
   intro j lb hinv
   obtain ⟨hj,hlb⟩ := hinv
   refine tt (cd (fun hc29 => ?_) (fun hc29 => ?_))
   · refine tt ⟨ix,tt ⟨⟨⟨rfl,rfl,rfl,rfl,rfl,rfl,rfl,oK⟩,oK⟩,⟨(by rw [hlb]; exact qt (by omega) (B8 p) (by omega) rfl),tt ⟨w6,tt ⟨(j + 1,du (Az p) (fR p) (j + 1)),rfl,?_,(?_ : p.regs.length - (j + 1) < p.regs.length - j)⟩⟩⟩⟩⟩
     · exact ⟨by omega,rfl⟩
     · omega
   · have eB : lb = AA p := by rw [hlb,show j = p.regs.length by omega]; rfl
     refine tt ⟨rfl,⟨by omega,eB⟩,?_⟩
     intro k lc hinv
     obtain ⟨hk,hlc⟩ := hinv
     refine tt (cd (fun hc45 => ?_) (fun hc45 => ?_))
     · refine tt ⟨ix,tt ⟨ix,tt ⟨ix,tt ⟨⟨⟨rfl,rfl,rfl,rfl,rfl,rfl,rfl,oK⟩,⟨rfl,rfl,rfl,rfl,rfl,rfl,rfl,oK⟩,⟨rfl,rfl,rfl,rfl,rfl,rfl,rfl,oK⟩,oK⟩,⟨(by rw [hlc]; exact qt (by omega) (B9 p) (by omega) rfl),tt ⟨w6,tt ⟨(k + 1,du (AA p) (fM p) (k + 1)),rfl,?_,(?_ : p.mems.length - (k + 1) < p.mems.length - k)⟩⟩⟩⟩⟩⟩⟩
       · exact ⟨by omega,rfl⟩
       · omega
     · have eC : lc = AB p := by rw [hlc,show k = p.mems.length by omega]; rfl
       refine tt ⟨rfl,⟨by omega,eC⟩,?_⟩
       intro q ld hinv
       obtain ⟨hq,hld⟩ := hinv
       refine tt (cd (fun hc73 => ?_) (fun hc73 => ?_))
       · refine tt ⟨ix,tt ⟨ix,tt ⟨⟨⟨rfl,rfl,rfl,rfl,rfl,rfl,rfl,oK⟩,⟨rfl,rfl,rfl,rfl,rfl,rfl,rfl,oK⟩,oK⟩,⟨(by rw [hld]; exact qt (by omega) (Ca p) (by omega) rfl),tt ⟨w6,tt ⟨(q + 1,du (AB p) (fP p) (q + 1)),rfl,?_,(?_ : p.puts.length - (q + 1) < p.puts.length - q)⟩⟩⟩⟩⟩⟩
         · exact ⟨by omega,rfl⟩
         · omega
       · have eD : ld = aj p := by rw [hld,show q = p.puts.length by omega]; rfl
         refine tt (congrArg _ (?_ : ld = (aj p)))
         all_goals (first | exact eD | rfl | assumption | (rw [eA]; rfl) | (rw [eB]; rfl) | (rw [eC]; rfl))
abbrev Ee (l : List Ex) : Ct := ⟨23,[(dL 7 (eA 3) dE l)],true,(dL 7 (eA 3) dE (ab l))⟩
abbrev jH (l : List Ex) : Lp (Nat) := io [3,4] 1 (fun (i : Nat) => ⟨[(3,(.own 0)),(4,(i6 (i : Int)))],[(.arr 60 7 (eA 3) dE (bP l i))]⟩) (fun (i : Nat) => i ≤ (bP l i).length∧i + gr.szL ((bP l i).drop i) = gr.szL l) (fun (i : Nat) => gr.szL l - i)
theorem ym (l : List Ex) (hd : ∀ a ∈ l,cR a ≤ 3) (hs : gr.szL l ≤ 1000000) : CC (Ee l) := by
 have hll := uz l
 refine ah.vc (V := TT 1 (au [] (([] : List Ex).map (eA 3))∧TT 1 ((([] : List Ex).length + (l.map (eA 3)).length ≤ 137438953472∧([] : List Ex).map (eA 3) ++ l.map (eA 3) = (bP l 0).map (eA 3))∧TT 2 (GO (jH l) 0 (∀ i,(jH l).inv i → TT 4 (CD ((i : Int) < (((bP l i).length : Nat) : Int)) (TT 3 (IX (i : Int) ((bP l i).length)∧TT 1 (((i < (bP l i).length∧True)∧jM (dL 7 (eA 2) dE (((bP l i).getD i dE).args)) (dL 7 (eA 3) dE (((bP l i).getD i dE).args)))∧((bP l i).length + ((((bP l i).getD i dE).args).map (eA 3)).length ≤ 137438953472∧(bP l i).map (eA 3) ++ (((bP l i).getD i dE).args).map (eA 3) = (bP l (i + 1)).map (eA 3))∧TT 2 (W6 ((i + 1 : Nat) : Int)∧TT 1 (AG (jH l) i (i + 1)))))) (TT 3 ((bP l i).map (eA 3) = (ab l).map (eA 3))))))))) (.w 1 [(0,.box 60 7 (eA 3) dE ([] : List Ex)),(2,.box 60 7 (eA 3) dE (bP l 0))] <| .l (jH l) 0 (fun i => .b 11 (.w 5 [(5,.lift (dL 7 (eA 3) dE (((bP l i).getD i dE).args))),(6,.box 60 7 (eA 3) dE (bP l (i + 1)))] <| .w 4 [(1,.val (i6 ((i + 1 : Nat) : Int)))] <| .e) (.e))) Try.func23 rfl rfl rfl (by kernel_rfl) ?_
 refine tt ⟨oK,tt ⟨⟨by simp only [List.length_map,List.length_nil]; omega,by simp [bP]⟩,tt ⟨rfl,⟨by omega,by rw [bP,List.drop_zero]; omega⟩,?_⟩⟩⟩
 intro i hinv
 obtain ⟨hi,hz⟩ := hinv
 have hpl := uA hi hz
 refine tt (cd (fun hc11 => ?_) (fun hc11 => ?_))
 · have hde : ∀ a ∈ ((bP l i).getD i dE).args,cR a ≤ 2∧cR a ≤ 3 := fun a ha => by have := d9 ha; have := kD (Q := fun e => cR e ≤ 3) (fun e he a ha => by have := d9 ha; omega) hd i _ (co (show i < (bP l i).length by omega)); omega
   refine tt ⟨ix,tt ⟨⟨⟨om,oK⟩,(yf hde)⟩,⟨(AD (by omega) hz hs),tt ⟨w6,tt ⟨(i + 1),rfl,(?_ : (i + 1) ≤ (bP l (i + 1)).length∧(i + 1) + gr.szL ((bP l (i + 1)).drop (i + 1)) = gr.szL l),(?_ : gr.szL l - (i + 1) < gr.szL l - i)⟩⟩⟩⟩⟩
   · exact pn (by omega) hz
   · omega
 · refine tt (congrArg _ (?_ : (bP l i) = (ab l)))
   exact AC (by omega) hi hz
abbrev EV (z : Ps) : Ct := ⟨10,[(.agg [(LI z.regs),(dL 1 ao [] z.mems)])],false,(dB (rV z))⟩
abbrev jI (z : Ps) : Lp (Nat) := io [1,3] 1 (fun (i : Nat) => ⟨[(1,(.ptr 0 0 0 0)),(3,(i6 (i : Int)))],[(.var 29 [(LI z.regs),(dL 1 ao [] z.mems)])]⟩) (fun (i : Nat) => i ≤ 9∧∀ j,j < i → (z.mems.getD j []).length ≤ 20) (fun (i : Nat) => 9 - i)
theorem BG (z : Ps) : CC (EV z) := by
 refine ah.vc (V := TT 3 (GO (jI z) 0 (∀ i,(jI z).inv i → CS ((i : Int) < (z.mems.length : Int)) (TT 5 ((True∧(decide ((i : Int) < (z.mems.length : Int))) = true)∧TT 3 (CD ((i : Int) < 9) (TT 3 (IX (i : Int) z.mems.length∧TT 3 (CD ((((z.mems.getD i []).length : Nat) : Int) > 20) (TT 2 (false = (rV z)∧True)) (TT 1 (W6 ((i + 1 : Nat) : Int)∧TT 1 (AG (jI z) i (i + 1))))))) (CS ((z.regs.length : Int) ≤ 20) (TT 4 ((True∧(decide ((z.regs.length : Int) ≤ 20)) = true)∧TT 7 ((decide ((z.mems.length : Int) ≤ 8)) = (rV z)∧True))) (TT 4 ((True∧(decide ((z.regs.length : Int) ≤ 20)) = false)∧TT 7 (false = (rV z)∧True))))))) (TT 5 ((True∧(decide ((i : Int) < (z.mems.length : Int))) = false)∧TT 3 (CS ((z.regs.length : Int) ≤ 20) (TT 4 ((True∧(decide ((z.regs.length : Int) ≤ 20)) = true)∧TT 7 ((decide ((z.mems.length : Int) ≤ 8)) = (rV z)∧True))) (TT 4 ((True∧(decide ((z.regs.length : Int) ≤ 20)) = false)∧TT 7 (false = (rV z)∧True))))))))) (.l (jI z) 0 (fun i => .s 2 ((i : Int) < (z.mems.length : Int)) (.w 2 [(5,.val (dB true))] <| .b 12 (.b 21 (.e) (.w 3 [(1,.val (i6 ((i + 1 : Nat) : Int)))] <| .e)) (.s 6 ((z.regs.length : Int) ≤ 20) (.w 6 [(4,.val (dB true))] <| .e) (.w 6 [(4,.val (dB false))] <| .e))) (.w 2 [(5,.val (dB false))] <| .s 6 ((z.regs.length : Int) ≤ 20) (.w 6 [(4,.val (dB true))] <| .e) (.w 6 [(4,.val (dB false))] <| .e)))) Try.func10 rfl rfl rfl (by kernel_rfl) ?_
 refine tt ⟨rfl,⟨by omega,fun j hj => by omega⟩,?_⟩
 intro i hinv
 obtain ⟨hi,hsm⟩ := hinv
 refine ⟨fun hs0 => ?_,fun hs0 => ?_⟩
 · refine tt ⟨(vT hs0),tt (cd (fun hc12 => ?_) (fun hc12 => ?_))⟩
   · refine tt ⟨ix,tt (cd (fun hc21 => ?_) (fun hc21 => ?_))⟩
     · refine tt ⟨?_,oK⟩
       first | exact (rX (i := i) (by omega) (by omega) (by omega)).symm | (rw [n9 hsm (by omega)]; first | (rw [decide_eq_false (show ¬(z.regs.length : Int) ≤ 20 by omega)]; rfl) | (rw [decide_eq_true (show (z.regs.length : Int) ≤ 20 by omega),Bool.true_and]))
     · refine tt ⟨w6,tt ⟨(i + 1),rfl,?_,(?_ : 9 - (i + 1) < 9 - i)⟩⟩
       · exact ⟨by omega,ew hsm (by omega)⟩
       · omega
   · refine ⟨fun hs1 => ?_,fun hs1 => ?_⟩
     · refine tt ⟨(vT hs1),tt ⟨?_,oK⟩⟩
       first | exact (rX (i := i) (by omega) (by omega) (by omega)).symm | (rw [n9 hsm (by omega)]; first | (rw [decide_eq_false (show ¬(z.regs.length : Int) ≤ 20 by omega)]; rfl) | (rw [decide_eq_true (show (z.regs.length : Int) ≤ 20 by omega),Bool.true_and]))
     · refine tt ⟨(vF hs1),tt ⟨?_,oK⟩⟩
       first | exact (rX (i := i) (by omega) (by omega) (by omega)).symm | (rw [n9 hsm (by omega)]; first | (rw [decide_eq_false (show ¬(z.regs.length : Int) ≤ 20 by omega)]; rfl) | (rw [decide_eq_true (show (z.regs.length : Int) ≤ 20 by omega),Bool.true_and]))
 · refine tt ⟨(vF hs0),tt ⟨fun hs2 => ?_,fun hs2 => ?_⟩⟩
   · refine tt ⟨(vT hs2),tt ⟨?_,oK⟩⟩
     first | exact (rX (i := i) (by omega) (by omega) (by omega)).symm | (rw [n9 hsm (by omega)]; first | (rw [decide_eq_false (show ¬(z.regs.length : Int) ≤ 20 by omega)]; rfl) | (rw [decide_eq_true (show (z.regs.length : Int) ≤ 20 by omega),Bool.true_and]))
   · refine tt ⟨(vF hs2),tt ⟨?_,oK⟩⟩
     first | exact (rX (i := i) (by omega) (by omega) (by omega)).symm | (rw [n9 hsm (by omega)]; first | (rw [decide_eq_false (show ¬(z.regs.length : Int) ≤ 20 by omega)]; rfl) | (rw [decide_eq_true (show (z.regs.length : Int) ≤ 20 by omega),Bool.true_and]))
abbrev c3 (xb ka kb kc : List Int) (z : Ps) : Ct := ⟨3,[(.agg [(LY xb)]),(.agg [(LY ka),(LY kb),(LY kc)]),(.agg [(LI z.regs),(dL 1 ao [] z.mems)])],false,(dB true)⟩
abbrev fD (xb : List Int) (ka : List Int) (kb : List Int) (kc : List Int) (z : Ps) : Lp (Nat) := io [7,8,9,11,12,13] 51 (fun (i : Nat) => ⟨[(7,(dB true)),(8,(.ptr 3 0 0 0)),(9,(.ptr 16 0 0 0)),(11,(LI (cM (aa xb) kc))),(12,(dL 7 (eA 3) dE (ab (aj (aa xb))))),(13,(i6 (i : Int)))],[(.var 24 [(LY xb)]),(.var 25 [(LY ka),(LY kb),(LY kc)]),(.var 29 [(LI z.regs),(dL 1 ao [] z.mems)]),(.var 37 [(dS ((aa xb).name)),(dS ((aa xb).clock)),(dL 13 bS aM ((aa xb).regs)),(dL 27 dW ax ((aa xb).mems)),(dL 9 bU aX ((aa xb).takes)),(dL 16 bL bg ((aa xb).puts))]),.dead,.dead,.dead,.dead,.dead,.dead,.dead,.dead,.dead,.dead,.dead,.dead,(.var 29 [(LI ((b3 (aa xb) ka).regs)),(dL 1 ao [] ((b3 (aa xb) ka).mems))]),(.var 43 [(dL 2 cK bp (ss (aa xb) kb)),(LB (fZ (aa xb) kb))]),.dead,.dead,.dead,.dead,.dead,.dead,.dead,.dead,.dead,.dead,.dead,.dead,.dead,.dead,.dead,.dead,.dead,.dead,.dead,.dead,.dead,.dead,.dead,.dead,.dead,.dead,.dead,.dead,.dead,.dead,.dead,.dead,.dead]⟩) (fun (i : Nat) => i ≤ (ab (aj (aa xb))).length) (fun (i : Nat) => (ab (aj (aa xb))).length - i)
theorem wT (xb ka kb kc : List Int) (z : Ps) (gx : np xb) (hxl : xb.length ≤ 9223372036854775807) (ga : np ka) (gb : np kb) (gc : np kc) (hcl : kc.length ≤ 9223372036854775807) : CC (c3 xb ka kb kc z) := by
 have hp := vK gx
 have hso := Au hp ka
 have hh := C0 hp kb
 have ho := dr hp hso (rD (s := (b3 (aa xb) ka)) hp hh)
 have hl1 := hp.tl
 have hl2 := hp.pl
 have hl3 := hp.ml
 have hlr : (fZ (aa xb) kb).length = (aa xb).puts.length := BA
 have hlh : (ss (aa xb) kb).length = (aa xb).takes.length := hh.l
 have hrp := ut hp (ku hp)
 have hov := dr hp hso (yj hp kc)
 have hsz := AF hp
 have hpl : (ab (aj (aa xb))).length ≤ 1000000 := Nat.le_trans (vP hp) hsz
 refine ah.vc (V := TT 4 (CC c9∧TT 4 (CC (EV z)∧TT 1 (CB (!(rV z)) (TT 3 (true = true∧True)) (TT 1 (CC (Eb xb)∧TT 3 (((0 ≤ (0 : Int)∧0 < (3 : Int))∧True)∧TT 1 (CC (D8 (aa xb) ka)∧TT 1 (((0 ≤ (1 : Int)∧1 < (3 : Int))∧True)∧TT 1 (CC (ES (aa xb) kb)∧TT 1 (((0 ≤ (2 : Int)∧2 < (3 : Int))∧True)∧TT 1 (CC (Ea (aa xb) kc)∧TT 7 (CC (Al (aa xb) z)∧TT 2 (CC (EH (aa xb) z)∧TT 1 ((True∧(!decide ((bi (aa xb) z) = (bi (aa xb) z))) = false)∧TT 2 (CC (Al (aa xb) (b3 (aa xb) ka))∧TT 2 ((True∧(!(bi (aa xb) (b3 (aa xb) ka))) = false)∧TT 1 (CC (DX (aa xb))∧TT 1 (CC (EI (aa xb))∧CC (y9 (⟨(aZ (aa xb)).regs,(aZ (aa xb)).mems⟩ : Ps) (⟨(aZ (aa xb)).regs,(aZ (aa xb)).mems⟩ : Ps))∧TT 2 ((True∧(!(cy (⟨(aZ (aa xb)).regs,(aZ (aa xb)).mems⟩ : Ps) (⟨(aZ (aa xb)).regs,(aZ (aa xb)).mems⟩ : Ps))) = false)∧TT 3 (CC (ET (aa xb) (b3 (aa xb) ka) (ss (aa xb) kb) (fZ (aa xb) kb))∧TT 3 (CC (EL (aa xb) (b3 (aa xb) ka) (ss (aa xb) kb) (fZ (aa xb) kb))∧CC (za (az (aa xb) (b3 (aa xb) ka) (ss (aa xb) kb) (fZ (aa xb) kb)) (az (aa xb) (b3 (aa xb) ka) (ss (aa xb) kb) (fZ (aa xb) kb)))∧TT 2 ((!(ck (az (aa xb) (b3 (aa xb) ka) (ss (aa xb) kb) (fZ (aa xb) kb)) (az (aa xb) (b3 (aa xb) ka) (ss (aa xb) kb) (fZ (aa xb) kb)))) = false∧TT 1 (CC (Ed (aa xb))∧CC (Ee (aj (aa xb)))∧TT 2 (GO (fD xb ka kb kc z) 0 (∀ i,(fD xb ka kb kc z).inv i → TT 4 (CD ((i : Int) < (((ab (aj (aa xb))).length : Nat) : Int)) (TT 5 (IX (i : Int) ((ab (aj (aa xb))).length)∧TT 1 (CC (AK (aa xb) (b3 (aa xb) ka) (cM (aa xb) kc) ((ab (aj (aa xb))).getD i dE))∧TT 6 (IX (i : Int) ((ab (aj (aa xb))).length)∧TT 1 (CC (uj (aa xb) (b3 (aa xb) ka) (cM (aa xb) kc) 2 ((ab (aj (aa xb))).getD i dE))∧TT 2 ((!decide (((aL (aa xb) (b3 (aa xb) ka) (cM (aa xb) kc) ((ab (aj (aa xb))).getD i dE)).1) = ((aL (aa xb) (b3 (aa xb) ka) (cM (aa xb) kc) ((ab (aj (aa xb))).getD i dE)).1))) = false∧TT 1 (W6 ((i + 1 : Nat) : Int)∧TT 1 (AG (fD xb ka kb kc z) i (i + 1))))))))) (TT 3 (true = true∧True))))))))))))))))))))))))))))) (.w 1 [(0,c9.O)] <| .w 4 [(1,(EV z).O)] <| .b 19 (.e) (.w 6 [(1,(Eb xb).O)] <| .w 7 [(3,(D8 (aa xb) ka).O),(7,(ES (aa xb) kb).O),(11,(Ea (aa xb) kc).O)] <| .w 8 [(2,(Al (aa xb) z).O),(5,(EH (aa xb) z).O),(7,.val (dB false)),(10,(Al (aa xb) (b3 (aa xb) ka)).O),(13,.val (dB false)),(15,(DX (aa xb)).O),(17,(EI (aa xb)).O),(18,(y9 (⟨(aZ (aa xb)).regs,(aZ (aa xb)).mems⟩ : Ps) (⟨(aZ (aa xb)).regs,(aZ (aa xb)).mems⟩ : Ps)).O),(21,.val (dB false)),(25,(ET (aa xb) (b3 (aa xb) ka) (ss (aa xb) kb) (fZ (aa xb) kb)).O),(29,(EL (aa xb) (b3 (aa xb) ka) (ss (aa xb) kb) (fZ (aa xb) kb)).O),(30,(za (az (aa xb) (b3 (aa xb) ka) (ss (aa xb) kb) (fZ (aa xb) kb)) (az (aa xb) (b3 (aa xb) ka) (ss (aa xb) kb) (fZ (aa xb) kb))).O)] <| .u 67 (.w 10 [(1,(Ed (aa xb)).O),(2,(Ee (aj (aa xb))).O)] <| .l (fD xb ka kb kc z) 0 (fun i => .b 74 (.w 14 [(7,(AK (aa xb) (b3 (aa xb) ka) (cM (aa xb) kc) ((ab (aj (aa xb))).getD i dE)).O),(16,(uj (aa xb) (b3 (aa xb) ka) (cM (aa xb) kc) 2 ((ab (aj (aa xb))).getD i dE)).O)] <| .u 95 (.w 13 [(1,.val (i6 ((i + 1 : Nat) : Int)))] <| .e)) (.e))))) Try.func3 rfl rfl rfl (by kernel_rfl) ?_
 refine tt ⟨(nY),tt ⟨(BG z),tt ⟨fun hc19 => ?_,fun hc19 => ?_⟩⟩⟩
 · exact tt ⟨rfl,oK⟩
 · refine tt ⟨(vM xb gx hxl),tt ⟨⟨by omega,oK⟩,tt ⟨(yd (aa xb) ka hp ga),tt ⟨⟨by omega,oK⟩,tt ⟨(D9 (aa xb) kb hp gb),tt ⟨⟨by omega,oK⟩,tt ⟨(vL (aa xb) kc hp gc hcl),tt ⟨(kW (aa xb) z hp),tt ⟨(yY (aa xb) z hp),tt ⟨(nF (by simp)),tt ⟨(kW (aa xb) (b3 (aa xb) ka) hp),tt ⟨(mF (yV.2 hso)),tt ⟨(tg (aa xb) hp),tt ⟨(yZ (aa xb) hp),⟨(iY (⟨(aZ (aa xb)).regs,(aZ (aa xb)).mems⟩ : Ps) (⟨(aZ (aa xb)).regs,(aZ (aa xb)).mems⟩ : Ps) (Nat.le_trans hrp.1 (by decide)) (Nat.le_trans hrp.2.1 (by decide)) (fun i => Nat.le_trans (hrp.2.2 i) (by decide))),tt ⟨(mF (eE.2 rfl)),tt ⟨(BB (aa xb) (b3 (aa xb) ka) (ss (aa xb) kb) (fZ (aa xb) kb) hp hso hh hlr),tt ⟨(y2 (aa xb) (b3 (aa xb) ka) (ss (aa xb) kb) (fZ (aa xb) kb) hp hso hh hlr),⟨(ln (az (aa xb) (b3 (aa xb) ka) (ss (aa xb) kb) (fZ (aa xb) kb)) (az (aa xb) (b3 (aa xb) ka) (ss (aa xb) kb) (fZ (aa xb) kb)) (Nat.le_trans (c6 (rs := (fZ (aa xb) kb)) hp hso hh).1 (by decide)) (Nat.le_trans (c6 (rs := (fZ (aa xb) kb)) hp hso hh).2.1 (by decide)) (fun i => Nat.le_trans ((c6 (rs := (fZ (aa xb) kb)) hp hso hh).2.2.1 i) (by decide)) (Nat.le_trans (c6 (rs := (fZ (aa xb) kb)) hp hso hh).2.2.2.1 (by decide)) (Nat.le_trans (c6 (rs := (fZ (aa xb) kb)) hp hso hh).2.2.2.2 (by decide))),tt ⟨(rh (eF.2 rfl)),tt ⟨(yl (aa xb) hp),⟨(ym (aj (aa xb)) (fun a ha => (uB hp a ha).1) hsz),tt ⟨rfl,(by omega),?_⟩⟩⟩⟩⟩⟩⟩⟩⟩⟩⟩⟩⟩⟩⟩⟩⟩⟩⟩⟩⟩⟩⟩
   intro i hinv
   have hi := hinv
   refine tt (cd (fun hc74 => ?_) (fun hc74 => ?_))
   · obtain ⟨hdp,vt,hty⟩ := vO hp (show i < (ab (aj (aa xb))).length by omega)
     refine tt ⟨ix,tt ⟨(qi (aa xb) (b3 (aa xb) ka) (cM (aa xb) kc) ((ab (aj (aa xb))).getD i dE) _ _ hov hty hdp),tt ⟨ix,tt ⟨(gL hov hso.mn 2 ((ab (aj (aa xb))).getD i dE) _ hty hdp),tt ⟨(Dd (by simp)),tt ⟨w6,tt ⟨(i + 1),rfl,(?_ : (i + 1) ≤ (ab (aj (aa xb))).length),(?_ : (ab (aj (aa xb))).length - (i + 1) < (ab (aj (aa xb))).length - i)⟩⟩⟩⟩⟩⟩⟩
     · omega
     · omega
   · exact tt ⟨rfl,oK⟩
end Go.Proofs.Ytgfbfajaaaegjaa
