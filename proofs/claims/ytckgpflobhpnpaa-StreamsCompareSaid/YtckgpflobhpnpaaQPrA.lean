/-
  Package process: values of expressions.
-/
import Derived.Test.YtckgpflobhpnpaaQVbM
import Derived.Test.YtckgpflobhpnpaaQPrQ
namespace Go.Proofs.Ytckgpflobhpnpaa
open Go.RowKit
set_option linter.unusedVariables false
set_option linter.unusedSimpArgs false
set_option maxRecDepth 100000
abbrev E9 (p : Pr) (s : Ps) (data : List Int) (n : Nat) (e : Ex) : Ct := ⟨63,[(.agg [(dS p.name),(dS p.clock),(dL 13 wA eD p.regs),(dL 27 xQ bh p.mems),(dL 9 tE aQ p.takes),(dL 16 vP aI p.puts),(LI s.regs),(dL 1 aa [] s.mems),(LI data)]),(.agg [(i6 e.op),(dS e.name),(i6 e.k.n),(dS e.k.p),(i6 e.w.n),(dS e.w.p),(dL 7 (eA n) dE e.args)])],false,(.tup [(i6 ((bo p s data e).1)),(i6 ((bo p s data e).2))])⟩
abbrev vS (p : Pr) (s : Ps) (data : List Int) (n : Nat) (e : Ex) : Lp (Nat) := pT [2,3,6,9,10,90,91,92] 4 (fun (i : Nat) => ⟨[(2,(.ptr 0 0 0 0)),(3,(.ptr 1 0 0 0)),(6,(i6 e.k.n)),(9,(.own 2)),(10,(.own 3)),(90,(dL 7 (eA (n + 1)) dE e.args)),(91,(i6 (e.args.length : Int))),(92,(i6 (i : Int)))],[(.var 152 [(dS p.name),(dS p.clock),(dL 13 wA eD p.regs),(dL 27 xQ bh p.mems),(dL 9 tE aQ p.takes),(dL 16 vP aI p.puts),(LI s.regs),(dL 1 aa [] s.mems),(LI data)]),(.var 85 [(i6 e.op),(dS e.name),(i6 e.k.n),(dS e.k.p),(i6 e.w.n),(dS e.w.p),(dL 7 (eA (n + 1)) dE e.args)]),(.arr 3 1 (ae .i64) 0 (kJ p s data (e.args.take i))),(.arr 3 1 (ae .i64) 0 (hT p s data (e.args.take i)))]⟩) (fun (i : Nat) => i ≤ e.args.length) (fun (i : Nat) => e.args.length - i)
theorem C5 (p : Pr) (s : Ps) (data : List Int) (n : Nat) (e : Ex) (c : Sc) (v : Int) (ho : vR c p s data) (ht : kI c e = some v) (ih : ∀ a ∈ e.args,CC (E9 p s data n a)) : CC (E9 p s data (n + 1) e) := by
 have hal := GV ht
 refine ai.vc (V := TT 12 (CD (e.op = 16) (TT 4 (IX e.k.n s.regs.length∧TT 5 (IX e.k.n p.regs.length∧TT 6 (((s.regs.getD e.k.n.toNat 0) = ((bo p s data e).1)∧((p.regs.getD e.k.n.toNat eD).w) = ((bo p s data e).2)∧True)∧(True∧True∧True))))) (TT 2 (CD (e.op = 18) (TT 3 (IX e.k.n data.length∧TT 5 (IX e.k.n p.takes.length∧TT 6 (((data.getD e.k.n.toNat 0) = ((bo p s data e).1)∧((p.takes.getD e.k.n.toNat aQ).w) = ((bo p s data e).2)∧True)∧(True∧True∧True))))) (TT 2 (CD (e.op = 17) (TT 3 (IX 0 e.args.length∧TT 1 (CC (E9 p s data n (e.args.getD 0 dE))∧TT 9 (IX e.k.n s.mems.length∧TT 6 (IX e.k.n s.mems.length∧TT 2 ((((s.mems.getD e.k.n.toNat []).length : Nat) : Int) ≠ 0∧IX (Int.tmod ((bo p s data (e.args.getD 0 dE)).1) (((s.mems.getD e.k.n.toNat []).length : Nat) : Int)) ((s.mems.getD e.k.n.toNat []).length)∧TT 5 (IX e.k.n p.mems.length∧TT 6 ((((s.mems.getD e.k.n.toNat []).getD ((Int.tmod ((bo p s data (e.args.getD 0 dE)).1) (((s.mems.getD e.k.n.toNat []).length : Nat) : Int)).toNat) 0) = ((bo p s data e).1)∧((p.mems.getD e.k.n.toNat bh).w) = ((bo p s data e).2)∧True)∧(True∧True∧True))))))))) (TT 6 (GO (vS p s data n e) 0 (∀ i,(vS p s data n e).inv i → TT 1 (CD ((i : Int) < (e.args.length : Int)) (IX (i : Int) e.args.length∧TT 5 (CC (E9 p s data n (e.args.getD i dE))∧TT 7 (aF [[(i6 ((bo p s data (e.args.getD i dE)).1))]] ([(bo p s data (e.args.getD i dE)).1].map (ae .i64))∧((kJ p s data (e.args.take i)).length + ([(bo p s data (e.args.getD i dE)).1].map (ae .i64)).length ≤ 137438953472∧(kJ p s data (e.args.take i)).map (ae .i64) ++ [(bo p s data (e.args.getD i dE)).1].map (ae .i64) = (kJ p s data (e.args.take (i + 1))).map (ae .i64))∧TT 2 (aF [[(i6 ((bo p s data (e.args.getD i dE)).2))]] ([(bo p s data (e.args.getD i dE)).2].map (ae .i64))∧((hT p s data (e.args.take i)).length + ([(bo p s data (e.args.getD i dE)).2].map (ae .i64)).length ≤ 137438953472∧(hT p s data (e.args.take i)).map (ae .i64) ++ [(bo p s data (e.args.getD i dE)).2].map (ae .i64) = (hT p s data (e.args.take (i + 1))).map (ae .i64))∧TT 2 (W6 ((i + 1 : Nat) : Int)∧TT 1 (AG (vS p s data n e) i (i + 1))))))) (TT 11 ((0 ≤ (0 : Int)∧(0 : Int) ≤ (2 : Int)∧(2 : Int) ≤ (2 : Int))∧CK (Jl e.op (hT p s data (e.args.take i)) (kJ p s data (e.args.take i)) [e.k.n,e.w.n])∧TT 9 (CK (Jk e.op (hT p s data (e.args.take i)) e.k.n e.w.n)∧TT 11 (((db e.op (hT p s data (e.args.take i)) (kJ p s data (e.args.take i)) [e.k.n,e.w.n]) = ((bo p s data e).1)∧(fA e.op (hT p s data (e.args.take i)) e.k.n e.w.n) = ((bo p s data e).2)∧True)∧(True∧True∧True))))))))))))))) (.b 25 (.e) (.b 40 (.e) (.b 54 (.w 8 [(5,(E9 p s data n (e.args.getD 0 dE)).O)] <| .e) (.gs 11 9 3 1 (ae .i64) 0 <| .gs 11 10 3 1 (ae .i64) 0 <| .l (vS p s data n e) 0 (fun i => .b 93 (.w 14 [(2,(E9 p s data n (e.args.getD i dE)).O)] <| .w 15 [(2,.box 3 1 (ae .i64) 0 [(bo p s data (e.args.getD i dE)).1]),(3,.box 3 1 (ae .i64) 0 (kJ p s data (e.args.take (i + 1)))),(6,.box 3 1 (ae .i64) 0 [(bo p s data (e.args.getD i dE)).2]),(7,.box 3 1 (ae .i64) 0 (hT p s data (e.args.take (i + 1))))] <| .w 16 [(0,.val (i6 ((i + 1 : Nat) : Int)))] <| .e) (.f 18 4 <| .w 18 [(5,(Jl e.op (hT p s data (e.args.take i)) (kJ p s data (e.args.take i)) [e.k.n,e.w.n]).O')] <| .w 19 [(4,(Jk e.op (hT p s data (e.args.take i)) e.k.n e.w.n).O')] <| .e)))))) Try.func63 rfl rfl rfl (by kernel_rfl) ?_
 refine tt (cd (fun hc25 => ?_) (fun hc25 => ?_))
 · obtain ⟨h1,h2,h3⟩ := GW ho ht hc25
   refine tt ⟨ix,tt ⟨ix,tt ⟨⟨?_,?_,oK⟩,⟨oK,oK,oK⟩⟩⟩⟩
   all_goals (first | exact (lm hc25).1.symm | exact (lm hc25).2.symm | exact (iR hc40).1.symm | exact (iR hc40).2.symm | exact (iT hc54 hlen).1.symm | exact (iT hc54 hlen).2.symm | (rw [hie,List.take_length]; exact (qS hc25 hc40 hc54).1.symm) | (rw [hie,List.take_length]; exact (qS hc25 hc40 hc54).2.symm))
 · refine tt (cd (fun hc40 => ?_) (fun hc40 => ?_))
   · obtain ⟨h1,h2,h3⟩ := E7 ho ht hc40
     refine tt ⟨ix,tt ⟨ix,tt ⟨⟨?_,?_,oK⟩,⟨oK,oK,oK⟩⟩⟩⟩
     all_goals (first | exact (lm hc25).1.symm | exact (lm hc25).2.symm | exact (iR hc40).1.symm | exact (iR hc40).2.symm | exact (iT hc54 hlen).1.symm | exact (iT hc54 hlen).2.symm | (rw [hie,List.take_length]; exact (qS hc25 hc40 hc54).1.symm) | (rw [hie,List.take_length]; exact (qS hc25 hc40 hc54).2.symm))
   · refine tt (cd (fun hc54 => ?_) (fun hc54 => ?_))
     · obtain ⟨h1,h2,h3,hlen,h4,h5,h6⟩ := E8 ho ht hc54
       refine tt ⟨ix,tt ⟨(ih _ (uI (by omega))),tt ⟨ix,tt ⟨ix,tt ⟨om,⟨ix,tt ⟨ix,tt ⟨⟨?_,?_,oK⟩,⟨oK,oK,oK⟩⟩⟩⟩⟩⟩⟩⟩⟩
       all_goals (first | exact (lm hc25).1.symm | exact (lm hc25).2.symm | exact (iR hc40).1.symm | exact (iR hc40).2.symm | exact (iT hc54 hlen).1.symm | exact (iT hc54 hlen).2.symm | (rw [hie,List.take_length]; exact (qS hc25 hc40 hc54).1.symm) | (rw [hie,List.take_length]; exact (qS hc25 hc40 hc54).2.symm))
     · refine tt ⟨rfl,(by omega),?_⟩
       intro i hinv
       have hi := hinv
       refine tt (cd (fun hc93 => ?_) (fun hc93 => ?_))
       · refine ⟨ix,tt ⟨(ih _ (uI (by omega))),tt ⟨⟨⟨rfl,oK⟩,oK⟩,⟨⟨by first | (simp [kJ]; done) | (simp [kJ]; omega),by rw [Bo (by omega),List.map_append]⟩,tt ⟨⟨⟨rfl,oK⟩,oK⟩,⟨⟨by first | (simp [hT]; done) | (simp [hT]; omega),by rw [Bp (by omega),List.map_append]⟩,tt ⟨w6,tt ⟨(i + 1),rfl,(?_ : (i + 1) ≤ e.args.length),(?_ : e.args.length - (i + 1) < e.args.length - i)⟩⟩⟩⟩⟩⟩⟩⟩
         · omega
         · omega
       · have hie : i = e.args.length := by omega
         refine tt ⟨om,⟨⟨dm _ rfl,(C2 e.op (hT p s data (e.args.take i)) (kJ p s data (e.args.take i)) [e.k.n,e.w.n] (by rw [xl,List.length_take]; omega) (by rw [C4,List.length_take]; omega))⟩,tt ⟨⟨dm _ rfl,(C0 e.op (hT p s data (e.args.take i)) e.k.n e.w.n (by rw [xl,List.length_take]; omega))⟩,tt ⟨⟨?_,?_,oK⟩,⟨oK,oK,oK⟩⟩⟩⟩⟩
         all_goals (first | exact (lm hc25).1.symm | exact (lm hc25).2.symm | exact (iR hc40).1.symm | exact (iR hc40).2.symm | exact (iT hc54 hlen).1.symm | exact (iT hc54 hlen).2.symm | (rw [hie,List.take_length]; exact (qS hc25 hc40 hc54).1.symm) | (rw [hie,List.take_length]; exact (qS hc25 hc40 hc54).2.symm))
theorem Ac {c : Sc} {p : Pr} {s : Ps} {data : List Int} (ho : vR c p s data) : ∀ (n : Nat) (e : Ex) (v : Int),kI c e = some v → mf e ≤ n + 1 → CC (E9 p s data n e)
  | 0,e,v,ht,hd => by
    have ha : e.args = [] := by
      cases hl : e.args with
      | nil => rfl
      | cons a r =>
        have := Ab (e := e) (a := a) (by rw [hl]; simp)
        cases a with | mk op name k w args => rw [mf] at this; omega
    have h := C5 p s data 0 e c v ho ht (fun a h => by rw [ha] at h; cases h)
    refine ai.recast ?_ h
    refine ⟨xi _ rfl,⟨rfl,rfl,rfl,rfl,rfl,rfl,?_,oK⟩,oK⟩
    show e.args.map (eA 0) = e.args.map (eA 1)
    rw [ha]; rfl
  | n + 1,e,v,ht,hd => C5 p s data n e c v ho ht (fun a h => by
    obtain ⟨w,hw⟩ := GU ht h
    exact Ac ho n a w hw (by have := Ab h; omega))
end Go.Proofs.Ytckgpflobhpnpaa
