/-
  Package process: states, resets, steps.
-/
import Derived.Test.YtgmpoenfoacofaaQVp
import Derived.Test.YtgmpoenfoacofaaQBitP
import Derived.Test.YtgmpoenfoacofaaQKb
import Derived.WalkKit
import Derived.Test.YtgmpoenfoacofaaQPrQ
import Derived.Test.YtgmpoenfoacofaaQPrT
namespace Go.Proofs.Ytgmpoenfoacofaa
open Go.RowKit
set_option linter.unusedVariables false
set_option linter.unusedSimpArgs false
set_option maxRecDepth 100000
abbrev yJ (p : Pr) : Ct := ⟨35,[(.agg [(dS p.name),(dS p.clock),(dL 13 i5 ce p.regs),(dL 27 uY dz p.mems),(dL 9 mC qv p.takes),(dL 16 oa s4 p.puts)])],true,(.agg [(LI ((aP p).regs)),(dL 1 ax [] ((aP p).mems))])⟩
abbrev fS (p : Pr) : Lp (Nat) := mB [1,2,3,9,10,11] 4 (fun (i : Nat) => ⟨[(1,(.ptr 0 0 0 0)),(2,(.ptr 1 0 0 0)),(3,(.ptr 2 0 0 0)),(9,(dL 13 i5 ce p.regs)),(10,(i6 (p.regs.length : Int))),(11,(i6 (i : Int)))],[(.var 86 [(dS p.name),(dS p.clock),(dL 13 i5 ce p.regs),(dL 27 uY dz p.mems),(dL 9 mC qv p.takes),(dL 16 oa s4 p.puts)]),(.var 88 [.nils,.nils]),(.var 88 [(.own 3),.nils]),(.arr 3 1 (af .i64) 0 (tab (fun z => (p.regs.getD z ce).init) i))]⟩) (fun (i : Nat) => i ≤ p.regs.length) (fun (i : Nat) => p.regs.length - i)
abbrev fT (p : Pr) (i : Nat) : Lp (Nat) := mB [2,3,24,25,26] 5 (fun (j : Nat) => ⟨[(2,(.ptr 1 0 0 0)),(3,(.ptr 2 0 0 0)),(24,(dL 27 uY dz p.mems)),(25,(i6 (p.mems.length : Int))),(26,(i6 (j : Int)))],[(.var 86 [(dS p.name),(dS p.clock),(dL 13 i5 ce p.regs),(dL 27 uY dz p.mems),(dL 9 mC qv p.takes),(dL 16 oa s4 p.puts)]),(.var 88 [.nils,.nils]),(.var 88 [(.own 3),(.own 4)]),(.arr 3 1 (af .i64) 0 (tab (fun z => (p.regs.getD z ce).init) i)),(.arr 38 1 ax [] (tab (fun z => List.replicate (p.mems.getD z dz).words.toNat (0 : Int)) j))]⟩) (fun (j : Nat) => j ≤ p.mems.length) (fun (j : Nat) => p.mems.length - j)
theorem sH (p : Pr) (hp : vB p) : CC (yJ p) := by
 have hl1 := hp.rl
 have hl2 := hp.ml
 refine ai.vc (V := TT 7 (GO (fS p) 0 (∀ i,(fS p).inv i → TT 1 (CD ((i : Int) < (p.regs.length : Int)) (IX (i : Int) p.regs.length∧TT 7 (ak [[(i6 ((p.regs.getD i ce).init))]] ([(p.regs.getD i ce).init].map (af .i64))∧((tab (fun z => (p.regs.getD z ce).init) i).length + ([(p.regs.getD i ce).init].map (af .i64)).length ≤ 137438953472∧(tab (fun z => (p.regs.getD z ce).init) i).map (af .i64) ++ [(p.regs.getD i ce).init].map (af .i64) = (tab (fun z => (p.regs.getD z ce).init) (i + 1)).map (af .i64))∧TT 2 (W6 ((i + 1 : Nat) : Int)∧TT 1 (AG (fS p) i (i + 1))))) (TT 4 (GO (fT p i) 0 (∀ j,(fT p i).inv j → TT 1 (CD ((j : Int) < (p.mems.length : Int)) (IX (j : Int) p.mems.length∧TT 7 ((((0 : Int) ≤ (p.mems.getD j dz).words∧(p.mems.getD j dz).words ≤ (p.mems.getD j dz).words∧(p.mems.getD j dz).words ≤ 137438953472)∧(List.replicate (p.mems.getD j dz).words.toNat (0 : Int)).length = ((p.mems.getD j dz).words).toNat∧∀ x ∈ (List.replicate (p.mems.getD j dz).words.toNat (0 : Int)),fm [(i6 0)] ((af .i64) x))∧ak [[(LI (List.replicate (p.mems.getD j dz).words.toNat (0 : Int)))]] ([List.replicate (p.mems.getD j dz).words.toNat (0 : Int)].map ax)∧((tab (fun z => List.replicate (p.mems.getD z dz).words.toNat (0 : Int)) j).length + ([List.replicate (p.mems.getD j dz).words.toNat (0 : Int)].map ax).length ≤ 137438953472∧(tab (fun z => List.replicate (p.mems.getD z dz).words.toNat (0 : Int)) j).map ax ++ [List.replicate (p.mems.getD j dz).words.toNat (0 : Int)].map ax = (tab (fun z => List.replicate (p.mems.getD z dz).words.toNat (0 : Int)) (j + 1)).map ax)∧TT 2 (W6 ((j + 1 : Nat) : Int)∧TT 1 (AG (fT p i) j (j + 1))))) (TT 3 ((tab (fun z => (p.regs.getD z ce).init) i).map (af .i64) = ((aP p).regs).map (af .i64)∧(tab (fun z => List.replicate (p.mems.getD z dz).words.toNat (0 : Int)) j).map ax = ((aP p).mems).map ax∧True)))))))))) (.g 2 2 0 3 1 (af .i64) 0 <| .l (fS p) 0 (fun i => .b 12 (.w 5 [(4,.box 3 1 (af .i64) 0 [(p.regs.getD i ce).init]),(5,.box 3 1 (af .i64) 0 (tab (fun z => (p.regs.getD z ce).init) (i + 1)))] <| .w 6 [(0,.val (i6 ((i + 1 : Nat) : Int)))] <| .e) (.g 7 2 1 38 1 ax [] <| .l (fT p i) 0 (fun j => .b 27 (.w 10 [(4,.frz 3 1 (af .i64) 0 (List.replicate (p.mems.getD j dz).words.toNat (0 : Int))),(5,.box 38 1 ax [] [List.replicate (p.mems.getD j dz).words.toNat (0 : Int)]),(6,.box 38 1 ax [] (tab (fun z => List.replicate (p.mems.getD z dz).words.toNat (0 : Int)) (j + 1)))] <| .w 11 [(0,.val (i6 ((j + 1 : Nat) : Int)))] <| .e) (.e))))) Try.func35 rfl rfl rfl (by kernel_rfl) ?_
 refine tt ⟨rfl,(by omega),?_⟩
 intro i hinv
 have hi := hinv
 refine tt (cd (fun hc12 => ?_) (fun hc12 => ?_))
 · refine ⟨ix,tt ⟨⟨⟨rfl,oK⟩,oK⟩,⟨(jP (f := fun z => (p.regs.getD z ce).init) (by omega)),tt ⟨w6,tt ⟨(i + 1),rfl,(?_ : (i + 1) ≤ p.regs.length),(?_ : p.regs.length - (i + 1) < p.regs.length - i)⟩⟩⟩⟩⟩
   · omega
   · omega
 · refine tt ⟨rfl,(by omega),?_⟩
   intro j hinv
   have hj := hinv
   refine tt (cd (fun hc27 => ?_) (fun hc27 => ?_))
   · refine ⟨ix,?_⟩
     have hmw : 1 ≤ (p.mems.getD j dz).words∧(p.mems.getD j dz).words ≤ 4 := (hp.mw j (by omega)).2.1
     refine tt ⟨⟨by omega,List.length_replicate,fun x hx => by rw [List.eq_of_mem_replicate hx]; exact ⟨rfl,oK⟩⟩,⟨⟨⟨rfl,oK⟩,oK⟩,⟨(jP (f := fun z => List.replicate (p.mems.getD z dz).words.toNat (0 : Int)) (by omega)),tt ⟨w6,tt ⟨(j + 1),rfl,(?_ : (j + 1) ≤ p.mems.length),(?_ : p.mems.length - (j + 1) < p.mems.length - j)⟩⟩⟩⟩⟩
     · omega
     · omega
   · refine tt ⟨(congrArg _ (?_ : (tab (fun z => (p.regs.getD z ce).init) i) = ((aP p).regs))),(congrArg _ (?_ : (tab (fun z => List.replicate (p.mems.getD z dz).words.toNat (0 : Int)) j) = ((aP p).mems))),oK⟩
     · rw [pi,show i = p.regs.length by omega]
     · rw [pi,show j = p.mems.length by omega]
end Go.Proofs.Ytgmpoenfoacofaa
