/-
  The reference of package migrate: circuits with one rule.
-/
import Derived.Test.YtnlmlkbaflmgcaaQMjO
import Derived.Test.YtnlmlkbaflmgcaaQMjU
namespace Go.Proofs.Ytnlmlkbaflmgcaa
open Go.RowKit
set_option linter.unusedVariables false
set_option linter.unusedSimpArgs false
abbrev Bf (c : Ci) : List D := [(dL 6 bm ac c.procs),(dL 5 bI aB c.chans)]
set_option maxRecDepth 100000
abbrev LK (c : Ci) (r : aj) : Ct := ⟨18,[(.agg (Bf c)),(.agg [(i6 r.kind),(dS r.src),(i6 r.n)])],true,(.agg [(dL 6 bm ac ((aD c r).procs)),(dL 5 bI aB ((aD c r).chans))])⟩
abbrev kh (c : Ci) (r : aj) : Lp (Nat) := gF [2,3,4,5,6] 5 (fun (i : Nat) => ⟨[(2,(.ptr 0 0 0 0)),(3,(.ptr 1 0 0 0)),(4,(.ptr 2 0 0 0)),(5,(.ptr 3 0 0 0)),(6,(i6 (i : Int)))],[(.var 31 (Bf c)),(.var 51 [(i6 r.kind),(dS r.src),(i6 r.n)]),(.var 31 [.nils,.nils]),(.var 31 [(.own 4),(dL 5 bI aB c.chans)]),(.arr 80 6 bm ac (tab (fun zi => gb r (c.procs.getD zi ac)) i))]⟩) (fun (i : Nat) => i ≤ c.procs.length) (fun (i : Nat) => c.procs.length - i)
abbrev kk (c : Ci) (r : aj) (i : Nat) : Lp (Nat × List Rg) := px [2,3,4,5,6,7,8] 8 (fun (j : Nat) (gs : List Rg) => ⟨[(2,(.ptr 0 0 0 0)),(3,(.ptr 1 0 0 0)),(4,(.ptr 2 0 0 0)),(5,(.ptr 3 0 0 0)),(6,(i6 (i : Int))),(7,(.ptr 5 0 0 0)),(8,(i6 (j : Int)))],[(.var 31 (Bf c)),(.var 51 [(i6 r.kind),(dS r.src),(i6 r.n)]),(.var 31 [.nils,.nils]),(.var 31 [(.own 4),(dL 5 bI aB c.chans)]),(.arr 80 6 bm ac (tab (fun zi => gb r (c.procs.getD zi ac)) i)),(.var 80 [(dS ((c.procs.getD i ac).name)),(dS ((c.procs.getD i ac).clock)),(.own 6),(.own 7),(dL 9 dJ bO ((c.procs.getD i ac).takes)),(dL 16 dz bU ((c.procs.getD i ac).puts))]),(.arr 66 13 bA aK gs),(.arr 70 27 bV ax ((c.procs.getD i ac).mems))]⟩) (fun (j : Nat) (gs : List Rg) => j ≤ (c.procs.getD i ac).regs.length∧gs = i5 (fun zj => v9 r ((c.procs.getD i ac).regs.getD zj aK)) (c.procs.getD i ac).regs j) (fun (j : Nat) (gs : List Rg) => (c.procs.getD i ac).regs.length - j)
abbrev km (c : Ci) (r : aj) (i : Nat) (gs : List Rg) : Lp (Nat × List Mm) := px [2,3,4,5,6,7,9] 8 (fun (k : Nat) (ms : List Mm) => ⟨[(2,(.ptr 0 0 0 0)),(3,(.ptr 1 0 0 0)),(4,(.ptr 2 0 0 0)),(5,(.ptr 3 0 0 0)),(6,(i6 (i : Int))),(7,(.ptr 5 0 0 0)),(9,(i6 (k : Int)))],[(.var 31 (Bf c)),(.var 51 [(i6 r.kind),(dS r.src),(i6 r.n)]),(.var 31 [.nils,.nils]),(.var 31 [(.own 4),(dL 5 bI aB c.chans)]),(.arr 80 6 bm ac (tab (fun zi => gb r (c.procs.getD zi ac)) i)),(.var 80 [(dS ((c.procs.getD i ac).name)),(dS ((c.procs.getD i ac).clock)),(.own 6),(.own 7),(dL 9 dJ bO ((c.procs.getD i ac).takes)),(dL 16 dz bU ((c.procs.getD i ac).puts))]),(.arr 66 13 bA aK gs),(.arr 70 27 bV ax ms)]⟩) (fun (k : Nat) (ms : List Mm) => k ≤ (c.procs.getD i ac).mems.length∧ms = i5 (fun zj => wa r ((c.procs.getD i ac).mems.getD zj ax)) (c.procs.getD i ac).mems k) (fun (k : Nat) (ms : List Mm) => (c.procs.getD i ac).mems.length - k)
theorem G1 (c : Ci) (r : aj) (h1 : c.procs.length ≤ 1000000) (hz : ∀ i,i < c.procs.length → D4 (c.procs.getD i ac)) : CC (LK c r) := by
 refine aq.vc (V := TT 9 (GO (kh c r) 0 (∀ i,(kh c r).inv i → TT 5 (CD ((i : Int) < (c.procs.length : Int)) (TT 3 (IX (i : Int) c.procs.length∧TT 3 (am [] (([] : List Rg).map bA)∧TT 2 ((([] : List Rg).length + (((c.procs.getD i ac).regs).map bA).length ≤ 137438953472∧([] : List Rg).map bA ++ ((c.procs.getD i ac).regs).map bA = ((c.procs.getD i ac).regs).map bA)∧TT 2 (am [] (([] : List Mm).map bV)∧TT 2 ((([] : List Mm).length + (((c.procs.getD i ac).mems).map bV).length ≤ 137438953472∧([] : List Mm).map bV ++ ((c.procs.getD i ac).mems).map bV = ((c.procs.getD i ac).mems).map bV)∧TT 3 (GO (kk c r i) (0,(c.procs.getD i ac).regs) (∀ j gs,(kk c r i).inv (j,gs) → TT 5 (CD ((j : Int) < (gs.length : Int)) (TT 4 (IX (j : Int) gs.length∧TT 1 ((j < gs.length∧(gs.map bA).set j ((bA (gs.getD j aK)).take 10 ++ [(.int .i64 r.kind),(.str r.src),(.int .i64 r.n)] ++ (bA (gs.getD j aK)).drop (10 + 3)) = (gs.set j (v9 r ((c.procs.getD i ac).regs.getD j aK))).map bA)∧TT 1 (W6 ((j + 1 : Nat) : Int)∧TT 1 (AG (kk c r i) (j,gs) (j + 1,gs.set j (v9 r ((c.procs.getD i ac).regs.getD j aK)))))))) (TT 1 (GO (km c r i gs) (0,(c.procs.getD i ac).mems) (∀ k ms,(km c r i gs).inv (k,ms) → TT 5 (CD ((k : Int) < (ms.length : Int)) (TT 4 (IX (k : Int) ms.length∧TT 1 ((k < ms.length∧(ms.map bV).set k ((bV (ms.getD k ax)).take 24 ++ [(.int .i64 r.kind),(.str r.src),(.int .i64 r.n)] ++ (bV (ms.getD k ax)).drop (24 + 3)) = (ms.set k (wa r ((c.procs.getD i ac).mems.getD k ax))).map bV)∧TT 1 (W6 ((k + 1 : Nat) : Int)∧TT 1 (AG (km c r i gs) (k,ms) (k + 1,ms.set k (wa r ((c.procs.getD i ac).mems.getD k ax)))))))) (TT 3 (am [[(dS ((c.procs.getD i ac).name)),(dS ((c.procs.getD i ac).clock)),(dL 13 bA aK gs),(dL 27 bV ax ms),(dL 9 dJ bO ((c.procs.getD i ac).takes)),(dL 16 dz bU ((c.procs.getD i ac).puts))]] ([(⟨(c.procs.getD i ac).name,(c.procs.getD i ac).clock,gs,ms,(c.procs.getD i ac).takes,(c.procs.getD i ac).puts⟩ : Pr)].map bm)∧((tab (fun zi => gb r (c.procs.getD zi ac)) i).length + ([(⟨(c.procs.getD i ac).name,(c.procs.getD i ac).clock,gs,ms,(c.procs.getD i ac).takes,(c.procs.getD i ac).puts⟩ : Pr)].map bm).length ≤ 137438953472∧(tab (fun zi => gb r (c.procs.getD zi ac)) i).map bm ++ [(⟨(c.procs.getD i ac).name,(c.procs.getD i ac).clock,gs,ms,(c.procs.getD i ac).takes,(c.procs.getD i ac).puts⟩ : Pr)].map bm = (tab (fun zi => gb r (c.procs.getD zi ac)) (i + 1)).map bm)∧TT 3 (W6 ((i + 1 : Nat) : Int)∧TT 1 (AG (kh c r) i (i + 1)))))))))))))))))) (TT 3 ((tab (fun zi => gb r (c.procs.getD zi ac)) i).map bm = ((aD c r).procs).map bm∧c.chans.map bI = ((aD c r).chans).map bI∧True)))))) (.g 2 3 0 80 6 bm ac <| .l (kh c r) 0 (fun i => .b 17 (.w 6 [(0,.box 66 13 bA aK ([] : List Rg)),(3,.box 66 13 bA aK ((c.procs.getD i ac).regs))] <| .w 7 [(0,.box 70 27 bV ax ([] : List Mm)),(3,.box 70 27 bV ax ((c.procs.getD i ac).mems))] <| .l (kk c r i) (0,(c.procs.getD i ac).regs) (fun ⟨j,gs⟩ => .b 39 (.w 11 [(6,.box 66 13 bA aK (gs.set j (v9 r ((c.procs.getD i ac).regs.getD j aK))))] <| .w 10 [(1,.val (i6 ((j + 1 : Nat) : Int)))] <| .e) (.l (km c r i gs) (0,(c.procs.getD i ac).mems) (fun ⟨k,ms⟩ => .b 52 (.w 15 [(6,.box 70 27 bV ax (ms.set k (wa r ((c.procs.getD i ac).mems.getD k ax))))] <| .w 14 [(1,.val (i6 ((k + 1 : Nat) : Int)))] <| .e) (.f 16 6 <| .f 16 7 <| .w 16 [(3,.box 80 6 bm ac [(⟨(c.procs.getD i ac).name,(c.procs.getD i ac).clock,gs,ms,(c.procs.getD i ac).takes,(c.procs.getD i ac).puts⟩ : Pr)]),(4,.box 80 6 bm ac (tab (fun zi => gb r (c.procs.getD zi ac)) (i + 1)))] <| .w 4 [(1,.val (i6 ((i + 1 : Nat) : Int)))] <| .e))))) (.e))) Try.func18 rfl rfl rfl (by kernel_rfl) ?_
 refine tt ⟨rfl,(by omega),?_⟩
 intro i hinv
 have hi := hinv
 refine tt (cd (fun hc17 => ?_) (fun hc17 => ?_))
 · refine tt ⟨ix,tt ?_⟩
   have hpl := hz i (by omega)
   have hpl1 := hpl.1
   have hpl2 := hpl.2
   refine ⟨oK,tt ⟨⟨by simp only [List.length_map,List.length_nil]; omega,by rfl⟩,tt ⟨oK,tt ⟨⟨by simp only [List.length_map,List.length_nil]; omega,by rfl⟩,tt ⟨rfl,⟨by omega,rfl⟩,?_⟩⟩⟩⟩⟩
   intro j gs hinv
   obtain ⟨hj,hgs⟩ := hinv
   have hlgs : gs.length = (c.procs.getD i ac).regs.length := by rw [hgs,dC (by omega)]
   refine tt (cd (fun hc39 => ?_) (fun hc39 => ?_))
   · refine tt ⟨ix,tt ⟨⟨by omega,by rw [show gs.getD j aK = (c.procs.getD i ac).regs.getD j aK from by rw [hgs,si,if_neg (Nat.lt_irrefl _)]]; simp only [List.map_set]; rfl⟩,tt ⟨w6,tt ⟨(j + 1,gs.set j (v9 r ((c.procs.getD i ac).regs.getD j aK))),rfl,?_,(?_ : (c.procs.getD i ac).regs.length - (j + 1) < (c.procs.getD i ac).regs.length - j)⟩⟩⟩⟩
     · exact ⟨by omega,by rw [hgs]; exact ci (by omega) rfl⟩
     · omega
   · refine tt ⟨rfl,⟨by omega,rfl⟩,?_⟩
     intro k ms hinv
     obtain ⟨hk,hms⟩ := hinv
     have hlms : ms.length = (c.procs.getD i ac).mems.length := by rw [hms,dC (by omega)]
     refine tt (cd (fun hc52 => ?_) (fun hc52 => ?_))
     · refine tt ⟨ix,tt ⟨⟨by omega,by rw [show ms.getD k ax = (c.procs.getD i ac).mems.getD k ax from by rw [hms,si,if_neg (Nat.lt_irrefl _)]]; simp only [List.map_set]; rfl⟩,tt ⟨w6,tt ⟨(k + 1,ms.set k (wa r ((c.procs.getD i ac).mems.getD k ax))),rfl,?_,(?_ : (c.procs.getD i ac).mems.length - (k + 1) < (c.procs.getD i ac).mems.length - k)⟩⟩⟩⟩
       · exact ⟨by omega,by rw [hms]; exact ci (by omega) rfl⟩
       · omega
     · refine tt ⟨⟨⟨rfl,rfl,rfl,rfl,rfl,rfl,oK⟩,oK⟩,⟨(aV (by omega) (by rw [hgs,hms,show j = (c.procs.getD i ac).regs.length by omega,show k = (c.procs.getD i ac).mems.length by omega,cM (Nat.le_refl _),cM (Nat.le_refl _),Be (v9 r),Be (wa r)]; rfl)),tt ⟨w6,tt ⟨(i + 1),rfl,(?_ : (i + 1) ≤ c.procs.length),(?_ : c.procs.length - (i + 1) < c.procs.length - i)⟩⟩⟩⟩
       · omega
       · omega
 · refine tt ⟨(congrArg _ (?_ : (tab (fun zi => gb r (c.procs.getD zi ac)) i) = ((aD c r).procs))),(congrArg _ (?_ : c.chans = ((aD c r).chans))),oK⟩
   · rw [show i = c.procs.length by omega]; rfl
   · rfl
end Go.Proofs.Ytnlmlkbaflmgcaa
