/-
  The reference of package network: states, words, single processes.
-/
import Derived.Test.YtnlmlkbaflmgcaaQNeG
import Derived.Test.YtnlmlkbaflmgcaaQNeK
import Derived.Test.YtnlmlkbaflmgcaaQPrD
namespace Go.Proofs.Ytnlmlkbaflmgcaa
open Go.RowKit
set_option linter.unusedVariables false
set_option linter.unusedSimpArgs false
abbrev ss (c : Ci) : List D := [(dL 6 bn af c.procs),(dL 5 bD ax c.chans)]
abbrev ur (s : Ns) : List D := [(dL 2 bg aZ s.procs),(dL 1 ac [] s.chans)]
set_option maxRecDepth 100000
abbrev K3 (c : Ci) : Ct := ⟨51,[(.agg (ss c))],true,(.agg [(dL 2 bg aZ ((dC c).procs)),(dL 1 ac [] ((dC c).chans))])⟩
abbrev lN (c : Ci) : Lp (Nat) := gZ [1,2,3,4] 5 (fun (i : Nat) => ⟨[(1,(.ptr 0 0 0 0)),(2,(.ptr 1 0 0 0)),(3,(.ptr 3 0 0 0)),(4,(i6 (i : Int)))],[(.var 31 (ss c)),(.var 35 [.nils,.nils]),(.arr 54 1 ac [] (List.replicate c.chans.length ([] : List Int))),(.var 35 [(.own 4),(.own 2)]),(.arr 74 2 bg aZ (tab (fun i => bp (bx c i)) i))]⟩) (fun (i : Nat) => i ≤ c.procs.length) (fun (i : Nat) => c.procs.length - i)
theorem BR (c : Ci) (hc : bX c) : CC (K3 c) := by
 have hnl := hc.nl
 have hcl := hc.cl
 refine ap.vc (V := TT 5 ((((0 : Int) ≤ (c.chans.length : Int)∧(c.chans.length : Int) ≤ (c.chans.length : Int)∧(c.chans.length : Int) ≤ 137438953472)∧(List.replicate c.chans.length ([] : List Int)).length = c.chans.length∧∀ x ∈ (List.replicate c.chans.length ([] : List Int)),du [.nils] (ac x))∧TT 4 (GO (lN c) 0 (∀ i,(lN c).inv i → TT 5 (CD ((i : Int) < (c.procs.length : Int)) (TT 5 (IX (i : Int) c.procs.length∧TT 1 (CC (K0 (c.procs.getD i af))∧am [[(LI ((bp (c.procs.getD i af)).regs)),(dL 1 ac [] ((bp (c.procs.getD i af)).mems))]] ([(⟨(bp (c.procs.getD i af)).regs,(bp (c.procs.getD i af)).mems⟩ : Ps)].map bg)∧((tab (fun i => bp (bx c i)) i).length + ([(⟨(bp (c.procs.getD i af)).regs,(bp (c.procs.getD i af)).mems⟩ : Ps)].map bg).length ≤ 137438953472∧(tab (fun i => bp (bx c i)) i).map bg ++ [(⟨(bp (c.procs.getD i af)).regs,(bp (c.procs.getD i af)).mems⟩ : Ps)].map bg = (tab (fun i => bp (bx c i)) (i + 1)).map bg)∧TT 3 (W6 ((i + 1 : Nat) : Int)∧TT 1 (AG (lN c) i (i + 1)))))) (TT 3 ((tab (fun i => bp (bx c i)) i).map bg = ((dC c).procs).map bg∧(List.replicate c.chans.length ([] : List Int)).map ac = ((dC c).chans).map ac∧True))))))) (.w 1 [(3,.box 54 1 ac [] (List.replicate c.chans.length ([] : List Int)))] <| .g 2 3 0 74 2 bg aZ <| .l (lN c) 0 (fun i => .b 14 (.w 5 [(7,(K0 (c.procs.getD i af)).O),(8,.box 74 2 bg aZ [(⟨(bp (c.procs.getD i af)).regs,(bp (c.procs.getD i af)).mems⟩ : Ps)]),(9,.box 74 2 bg aZ (tab (fun i => bp (bx c i)) (i + 1)))] <| .w 4 [(1,.val (i6 ((i + 1 : Nat) : Int)))] <| .e) (.e))) Try.func51 rfl rfl rfl (by kernel_rfl) ?_
 refine tt ⟨⟨by omega,by simp,fun x hx => by rw [List.eq_of_mem_replicate hx]; exact ⟨rfl,oK⟩⟩,tt ⟨rfl,(by omega),?_⟩⟩
 intro i hinv
 have hi := hinv
 refine tt (cd (fun hc14 => ?_) (fun hc14 => ?_))
 · have hpk := hc.pr i (by omega)
   refine tt ⟨ix,tt ⟨(BO (c.procs.getD i af) hpk),⟨⟨⟨rfl,rfl,oK⟩,oK⟩,⟨(og (f := fun i => bp (bx c i)) (by omega)),tt ⟨w6,tt ⟨(i + 1),rfl,(?_ : (i + 1) ≤ c.procs.length),(?_ : c.procs.length - (i + 1) < c.procs.length - i)⟩⟩⟩⟩⟩⟩
   · omega
   · omega
 · refine tt ⟨(congrArg _ (?_ : (tab (fun i => bp (bx c i)) i) = ((dC c).procs))),(congrArg _ (?_ : (List.replicate c.chans.length ([] : List Int)) = ((dC c).chans))),oK⟩
   · rw [show i = c.procs.length by omega]; rfl
   · rfl
abbrev K4 (s : Ns) (n : Int) (l : List Int) : Ct := ⟨55,[(.agg (ur s)),(i6 n),(LI l)],true,(.agg [(dL 2 bg aZ ((gk s n.toNat l).procs)),(dL 1 ac [] ((gk s n.toNat l).chans))])⟩
theorem Gw (s : Ns) (n : Int) (l : List Int) (h1 : 0 ≤ n) (h2 : n < s.chans.length) (h3 : s.chans.length ≤ 1000000) : CC (K4 s n l) := by
 refine ap.vc (V := TT 4 (am [] (([] : List (List Int)).map ac)∧TT 2 ((([] : List (List Int)).length + (s.chans.map ac).length ≤ 137438953472∧([] : List (List Int)).map ac ++ s.chans.map ac = s.chans.map ac)∧TT 7 (IX n s.chans.length∧(n.toNat < s.chans.length∧(s.chans.map ac).set n.toNat ((ac (s.chans.getD n.toNat [])).take 0 ++ [(.sl 1 (aa .i64) 0 l)] ++ (ac (s.chans.getD n.toNat [])).drop (0 + 1)) = (s.chans.set n.toNat l).map ac)∧TT 3 (s.procs.map bg = ((gk s n.toNat l).procs).map bg∧(s.chans.set n.toNat l).map ac = ((gk s n.toNat l).chans).map ac∧True))))) (.w 1 [(2,.app false 54 1 ac [] ([] : List (List Int))),(5,.app false 54 1 ac [] s.chans)] <| .w 2 [(5,.box 54 1 ac [] (s.chans.set n.toNat l))] <| .e) Try.func55 rfl rfl rfl (by kernel_rfl) ?_
 refine tt ⟨oK,tt ⟨⟨by simp only [List.length_map,List.length_cons,List.length_nil,List.length_append,List.length_drop,List.length_take]; first | omega | (simp; first | done | omega),by simp only [List.map_append,List.map_nil,List.append_nil,List.nil_append]⟩,tt ⟨ix,⟨⟨om,by simp only [List.map_set]; rfl⟩,tt ⟨(congrArg _ (?_ : s.procs = ((gk s n.toNat l).procs))),(congrArg _ (?_ : (s.chans.set n.toNat l) = ((gk s n.toNat l).chans))),oK⟩⟩⟩⟩⟩
 all_goals (rfl)
abbrev K5 (c : Ci) (s : Ns) (p : Nat) : Ct := ⟨99,[(.agg (ss c)),(.agg (ur s)),(i6 (p : Int))],true,(.agg [(dL 2 gC cz (cB c s p)),(LB (cL c s p))])⟩
abbrev kS (c : Ci) (s : Ns) (p : Nat) : Lp (Nat) := gZ [2,3,4,6,7,8] 5 (fun (i : Nat) => ⟨[(2,(i6 (p : Int))),(3,(.ptr 0 0 0 0)),(4,(.ptr 1 0 0 0)),(6,(.ptr 2 0 0 0)),(7,(.ptr 3 0 0 0)),(8,(i6 (i : Int)))],[(.var 31 (ss c)),(.var 35 (ur s)),(.var 176 [.nils,.nils]),(.var 176 [(.own 4),.nils]),(.arr 170 2 gC cz (tab (ia c s p) i))]⟩) (fun (i : Nat) => i ≤ (c.procs.getD p af).takes.length) (fun (i : Nat) => (c.procs.getD p af).takes.length - i)
abbrev kT (c : Ci) (s : Ns) (p : Nat) (i : Nat) : Lp (Nat) := gZ [2,3,4,6,7,11] 6 (fun (m : Nat) => ⟨[(2,(i6 (p : Int))),(3,(.ptr 0 0 0 0)),(4,(.ptr 1 0 0 0)),(6,(.ptr 2 0 0 0)),(7,(.ptr 3 0 0 0)),(11,(i6 (m : Int)))],[(.var 31 (ss c)),(.var 35 (ur s)),(.var 176 [.nils,.nils]),(.var 176 [(.own 4),(.own 5)]),(.arr 170 2 gC cz (tab (ia c s p) i)),(.arr 4 1 bI false (tab (fS c s p) m))]⟩) (fun (m : Nat) => m ≤ (c.procs.getD p af).puts.length) (fun (m : Nat) => (c.procs.getD p af).puts.length - m)
theorem EE (c : Ci) (s : Ns) (p : Nat) (hc : bX c) (hs : fB c s) (hp : p < c.procs.length) : CC (K5 c s p) := by
 have hnl := hc.nl
 have hcl := hc.cl
 have hpk : ga (c.procs.getD p af) := hc.pr p hp
 have hl1 := hs.pl
 have hl2 := hs.cl
 have ht1 : (c.procs.getD p af).takes.length ≤ 100 := hpk.tl
 have ht2 : (c.procs.getD p af).puts.length ≤ 100 := hpk.pl
 refine ap.vc (V := TT 7 (GO (kS c s p) 0 (∀ i,(kS c s p).inv i → TT 4 (IX (p : Int) c.procs.length∧TT 4 (CD ((i : Int) < ((((c.procs.getD p af).takes).length : Nat) : Int)) (TT 5 (IX (p : Int) c.procs.length∧TT 3 (IX (i : Int) (((c.procs.getD p af).takes).length)∧TT 2 (IX ((((c.procs.getD p af).takes).getD i bO).chan) s.chans.length∧TT 8 (CD ((((s.chans.getD (((((c.procs.getD p af).takes).getD i bO).chan).toNat) []).length : Nat) : Int) > 0) (TT 1 (IX 0 ((s.chans.getD (((((c.procs.getD p af).takes).getD i bO).chan).toNat) []).length)∧TT 6 (am [[(dB true),(i6 ((s.chans.getD (((((c.procs.getD p af).takes).getD i bO).chan).toNat) []).getD 0 0))]] ([(⟨true,((s.chans.getD (((((c.procs.getD p af).takes).getD i bO).chan).toNat) []).getD 0 0)⟩ : Hd)].map gC)∧((tab (ia c s p) i).length + ([(⟨true,((s.chans.getD (((((c.procs.getD p af).takes).getD i bO).chan).toNat) []).getD 0 0)⟩ : Hd)].map gC).length ≤ 137438953472∧(tab (ia c s p) i).map gC ++ [(⟨true,((s.chans.getD (((((c.procs.getD p af).takes).getD i bO).chan).toNat) []).getD 0 0)⟩ : Hd)].map gC = (tab (ia c s p) (i + 1)).map gC)∧TT 3 (W6 ((i + 1 : Nat) : Int)∧TT 1 (AG (kS c s p) i (i + 1)))))) (TT 3 (am [[(dB false),(i6 0)]] ([(⟨false,0⟩ : Hd)].map gC)∧((tab (ia c s p) i).length + ([(⟨false,0⟩ : Hd)].map gC).length ≤ 137438953472∧(tab (ia c s p) i).map gC ++ [(⟨false,0⟩ : Hd)].map gC = (tab (ia c s p) (i + 1)).map gC)∧TT 3 (W6 ((i + 1 : Nat) : Int)∧TT 1 (AG (kS c s p) i (i + 1)))))))))) (TT 1 (GO (kT c s p i) 0 (∀ m,(kT c s p i).inv m → TT 4 (IX (p : Int) c.procs.length∧TT 4 (CD ((m : Int) < ((((c.procs.getD p af).puts).length : Nat) : Int)) (TT 3 (IX (p : Int) c.procs.length∧TT 3 (IX (m : Int) (((c.procs.getD p af).puts).length)∧TT 3 (CS (((c.chans.getD (((((c.procs.getD p af).puts).getD m bV).chan).toNat) ax).dst) = (-1)) (TT 5 (IX ((((c.procs.getD p af).puts).getD m bV).chan) c.chans.length∧TT 3 ((True∧(decide (((c.chans.getD (((((c.procs.getD p af).puts).getD m bV).chan).toNat) ax).dst) = (-1))) = true)∧TT 1 (am [[(dB true)]] ([true].map bI)∧((tab (fS c s p) m).length + ([true].map bI).length ≤ 137438953472∧(tab (fS c s p) m).map bI ++ [true].map bI = (tab (fS c s p) (m + 1)).map bI)∧TT 3 (W6 ((m + 1 : Nat) : Int)∧TT 1 (AG (kT c s p i) m (m + 1))))))) (TT 5 (IX ((((c.procs.getD p af).puts).getD m bV).chan) c.chans.length∧TT 3 ((True∧(decide (((c.chans.getD (((((c.procs.getD p af).puts).getD m bV).chan).toNat) ax).dst) = (-1))) = false)∧TT 3 (IX ((((c.procs.getD p af).puts).getD m bV).chan) s.chans.length∧TT 5 (IX ((((c.procs.getD p af).puts).getD m bV).chan) c.chans.length∧TT 4 (am [[(dB (decide ((((s.chans.getD (((((c.procs.getD p af).puts).getD m bV).chan).toNat) []).length : Nat) : Int) < ((c.chans.getD (((((c.procs.getD p af).puts).getD m bV).chan).toNat) ax).cap))))]] ([decide ((((s.chans.getD (((((c.procs.getD p af).puts).getD m bV).chan).toNat) []).length : Nat) : Int) < ((c.chans.getD (((((c.procs.getD p af).puts).getD m bV).chan).toNat) ax).cap))].map bI)∧((tab (fS c s p) m).length + ([decide ((((s.chans.getD (((((c.procs.getD p af).puts).getD m bV).chan).toNat) []).length : Nat) : Int) < ((c.chans.getD (((((c.procs.getD p af).puts).getD m bV).chan).toNat) ax).cap))].map bI).length ≤ 137438953472∧(tab (fS c s p) m).map bI ++ [decide ((((s.chans.getD (((((c.procs.getD p af).puts).getD m bV).chan).toNat) []).length : Nat) : Int) < ((c.chans.getD (((((c.procs.getD p af).puts).getD m bV).chan).toNat) ax).cap))].map bI = (tab (fS c s p) (m + 1)).map bI)∧TT 3 (W6 ((m + 1 : Nat) : Int)∧TT 1 (AG (kT c s p i) m (m + 1))))))))))))) (TT 3 ((tab (ia c s p) i).map gC = (cB c s p).map gC∧(tab (fS c s p) m).map bI = (cL c s p).map bI∧True)))))))))))) (.g 2 3 0 170 2 gC cz <| .l (kS c s p) 0 (fun i => .b 22 (.b 42 (.w 9 [(3,.box 170 2 gC cz [(⟨true,((s.chans.getD (((((c.procs.getD p af).takes).getD i bO).chan).toNat) []).getD 0 0)⟩ : Hd)]),(4,.box 170 2 gC cz (tab (ia c s p) (i + 1)))] <| .w 4 [(1,.val (i6 ((i + 1 : Nat) : Int)))] <| .e) (.w 9 [(3,.box 170 2 gC cz [(⟨false,0⟩ : Hd)]),(4,.box 170 2 gC cz (tab (ia c s p) (i + 1)))] <| .w 4 [(1,.val (i6 ((i + 1 : Nat) : Int)))] <| .e)) (.g 10 3 1 4 1 bI false <| .l (kT c s p i) 0 (fun m => .b 61 (.s 14 (((c.chans.getD (((((c.procs.getD p af).puts).getD m bV).chan).toNat) ax).dst) = (-1)) (.w 14 [(9,.val (dB true)),(24,.box 4 1 bI false [true]),(25,.box 4 1 bI false (tab (fS c s p) (m + 1)))] <| .w 12 [(1,.val (i6 ((m + 1 : Nat) : Int)))] <| .e) (.w 14 [(9,.val (dB false)),(24,.box 4 1 bI false [decide ((((s.chans.getD (((((c.procs.getD p af).puts).getD m bV).chan).toNat) []).length : Nat) : Int) < ((c.chans.getD (((((c.procs.getD p af).puts).getD m bV).chan).toNat) ax).cap))]),(25,.box 4 1 bI false (tab (fS c s p) (m + 1)))] <| .w 12 [(1,.val (i6 ((m + 1 : Nat) : Int)))] <| .e)) (.e))))) Try.func99 rfl rfl rfl (by kernel_rfl) ?_
 refine tt ⟨rfl,(by omega),?_⟩
 intro i hinv
 have hi := hinv
 refine tt ⟨ix,tt (cd (fun hc22 => ?_) (fun hc22 => ?_))⟩
 · have htk : 0 ≤ ((c.procs.getD p af).takes.getD i bO).chan∧((c.procs.getD p af).takes.getD i bO).chan < c.chans.length := ⟨(hc.tk p hp i (show i < (c.procs.getD p af).takes.length by omega)).1,(hc.tk p hp i (show i < (c.procs.getD p af).takes.length by omega)).2.1⟩
   refine tt ⟨ix,tt ⟨ix,tt ⟨ix,tt (cd (fun hc42 => ?_) (fun hc42 => ?_))⟩⟩⟩
   · refine tt ⟨ix,tt ⟨⟨⟨rfl,rfl,oK⟩,oK⟩,⟨(aX (by omega) (by first | exact (if_pos (show 0 < (s.chans.getD ((c.procs.getD p af).takes.getD i bO).chan.toNat []).length by omega)).symm | exact (if_neg (show ¬0 < (s.chans.getD ((c.procs.getD p af).takes.getD i bO).chan.toNat []).length by omega)).symm)),tt ⟨w6,tt ⟨(i + 1),rfl,(?_ : (i + 1) ≤ (c.procs.getD p af).takes.length),(?_ : (c.procs.getD p af).takes.length - (i + 1) < (c.procs.getD p af).takes.length - i)⟩⟩⟩⟩⟩
     · omega
     · omega
   · refine tt ⟨⟨⟨rfl,rfl,oK⟩,oK⟩,⟨(aX (by omega) (by first | exact (if_pos (show 0 < (s.chans.getD ((c.procs.getD p af).takes.getD i bO).chan.toNat []).length by omega)).symm | exact (if_neg (show ¬0 < (s.chans.getD ((c.procs.getD p af).takes.getD i bO).chan.toNat []).length by omega)).symm)),tt ⟨w6,tt ⟨(i + 1),rfl,(?_ : (i + 1) ≤ (c.procs.getD p af).takes.length),(?_ : (c.procs.getD p af).takes.length - (i + 1) < (c.procs.getD p af).takes.length - i)⟩⟩⟩⟩
     · omega
     · omega
 · refine tt ⟨rfl,(by omega),?_⟩
   intro m hinv
   have hm := hinv
   refine tt ⟨ix,tt (cd (fun hc61 => ?_) (fun hc61 => ?_))⟩
   · have hpt : 0 ≤ ((c.procs.getD p af).puts.getD m bV).chan∧((c.procs.getD p af).puts.getD m bV).chan < c.chans.length := ⟨(hc.pt p hp m (show m < (c.procs.getD p af).puts.length by omega)).1,(hc.pt p hp m (show m < (c.procs.getD p af).puts.length by omega)).2.1⟩
     refine tt ⟨ix,tt ⟨ix,tt ⟨fun hs0 => ?_,fun hs0 => ?_⟩⟩⟩
     · refine tt ⟨ix,tt ⟨(vT hs0),tt ⟨⟨⟨rfl,oK⟩,oK⟩,⟨(aX (by omega) (by first | exact (Dy hs0).symm | exact (vz hs0).symm | exact (vz hs1).symm)),tt ⟨w6,tt ⟨(m + 1),rfl,(?_ : (m + 1) ≤ (c.procs.getD p af).puts.length),(?_ : (c.procs.getD p af).puts.length - (m + 1) < (c.procs.getD p af).puts.length - m)⟩⟩⟩⟩⟩⟩
       · omega
       · omega
     · refine tt ⟨ix,tt ⟨(vF hs0),tt ⟨ix,tt ⟨ix,tt ⟨⟨⟨rfl,oK⟩,oK⟩,⟨(aX (by omega) (by first | exact (Dy hs0).symm | exact (vz hs0).symm | exact (vz hs1).symm)),tt ⟨w6,tt ⟨(m + 1),rfl,(?_ : (m + 1) ≤ (c.procs.getD p af).puts.length),(?_ : (c.procs.getD p af).puts.length - (m + 1) < (c.procs.getD p af).puts.length - m)⟩⟩⟩⟩⟩⟩⟩⟩
       · omega
       · omega
   · refine tt ⟨(congrArg _ (?_ : (tab (ia c s p) i) = (cB c s p))),(congrArg _ (?_ : (tab (fS c s p) m) = (cL c s p))),oK⟩
     · rw [show i = (c.procs.getD p af).takes.length by omega]; rfl
     · rw [show m = (c.procs.getD p af).puts.length by omega]; rfl
abbrev JQ (c : Ci) (s : Ns) (p : Nat) : Ct := ⟨92,[(.agg (ss c)),(.agg (ur s)),(i6 (p : Int))],true,(.agg [(dB ((ay c s p).fires)),(LI (((ay c s p).s).regs)),(dL 1 ac [] (((ay c s p).s).mems)),(LB ((ay c s p).pops)),(dL 2 gC cz ((ay c s p).puts))])⟩
theorem ut (c : Ci) (s : Ns) (p : Nat) (hc : bX c) (hs : fB c s) (hp : p < c.procs.length) : CC (JQ c s p) := by
 have hnl := hc.nl
 have hcl := hc.cl
 have hpk : ga (c.procs.getD p af) := hc.pr p hp
 have hl1 := hs.pl
 have hl2 := hs.cl
 have ht1 : (c.procs.getD p af).takes.length ≤ 100 := hpk.tl
 have ht2 : (c.procs.getD p af).puts.length ≤ 100 := hpk.pl
 refine ap.vc (V := TT 6 (IX (p : Int) c.procs.length∧TT 4 (IX (p : Int) s.procs.length∧TT 4 (CC (K5 c s p)∧CC (K1 (c.procs.getD p af) (s.procs.getD p aZ) (cB c s p) (cL c s p))∧TT 2 (((bk (c.procs.getD p af) (s.procs.getD p aZ) (cB c s p) (cL c s p)).fires) = ((ay c s p).fires)∧(((bk (c.procs.getD p af) (s.procs.getD p aZ) (cB c s p) (cL c s p)).s).regs).map (aa .i64) = (((ay c s p).s).regs).map (aa .i64)∧(((bk (c.procs.getD p af) (s.procs.getD p aZ) (cB c s p) (cL c s p)).s).mems).map ac = (((ay c s p).s).mems).map ac∧((bk (c.procs.getD p af) (s.procs.getD p aZ) (cB c s p) (cL c s p)).pops).map bI = ((ay c s p).pops).map bI∧((bk (c.procs.getD p af) (s.procs.getD p aZ) (cB c s p) (cL c s p)).puts).map gC = ((ay c s p).puts).map gC∧True))))) (.w 1 [(13,(K5 c s p).O),(14,(K1 (c.procs.getD p af) (s.procs.getD p aZ) (cB c s p) (cL c s p)).O)] <| .e) Try.func92 rfl rfl rfl (by kernel_rfl) ?_
 refine tt ⟨ix,tt ⟨ix,tt ⟨(EE c s p hc hs hp),⟨(BP (c.procs.getD p af) (s.procs.getD p aZ) (cB c s p) (cL c s p) hpk (hs.pv p hp) (rP hc hs hp) (by rw [cL,aH])),tt ⟨?_,(congrArg _ (?_ : (((bk (c.procs.getD p af) (s.procs.getD p aZ) (cB c s p) (cL c s p)).s).regs) = (((ay c s p).s).regs))),(congrArg _ (?_ : (((bk (c.procs.getD p af) (s.procs.getD p aZ) (cB c s p) (cL c s p)).s).mems) = (((ay c s p).s).mems))),(congrArg _ (?_ : ((bk (c.procs.getD p af) (s.procs.getD p aZ) (cB c s p) (cL c s p)).pops) = ((ay c s p).pops))),(congrArg _ (?_ : ((bk (c.procs.getD p af) (s.procs.getD p aZ) (cB c s p) (cL c s p)).puts) = ((ay c s p).puts))),oK⟩⟩⟩⟩⟩
 all_goals (rfl)
abbrev K6 (c : Ci) (s : Ns) (p : Int) : Ct := ⟨78,[(.agg (ss c)),(.agg (ur s)),(i6 p)],false,(dB (ib c s p))⟩
theorem Gx (c : Ci) (s : Ns) (p : Int) (hc : bX c) (hs : fB c s) : CC (K6 c s p) := by
 have hnl := hc.nl
 have hcl := hc.cl
 refine ap.vc (V := TT 3 (CS (p ≥ 0) (CS (p < (c.procs.length : Int)) (TT 2 ((True∧(decide (p ≥ 0)) = true)∧TT 6 ((True∧(decide (p < (c.procs.length : Int))) = true)∧TT 2 ((True∧p = (p.toNat : Int))∧CC (JQ c s p.toNat)∧TT 4 (((ay c s p.toNat).fires) = (ib c s p)∧True))))) (TT 2 ((True∧(decide (p ≥ 0)) = true)∧TT 6 ((True∧(decide (p < (c.procs.length : Int))) = false)∧TT 8 (false = (ib c s p)∧True))))) (TT 2 ((True∧(decide (p ≥ 0)) = false)∧TT 15 (false = (ib c s p)∧True))))) (.s 1 (p ≥ 0) (.s 1 (p < (c.procs.length : Int)) (.w 1 [(2,.val (dB true)),(9,.val (dB true)),(12,.val (i6 (p.toNat : Int))),(13,(JQ c s p.toNat).O)] <| .e) (.w 1 [(2,.val (dB true)),(9,.val (dB false))] <| .e)) (.w 1 [(2,.val (dB false))] <| .e)) Try.func78 rfl rfl rfl (by kernel_rfl) ?_
 refine tt ⟨fun hs0 => ?_,fun hs0 => ?_⟩
 · refine ⟨fun hs1 => ?_,fun hs1 => ?_⟩
   · refine tt ⟨(vT hs0),tt ⟨(vT hs1),tt ⟨⟨oK,(by omega)⟩,⟨(ut c s p.toNat hc hs (by omega)),tt ⟨?_,oK⟩⟩⟩⟩⟩
     first | exact (rX (by omega)).symm | exact (rY (by omega)).symm | exact (qB (by omega) (by omega)).symm
   · refine tt ⟨(vT hs0),tt ⟨(vF hs1),tt ⟨?_,oK⟩⟩⟩
     first | exact (rX (by omega)).symm | exact (rY (by omega)).symm | exact (qB (by omega) (by omega)).symm
 · refine tt ⟨(vF hs0),tt ⟨?_,oK⟩⟩
   first | exact (rX (by omega)).symm | exact (rY (by omega)).symm | exact (qB (by omega) (by omega)).symm
abbrev K7 (a b : Ns) : Ct := ⟨22,[(.agg [(dL 2 bg aZ a.procs),(dL 1 ac [] a.chans)]),(.agg [(dL 2 bg aZ b.procs),(dL 1 ac [] b.chans)])],false,(dB (ck a b))⟩
abbrev lO (a : Ns) (b : Ns) : Lp (Nat) := gZ [2,3,5] 2 (fun (i : Nat) => ⟨[(2,(.ptr 0 0 0 0)),(3,(.ptr 1 0 0 0)),(5,(i6 (i : Int)))],[(.var 35 [(dL 2 bg aZ a.procs),(dL 1 ac [] a.chans)]),(.var 35 [(dL 2 bg aZ b.procs),(dL 1 ac [] b.chans)])]⟩) (fun (i : Nat) => i ≤ a.procs.length∧∀ z,z < i → dh (a.procs.getD z aZ) (b.procs.getD z aZ) = true) (fun (i : Nat) => a.procs.length - i)
abbrev lP (a : Ns) (b : Ns) : Lp (Nat) := gZ [2,3,6] 2 (fun (n : Nat) => ⟨[(2,(.ptr 0 0 0 0)),(3,(.ptr 1 0 0 0)),(6,(i6 (n : Int)))],[(.var 35 [(dL 2 bg aZ a.procs),(dL 1 ac [] a.chans)]),(.var 35 [(dL 2 bg aZ b.procs),(dL 1 ac [] b.chans)])]⟩) (fun (n : Nat) => n ≤ a.chans.length∧∀ z,z < n → a.chans.getD z [] = b.chans.getD z []) (fun (n : Nat) => a.chans.length - n)
theorem BS (a b : Ns) (hz : GU a) : CC (K7 a b) := by
 obtain ⟨hap,hac,hcb,hpa,hpb,hpc⟩ := hz
 refine ap.vc (V := TT 3 (CS ((a.procs.length : Int) = (b.procs.length : Int)) (TT 7 ((True∧(!decide ((a.procs.length : Int) = (b.procs.length : Int))) = false)∧TT 8 (CN ((a.chans.length : Int) = (b.chans.length : Int)) (TT 2 (false = (ck a b)∧True)) (TT 1 (GO (lO a b) 0 (∀ i,(lO a b).inv i → TT 5 (CD ((i : Int) < (a.procs.length : Int)) (TT 3 (IX (i : Int) a.procs.length∧TT 4 (IX (i : Int) b.procs.length∧TT 1 (CC (K2 (a.procs.getD i aZ) (b.procs.getD i aZ))∧TT 1 (CB (!(dh (a.procs.getD i aZ) (b.procs.getD i aZ))) (TT 2 (false = (ck a b)∧True)) (TT 1 (W6 ((i + 1 : Nat) : Int)∧TT 1 (AG (lO a b) i (i + 1))))))))) (TT 1 (GO (lP a b) 0 (∀ n,(lP a b).inv n → TT 5 (CD ((n : Int) < (a.chans.length : Int)) (TT 3 (IX (n : Int) a.chans.length∧TT 4 (IX (n : Int) b.chans.length∧TT 1 (CC (ED (a.chans.getD n []) (b.chans.getD n []))∧TT 1 (CN ((a.chans.getD n []) = (b.chans.getD n [])) (TT 2 (false = (ck a b)∧True)) (TT 1 (W6 ((n + 1 : Nat) : Int)∧TT 1 (AG (lP a b) n (n + 1))))))))) (TT 2 (true = (ck a b)∧True))))))))))))) (TT 7 ((True∧(!decide ((a.procs.length : Int) = (b.procs.length : Int))) = true)∧TT 10 (false = (ck a b)∧True))))) (.s 1 ((a.procs.length : Int) = (b.procs.length : Int)) (.w 1 [(7,.val (dB false))] <| .b 22 (.e) (.l (lO a b) 0 (fun i => .b 27 (.w 6 [(10,(K2 (a.procs.getD i aZ) (b.procs.getD i aZ)).O)] <| .b 41 (.e) (.w 5 [(1,.val (i6 ((i + 1 : Nat) : Int)))] <| .e)) (.l (lP a b) 0 (fun n => .b 46 (.w 11 [(10,(ED (a.chans.getD n []) (b.chans.getD n [])).O)] <| .b 60 (.e) (.w 10 [(1,.val (i6 ((n + 1 : Nat) : Int)))] <| .e)) (.e)))))) (.w 1 [(7,.val (dB true))] <| .e)) Try.func22 rfl rfl rfl (by kernel_rfl) ?_
 refine tt ⟨fun hs0 => ?_,fun hs0 => ?_⟩
 · refine tt ⟨(nF hs0),tt (cn (fun hc22 => ?_) (fun hc22 => ?_))⟩
   · refine tt ⟨?_,oK⟩
     first | exact (im (by omega)).symm | exact (io (by omega)).symm | exact (ip (i := i) (by omega) (by simpa using hc41)).symm | exact (iq (n := n) (by simpa using hc60)).symm | exact (ir (by omega) (by omega) (fun z hz => h3 z (by omega)) (fun z hz => h4 z (by omega))).symm
   · refine tt ⟨rfl,⟨by omega,fun z hz => by omega⟩,?_⟩
     intro i hinv
     obtain ⟨hi,h3⟩ := hinv
     refine tt (cd (fun hc27 => ?_) (fun hc27 => ?_))
     · refine tt ⟨ix,tt ⟨ix,tt ⟨(BQ (a.procs.getD i aZ) (b.procs.getD i aZ) (by have := hpa i; omega) (by have := hpb i; omega) (fun j => by have := hpc i j; omega)),tt ⟨fun hc41 => ?_,fun hc41 => ?_⟩⟩⟩⟩
       · refine tt ⟨?_,oK⟩
         first | exact (im (by omega)).symm | exact (io (by omega)).symm | exact (ip (i := i) (by omega) (by simpa using hc41)).symm | exact (iq (n := n) (by simpa using hc60)).symm | exact (ir (by omega) (by omega) (fun z hz => h3 z (by omega)) (fun z hz => h4 z (by omega))).symm
       · refine tt ⟨w6,tt ⟨(i + 1),rfl,?_,(?_ : a.procs.length - (i + 1) < a.procs.length - i)⟩⟩
         · exact ⟨by omega,bf h3 (by simpa using hc41)⟩
         · omega
     · refine tt ⟨rfl,⟨by omega,fun z hz => by omega⟩,?_⟩
       intro n hinv
       obtain ⟨hn,h4⟩ := hinv
       refine tt (cd (fun hc46 => ?_) (fun hc46 => ?_))
       · refine tt ⟨ix,tt ⟨ix,tt ⟨(oH (a.chans.getD n []) (b.chans.getD n []) (by have := hcb n; omega)),tt (cn (fun hc60 => ?_) (fun hc60 => ?_))⟩⟩⟩
         · refine tt ⟨?_,oK⟩
           first | exact (im (by omega)).symm | exact (io (by omega)).symm | exact (ip (i := i) (by omega) (by simpa using hc41)).symm | exact (iq (n := n) (by simpa using hc60)).symm | exact (ir (by omega) (by omega) (fun z hz => h3 z (by omega)) (fun z hz => h4 z (by omega))).symm
         · refine tt ⟨w6,tt ⟨(n + 1),rfl,?_,(?_ : a.chans.length - (n + 1) < a.chans.length - n)⟩⟩
           · exact ⟨by omega,bf h4 (by simpa using hc60)⟩
           · omega
       · refine tt ⟨?_,oK⟩
         first | exact (im (by omega)).symm | exact (io (by omega)).symm | exact (ip (i := i) (by omega) (by simpa using hc41)).symm | exact (iq (n := n) (by simpa using hc60)).symm | exact (ir (by omega) (by omega) (fun z hz => h3 z (by omega)) (fun z hz => h4 z (by omega))).symm
 · refine tt ⟨(nT hs0),tt ⟨?_,oK⟩⟩
   first | exact (im (by omega)).symm | exact (io (by omega)).symm | exact (ip (i := i) (by omega) (by simpa using hc41)).symm | exact (iq (n := n) (by simpa using hc60)).symm | exact (ir (by omega) (by omega) (fun z hz => h3 z (by omega)) (fun z hz => h4 z (by omega))).symm
end Go.Proofs.Ytnlmlkbaflmgcaa
