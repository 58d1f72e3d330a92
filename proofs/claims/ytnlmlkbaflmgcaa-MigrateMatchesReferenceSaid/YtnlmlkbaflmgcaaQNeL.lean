/-
  The reference of package network: states, words, single processes.
-/
import Derived.Test.YtnlmlkbaflmgcaaQPrD
namespace Go.Proofs.Ytnlmlkbaflmgcaa
open Go.RowKit
set_option linter.unusedVariables false
set_option linter.unusedSimpArgs false
abbrev sI (c : Ci) : List D := [(dL 6 bm ac c.procs),(dL 5 bH ax c.chans)]
abbrev uz (s : Ns) : List D := [(dL 2 a9 aX s.procs),(dL 1 ab [] s.chans)]
set_option maxRecDepth 100000
abbrev Lz (c : Ci) : Ct := ⟨51,[(.agg (sI c))],true,(.agg [(dL 2 a9 aX ((dQ c).procs)),(dL 1 ab [] ((dQ c).chans))])⟩
abbrev mc (c : Ci) : Lp (Nat) := fB [1,2,3,4] 5 (fun (i : Nat) => ⟨[(1,(.ptr 0 0 0 0)),(2,(.ptr 1 0 0 0)),(3,(.ptr 3 0 0 0)),(4,(i6 (i : Int)))],[(.var 31 (sI c)),(.var 35 [.nils,.nils]),(.arr 54 1 ab [] (List.replicate c.chans.length ([] : List Int))),(.var 35 [(.own 4),(.own 2)]),(.arr 74 2 a9 aX (tab (fun i => bo (bD c i)) i))]⟩) (fun (i : Nat) => i ≤ c.procs.length) (fun (i : Nat) => c.procs.length - i)
theorem B3 (c : Ci) (hc : b5 c) : CC (Lz c) := by
 have hnl := hc.nl
 have hcl := hc.cl
 refine ap.vc (V := TT 5 ((((0 : Int) ≤ (c.chans.length : Int)∧(c.chans.length : Int) ≤ (c.chans.length : Int)∧(c.chans.length : Int) ≤ 137438953472)∧(List.replicate c.chans.length ([] : List Int)).length = c.chans.length∧∀ x ∈ (List.replicate c.chans.length ([] : List Int)),dy [.nils] (ab x))∧TT 4 (GO (mc c) 0 (∀ i,(mc c).inv i → TT 5 (CD ((i : Int) < (c.procs.length : Int)) (TT 5 (IX (i : Int) c.procs.length∧TT 1 (CC (Lw (c.procs.getD i ac))∧ai [[(LI ((bo (c.procs.getD i ac)).regs)),(dL 1 ab [] ((bo (c.procs.getD i ac)).mems))]] ([(⟨(bo (c.procs.getD i ac)).regs,(bo (c.procs.getD i ac)).mems⟩ : Ps)].map a9)∧((tab (fun i => bo (bD c i)) i).length + ([(⟨(bo (c.procs.getD i ac)).regs,(bo (c.procs.getD i ac)).mems⟩ : Ps)].map a9).length ≤ 137438953472∧(tab (fun i => bo (bD c i)) i).map a9 ++ [(⟨(bo (c.procs.getD i ac)).regs,(bo (c.procs.getD i ac)).mems⟩ : Ps)].map a9 = (tab (fun i => bo (bD c i)) (i + 1)).map a9)∧TT 3 (W6 ((i + 1 : Nat) : Int)∧TT 1 (AG (mc c) i (i + 1)))))) (TT 3 ((tab (fun i => bo (bD c i)) i).map a9 = ((dQ c).procs).map a9∧(List.replicate c.chans.length ([] : List Int)).map ab = ((dQ c).chans).map ab∧True))))))) (.w 1 [(3,.box 54 1 ab [] (List.replicate c.chans.length ([] : List Int)))] <| .g 2 3 0 74 2 a9 aX <| .l (mc c) 0 (fun i => .b 14 (.w 5 [(7,(Lw (c.procs.getD i ac)).O),(8,.box 74 2 a9 aX [(⟨(bo (c.procs.getD i ac)).regs,(bo (c.procs.getD i ac)).mems⟩ : Ps)]),(9,.box 74 2 a9 aX (tab (fun i => bo (bD c i)) (i + 1)))] <| .w 4 [(1,.val (i6 ((i + 1 : Nat) : Int)))] <| .e) (.e))) Try.func51 rfl rfl rfl (by kernel_rfl) ?_
 refine tt ⟨⟨by omega,by simp,fun x hx => by rw [List.eq_of_mem_replicate hx]; exact ⟨rfl,oK⟩⟩,tt ⟨rfl,(by omega),?_⟩⟩
 intro i hinv
 have hi := hinv
 refine tt (cd (fun hc14 => ?_) (fun hc14 => ?_))
 · have hpk := hc.pr i (by omega)
   refine tt ⟨ix,tt ⟨(BZ (c.procs.getD i ac) hpk),⟨⟨⟨rfl,rfl,oK⟩,oK⟩,⟨(oz (f := fun i => bo (bD c i)) (by omega)),tt ⟨w6,tt ⟨(i + 1),rfl,(?_ : (i + 1) ≤ c.procs.length),(?_ : c.procs.length - (i + 1) < c.procs.length - i)⟩⟩⟩⟩⟩⟩
   · omega
   · omega
 · refine tt ⟨(congrArg _ (?_ : (tab (fun i => bo (bD c i)) i) = ((dQ c).procs))),(congrArg _ (?_ : (List.replicate c.chans.length ([] : List Int)) = ((dQ c).chans))),oK⟩
   · rw [show i = c.procs.length by omega]; rfl
   · rfl
abbrev LA (s : Ns) (n : Int) (l : List Int) : Ct := ⟨55,[(.agg (uz s)),(i6 n),(LI l)],true,(.agg [(dL 2 a9 aX ((gK s n.toNat l).procs)),(dL 1 ab [] ((gK s n.toNat l).chans))])⟩
theorem GK (s : Ns) (n : Int) (l : List Int) (h1 : 0 ≤ n) (h2 : n < s.chans.length) (h3 : s.chans.length ≤ 1000000) : CC (LA s n l) := by
 refine ap.vc (V := TT 4 (ai [] (([] : List (List Int)).map ab)∧TT 2 ((([] : List (List Int)).length + (s.chans.map ab).length ≤ 137438953472∧([] : List (List Int)).map ab ++ s.chans.map ab = s.chans.map ab)∧TT 7 (IX n s.chans.length∧(n.toNat < s.chans.length∧(s.chans.map ab).set n.toNat ((ab (s.chans.getD n.toNat [])).take 0 ++ [(.sl 1 (aa .i64) 0 l)] ++ (ab (s.chans.getD n.toNat [])).drop (0 + 1)) = (s.chans.set n.toNat l).map ab)∧TT 3 (s.procs.map a9 = ((gK s n.toNat l).procs).map a9∧(s.chans.set n.toNat l).map ab = ((gK s n.toNat l).chans).map ab∧True))))) (.w 1 [(2,.app false 54 1 ab [] ([] : List (List Int))),(5,.app false 54 1 ab [] s.chans)] <| .w 2 [(5,.box 54 1 ab [] (s.chans.set n.toNat l))] <| .e) Try.func55 rfl rfl rfl (by kernel_rfl) ?_
 refine tt ⟨oK,tt ⟨⟨by simp only [List.length_map,List.length_cons,List.length_nil,List.length_append,List.length_drop,List.length_take]; first | omega | (simp; first | done | omega),by simp only [List.map_append,List.map_nil,List.append_nil,List.nil_append]⟩,tt ⟨ix,⟨⟨om,by simp only [List.map_set]; rfl⟩,tt ⟨(congrArg _ (?_ : s.procs = ((gK s n.toNat l).procs))),(congrArg _ (?_ : (s.chans.set n.toNat l) = ((gK s n.toNat l).chans))),oK⟩⟩⟩⟩⟩
 all_goals (rfl)
abbrev LC (c : Ci) (s : Ns) (p : Nat) : Ct := ⟨99,[(.agg (sI c)),(.agg (uz s)),(i6 (p : Int))],true,(.agg [(dL 2 gW cG (cI c s p)),(LB (cR c s p))])⟩
abbrev ln (c : Ci) (s : Ns) (p : Nat) : Lp (Nat) := fB [2,3,4,6,7,8] 5 (fun (i : Nat) => ⟨[(2,(i6 (p : Int))),(3,(.ptr 0 0 0 0)),(4,(.ptr 1 0 0 0)),(6,(.ptr 2 0 0 0)),(7,(.ptr 3 0 0 0)),(8,(i6 (i : Int)))],[(.var 31 (sI c)),(.var 35 (uz s)),(.var 176 [.nils,.nils]),(.var 176 [(.own 4),.nils]),(.arr 170 2 gW cG (tab (ip c s p) i))]⟩) (fun (i : Nat) => i ≤ (c.procs.getD p ac).takes.length) (fun (i : Nat) => (c.procs.getD p ac).takes.length - i)
abbrev lq (c : Ci) (s : Ns) (p : Nat) (i : Nat) : Lp (Nat) := fB [2,3,4,6,7,11] 6 (fun (m : Nat) => ⟨[(2,(i6 (p : Int))),(3,(.ptr 0 0 0 0)),(4,(.ptr 1 0 0 0)),(6,(.ptr 2 0 0 0)),(7,(.ptr 3 0 0 0)),(11,(i6 (m : Int)))],[(.var 31 (sI c)),(.var 35 (uz s)),(.var 176 [.nils,.nils]),(.var 176 [(.own 4),(.own 5)]),(.arr 170 2 gW cG (tab (ip c s p) i)),(.arr 4 1 bM false (tab (gm c s p) m))]⟩) (fun (m : Nat) => m ≤ (c.procs.getD p ac).puts.length) (fun (m : Nat) => (c.procs.getD p ac).puts.length - m)
theorem EU (c : Ci) (s : Ns) (p : Nat) (hc : b5 c) (hs : gC c s) (hp : p < c.procs.length) : CC (LC c s p) := by
 have hnl := hc.nl
 have hcl := hc.cl
 have hpk : im (c.procs.getD p ac) := hc.pr p hp
 have hl1 := hs.pl
 have hl2 := hs.cl
 have ht1 : (c.procs.getD p ac).takes.length ≤ 100 := hpk.tl
 have ht2 : (c.procs.getD p ac).puts.length ≤ 100 := hpk.pl
 refine ap.vc (V := TT 7 (GO (ln c s p) 0 (∀ i,(ln c s p).inv i → TT 4 (IX (p : Int) c.procs.length∧TT 4 (CD ((i : Int) < ((((c.procs.getD p ac).takes).length : Nat) : Int)) (TT 5 (IX (p : Int) c.procs.length∧TT 3 (IX (i : Int) (((c.procs.getD p ac).takes).length)∧TT 2 (IX ((((c.procs.getD p ac).takes).getD i bB).chan) s.chans.length∧TT 8 (CD ((((s.chans.getD (((((c.procs.getD p ac).takes).getD i bB).chan).toNat) []).length : Nat) : Int) > 0) (TT 1 (IX 0 ((s.chans.getD (((((c.procs.getD p ac).takes).getD i bB).chan).toNat) []).length)∧TT 6 (ai [[(dB true),(i6 ((s.chans.getD (((((c.procs.getD p ac).takes).getD i bB).chan).toNat) []).getD 0 0))]] ([(⟨true,((s.chans.getD (((((c.procs.getD p ac).takes).getD i bB).chan).toNat) []).getD 0 0)⟩ : Hd)].map gW)∧((tab (ip c s p) i).length + ([(⟨true,((s.chans.getD (((((c.procs.getD p ac).takes).getD i bB).chan).toNat) []).getD 0 0)⟩ : Hd)].map gW).length ≤ 137438953472∧(tab (ip c s p) i).map gW ++ [(⟨true,((s.chans.getD (((((c.procs.getD p ac).takes).getD i bB).chan).toNat) []).getD 0 0)⟩ : Hd)].map gW = (tab (ip c s p) (i + 1)).map gW)∧TT 3 (W6 ((i + 1 : Nat) : Int)∧TT 1 (AG (ln c s p) i (i + 1)))))) (TT 3 (ai [[(dB false),(i6 0)]] ([(⟨false,0⟩ : Hd)].map gW)∧((tab (ip c s p) i).length + ([(⟨false,0⟩ : Hd)].map gW).length ≤ 137438953472∧(tab (ip c s p) i).map gW ++ [(⟨false,0⟩ : Hd)].map gW = (tab (ip c s p) (i + 1)).map gW)∧TT 3 (W6 ((i + 1 : Nat) : Int)∧TT 1 (AG (ln c s p) i (i + 1)))))))))) (TT 1 (GO (lq c s p i) 0 (∀ m,(lq c s p i).inv m → TT 4 (IX (p : Int) c.procs.length∧TT 4 (CD ((m : Int) < ((((c.procs.getD p ac).puts).length : Nat) : Int)) (TT 3 (IX (p : Int) c.procs.length∧TT 3 (IX (m : Int) (((c.procs.getD p ac).puts).length)∧TT 3 (CS (((c.chans.getD (((((c.procs.getD p ac).puts).getD m bK).chan).toNat) ax).dst) = (-1)) (TT 5 (IX ((((c.procs.getD p ac).puts).getD m bK).chan) c.chans.length∧TT 3 ((True∧(decide (((c.chans.getD (((((c.procs.getD p ac).puts).getD m bK).chan).toNat) ax).dst) = (-1))) = true)∧TT 1 (ai [[(dB true)]] ([true].map bM)∧((tab (gm c s p) m).length + ([true].map bM).length ≤ 137438953472∧(tab (gm c s p) m).map bM ++ [true].map bM = (tab (gm c s p) (m + 1)).map bM)∧TT 3 (W6 ((m + 1 : Nat) : Int)∧TT 1 (AG (lq c s p i) m (m + 1))))))) (TT 5 (IX ((((c.procs.getD p ac).puts).getD m bK).chan) c.chans.length∧TT 3 ((True∧(decide (((c.chans.getD (((((c.procs.getD p ac).puts).getD m bK).chan).toNat) ax).dst) = (-1))) = false)∧TT 3 (IX ((((c.procs.getD p ac).puts).getD m bK).chan) s.chans.length∧TT 5 (IX ((((c.procs.getD p ac).puts).getD m bK).chan) c.chans.length∧TT 4 (ai [[(dB (decide ((((s.chans.getD (((((c.procs.getD p ac).puts).getD m bK).chan).toNat) []).length : Nat) : Int) < ((c.chans.getD (((((c.procs.getD p ac).puts).getD m bK).chan).toNat) ax).cap))))]] ([decide ((((s.chans.getD (((((c.procs.getD p ac).puts).getD m bK).chan).toNat) []).length : Nat) : Int) < ((c.chans.getD (((((c.procs.getD p ac).puts).getD m bK).chan).toNat) ax).cap))].map bM)∧((tab (gm c s p) m).length + ([decide ((((s.chans.getD (((((c.procs.getD p ac).puts).getD m bK).chan).toNat) []).length : Nat) : Int) < ((c.chans.getD (((((c.procs.getD p ac).puts).getD m bK).chan).toNat) ax).cap))].map bM).length ≤ 137438953472∧(tab (gm c s p) m).map bM ++ [decide ((((s.chans.getD (((((c.procs.getD p ac).puts).getD m bK).chan).toNat) []).length : Nat) : Int) < ((c.chans.getD (((((c.procs.getD p ac).puts).getD m bK).chan).toNat) ax).cap))].map bM = (tab (gm c s p) (m + 1)).map bM)∧TT 3 (W6 ((m + 1 : Nat) : Int)∧TT 1 (AG (lq c s p i) m (m + 1))))))))))))) (TT 3 ((tab (ip c s p) i).map gW = (cI c s p).map gW∧(tab (gm c s p) m).map bM = (cR c s p).map bM∧True)))))))))))) (.g 2 3 0 170 2 gW cG <| .l (ln c s p) 0 (fun i => .b 22 (.b 42 (.w 9 [(3,.box 170 2 gW cG [(⟨true,((s.chans.getD (((((c.procs.getD p ac).takes).getD i bB).chan).toNat) []).getD 0 0)⟩ : Hd)]),(4,.box 170 2 gW cG (tab (ip c s p) (i + 1)))] <| .w 4 [(1,.val (i6 ((i + 1 : Nat) : Int)))] <| .e) (.w 9 [(3,.box 170 2 gW cG [(⟨false,0⟩ : Hd)]),(4,.box 170 2 gW cG (tab (ip c s p) (i + 1)))] <| .w 4 [(1,.val (i6 ((i + 1 : Nat) : Int)))] <| .e)) (.g 10 3 1 4 1 bM false <| .l (lq c s p i) 0 (fun m => .b 61 (.s 14 (((c.chans.getD (((((c.procs.getD p ac).puts).getD m bK).chan).toNat) ax).dst) = (-1)) (.w 14 [(9,.val (dB true)),(24,.box 4 1 bM false [true]),(25,.box 4 1 bM false (tab (gm c s p) (m + 1)))] <| .w 12 [(1,.val (i6 ((m + 1 : Nat) : Int)))] <| .e) (.w 14 [(9,.val (dB false)),(24,.box 4 1 bM false [decide ((((s.chans.getD (((((c.procs.getD p ac).puts).getD m bK).chan).toNat) []).length : Nat) : Int) < ((c.chans.getD (((((c.procs.getD p ac).puts).getD m bK).chan).toNat) ax).cap))]),(25,.box 4 1 bM false (tab (gm c s p) (m + 1)))] <| .w 12 [(1,.val (i6 ((m + 1 : Nat) : Int)))] <| .e)) (.e))))) Try.func99 rfl rfl rfl (by kernel_rfl) ?_
 refine tt ⟨rfl,(by omega),?_⟩
 intro i hinv
 have hi := hinv
 refine tt ⟨ix,tt (cd (fun hc22 => ?_) (fun hc22 => ?_))⟩
 · have htk : 0 ≤ ((c.procs.getD p ac).takes.getD i bB).chan∧((c.procs.getD p ac).takes.getD i bB).chan < c.chans.length := ⟨(hc.tk p hp i (show i < (c.procs.getD p ac).takes.length by omega)).1,(hc.tk p hp i (show i < (c.procs.getD p ac).takes.length by omega)).2.1⟩
   refine tt ⟨ix,tt ⟨ix,tt ⟨ix,tt (cd (fun hc42 => ?_) (fun hc42 => ?_))⟩⟩⟩
   · refine tt ⟨ix,tt ⟨⟨⟨rfl,rfl,oK⟩,oK⟩,⟨(aJ (by omega) (by first | exact (if_pos (show 0 < (s.chans.getD ((c.procs.getD p ac).takes.getD i bB).chan.toNat []).length by omega)).symm | exact (if_neg (show ¬0 < (s.chans.getD ((c.procs.getD p ac).takes.getD i bB).chan.toNat []).length by omega)).symm)),tt ⟨w6,tt ⟨(i + 1),rfl,(?_ : (i + 1) ≤ (c.procs.getD p ac).takes.length),(?_ : (c.procs.getD p ac).takes.length - (i + 1) < (c.procs.getD p ac).takes.length - i)⟩⟩⟩⟩⟩
     · omega
     · omega
   · refine tt ⟨⟨⟨rfl,rfl,oK⟩,oK⟩,⟨(aJ (by omega) (by first | exact (if_pos (show 0 < (s.chans.getD ((c.procs.getD p ac).takes.getD i bB).chan.toNat []).length by omega)).symm | exact (if_neg (show ¬0 < (s.chans.getD ((c.procs.getD p ac).takes.getD i bB).chan.toNat []).length by omega)).symm)),tt ⟨w6,tt ⟨(i + 1),rfl,(?_ : (i + 1) ≤ (c.procs.getD p ac).takes.length),(?_ : (c.procs.getD p ac).takes.length - (i + 1) < (c.procs.getD p ac).takes.length - i)⟩⟩⟩⟩
     · omega
     · omega
 · refine tt ⟨rfl,(by omega),?_⟩
   intro m hinv
   have hm := hinv
   refine tt ⟨ix,tt (cd (fun hc61 => ?_) (fun hc61 => ?_))⟩
   · have hpt : 0 ≤ ((c.procs.getD p ac).puts.getD m bK).chan∧((c.procs.getD p ac).puts.getD m bK).chan < c.chans.length := ⟨(hc.pt p hp m (show m < (c.procs.getD p ac).puts.length by omega)).1,(hc.pt p hp m (show m < (c.procs.getD p ac).puts.length by omega)).2.1⟩
     refine tt ⟨ix,tt ⟨ix,tt ⟨fun hs0 => ?_,fun hs0 => ?_⟩⟩⟩
     · refine tt ⟨ix,tt ⟨(vT hs0),tt ⟨⟨⟨rfl,oK⟩,oK⟩,⟨(aJ (by omega) (by first | exact (DH hs0).symm | exact (vA hs0).symm | exact (vA hs1).symm)),tt ⟨w6,tt ⟨(m + 1),rfl,(?_ : (m + 1) ≤ (c.procs.getD p ac).puts.length),(?_ : (c.procs.getD p ac).puts.length - (m + 1) < (c.procs.getD p ac).puts.length - m)⟩⟩⟩⟩⟩⟩
       · omega
       · omega
     · refine tt ⟨ix,tt ⟨(vF hs0),tt ⟨ix,tt ⟨ix,tt ⟨⟨⟨rfl,oK⟩,oK⟩,⟨(aJ (by omega) (by first | exact (DH hs0).symm | exact (vA hs0).symm | exact (vA hs1).symm)),tt ⟨w6,tt ⟨(m + 1),rfl,(?_ : (m + 1) ≤ (c.procs.getD p ac).puts.length),(?_ : (c.procs.getD p ac).puts.length - (m + 1) < (c.procs.getD p ac).puts.length - m)⟩⟩⟩⟩⟩⟩⟩⟩
       · omega
       · omega
   · refine tt ⟨(congrArg _ (?_ : (tab (ip c s p) i) = (cI c s p))),(congrArg _ (?_ : (tab (gm c s p) m) = (cR c s p))),oK⟩
     · rw [show i = (c.procs.getD p ac).takes.length by omega]; rfl
     · rw [show m = (c.procs.getD p ac).puts.length by omega]; rfl
abbrev Kj (c : Ci) (s : Ns) (p : Nat) : Ct := ⟨92,[(.agg (sI c)),(.agg (uz s)),(i6 (p : Int))],true,(.agg [(dB ((aA c s p).fires)),(LI (((aA c s p).s).regs)),(dL 1 ab [] (((aA c s p).s).mems)),(LB ((aA c s p).pops)),(dL 2 gW cG ((aA c s p).puts))])⟩
theorem uA (c : Ci) (s : Ns) (p : Nat) (hc : b5 c) (hs : gC c s) (hp : p < c.procs.length) : CC (Kj c s p) := by
 have hnl := hc.nl
 have hcl := hc.cl
 have hpk : im (c.procs.getD p ac) := hc.pr p hp
 have hl1 := hs.pl
 have hl2 := hs.cl
 have ht1 : (c.procs.getD p ac).takes.length ≤ 100 := hpk.tl
 have ht2 : (c.procs.getD p ac).puts.length ≤ 100 := hpk.pl
 refine ap.vc (V := TT 6 (IX (p : Int) c.procs.length∧TT 4 (IX (p : Int) s.procs.length∧TT 4 (CC (LC c s p)∧CC (Lx (c.procs.getD p ac) (s.procs.getD p aX) (cI c s p) (cR c s p))∧TT 2 (((bi (c.procs.getD p ac) (s.procs.getD p aX) (cI c s p) (cR c s p)).fires) = ((aA c s p).fires)∧(((bi (c.procs.getD p ac) (s.procs.getD p aX) (cI c s p) (cR c s p)).s).regs).map (aa .i64) = (((aA c s p).s).regs).map (aa .i64)∧(((bi (c.procs.getD p ac) (s.procs.getD p aX) (cI c s p) (cR c s p)).s).mems).map ab = (((aA c s p).s).mems).map ab∧((bi (c.procs.getD p ac) (s.procs.getD p aX) (cI c s p) (cR c s p)).pops).map bM = ((aA c s p).pops).map bM∧((bi (c.procs.getD p ac) (s.procs.getD p aX) (cI c s p) (cR c s p)).puts).map gW = ((aA c s p).puts).map gW∧True))))) (.w 1 [(13,(LC c s p).O),(14,(Lx (c.procs.getD p ac) (s.procs.getD p aX) (cI c s p) (cR c s p)).O)] <| .e) Try.func92 rfl rfl rfl (by kernel_rfl) ?_
 refine tt ⟨ix,tt ⟨ix,tt ⟨(EU c s p hc hs hp),⟨(B1 (c.procs.getD p ac) (s.procs.getD p aX) (cI c s p) (cR c s p) hpk (hs.pv p hp) (rY hc hs hp) (by rw [cR,aL])),tt ⟨?_,(congrArg _ (?_ : (((bi (c.procs.getD p ac) (s.procs.getD p aX) (cI c s p) (cR c s p)).s).regs) = (((aA c s p).s).regs))),(congrArg _ (?_ : (((bi (c.procs.getD p ac) (s.procs.getD p aX) (cI c s p) (cR c s p)).s).mems) = (((aA c s p).s).mems))),(congrArg _ (?_ : ((bi (c.procs.getD p ac) (s.procs.getD p aX) (cI c s p) (cR c s p)).pops) = ((aA c s p).pops))),(congrArg _ (?_ : ((bi (c.procs.getD p ac) (s.procs.getD p aX) (cI c s p) (cR c s p)).puts) = ((aA c s p).puts))),oK⟩⟩⟩⟩⟩
 all_goals (rfl)
abbrev LD (c : Ci) (s : Ns) (p : Int) : Ct := ⟨78,[(.agg (sI c)),(.agg (uz s)),(i6 p)],false,(dB (iq c s p))⟩
theorem GL (c : Ci) (s : Ns) (p : Int) (hc : b5 c) (hs : gC c s) : CC (LD c s p) := by
 have hnl := hc.nl
 have hcl := hc.cl
 refine ap.vc (V := TT 3 (CS (p ≥ 0) (CS (p < (c.procs.length : Int)) (TT 2 ((True∧(decide (p ≥ 0)) = true)∧TT 6 ((True∧(decide (p < (c.procs.length : Int))) = true)∧TT 2 ((True∧p = (p.toNat : Int))∧CC (Kj c s p.toNat)∧TT 4 (((aA c s p.toNat).fires) = (iq c s p)∧True))))) (TT 2 ((True∧(decide (p ≥ 0)) = true)∧TT 6 ((True∧(decide (p < (c.procs.length : Int))) = false)∧TT 8 (false = (iq c s p)∧True))))) (TT 2 ((True∧(decide (p ≥ 0)) = false)∧TT 15 (false = (iq c s p)∧True))))) (.s 1 (p ≥ 0) (.s 1 (p < (c.procs.length : Int)) (.w 1 [(2,.val (dB true)),(9,.val (dB true)),(12,.val (i6 (p.toNat : Int))),(13,(Kj c s p.toNat).O)] <| .e) (.w 1 [(2,.val (dB true)),(9,.val (dB false))] <| .e)) (.w 1 [(2,.val (dB false))] <| .e)) Try.func78 rfl rfl rfl (by kernel_rfl) ?_
 refine tt ⟨fun hs0 => ?_,fun hs0 => ?_⟩
 · refine ⟨fun hs1 => ?_,fun hs1 => ?_⟩
   · refine tt ⟨(vT hs0),tt ⟨(vT hs1),tt ⟨⟨oK,(by omega)⟩,⟨(uA c s p.toNat hc hs (by omega)),tt ⟨?_,oK⟩⟩⟩⟩⟩
     first | exact (se (by omega)).symm | exact (sf (by omega)).symm | exact (qK (by omega) (by omega)).symm
   · refine tt ⟨(vT hs0),tt ⟨(vF hs1),tt ⟨?_,oK⟩⟩⟩
     first | exact (se (by omega)).symm | exact (sf (by omega)).symm | exact (qK (by omega) (by omega)).symm
 · refine tt ⟨(vF hs0),tt ⟨?_,oK⟩⟩
   first | exact (se (by omega)).symm | exact (sf (by omega)).symm | exact (qK (by omega) (by omega)).symm
abbrev LF (a b : Ns) : Ct := ⟨22,[(.agg [(dL 2 a9 aX a.procs),(dL 1 ab [] a.chans)]),(.agg [(dL 2 a9 aX b.procs),(dL 1 ab [] b.chans)])],false,(dB (cy a b))⟩
abbrev md (a : Ns) (b : Ns) : Lp (Nat) := fB [2,3,5] 2 (fun (i : Nat) => ⟨[(2,(.ptr 0 0 0 0)),(3,(.ptr 1 0 0 0)),(5,(i6 (i : Int)))],[(.var 35 [(dL 2 a9 aX a.procs),(dL 1 ab [] a.chans)]),(.var 35 [(dL 2 a9 aX b.procs),(dL 1 ab [] b.chans)])]⟩) (fun (i : Nat) => i ≤ a.procs.length∧∀ z,z < i → dj (a.procs.getD z aX) (b.procs.getD z aX) = true) (fun (i : Nat) => a.procs.length - i)
abbrev mf (a : Ns) (b : Ns) : Lp (Nat) := fB [2,3,6] 2 (fun (n : Nat) => ⟨[(2,(.ptr 0 0 0 0)),(3,(.ptr 1 0 0 0)),(6,(i6 (n : Int)))],[(.var 35 [(dL 2 a9 aX a.procs),(dL 1 ab [] a.chans)]),(.var 35 [(dL 2 a9 aX b.procs),(dL 1 ab [] b.chans)])]⟩) (fun (n : Nat) => n ≤ a.chans.length∧∀ z,z < n → a.chans.getD z [] = b.chans.getD z []) (fun (n : Nat) => a.chans.length - n)
theorem B4 (a b : Ns) (hz : G9 a) : CC (LF a b) := by
 obtain ⟨hap,hac,hcb,hpa,hpb,hpc⟩ := hz
 refine ap.vc (V := TT 3 (CS ((a.procs.length : Int) = (b.procs.length : Int)) (TT 7 ((True∧(!decide ((a.procs.length : Int) = (b.procs.length : Int))) = false)∧TT 8 (CN ((a.chans.length : Int) = (b.chans.length : Int)) (TT 2 (false = (cy a b)∧True)) (TT 1 (GO (md a b) 0 (∀ i,(md a b).inv i → TT 5 (CD ((i : Int) < (a.procs.length : Int)) (TT 3 (IX (i : Int) a.procs.length∧TT 4 (IX (i : Int) b.procs.length∧TT 1 (CC (Ly (a.procs.getD i aX) (b.procs.getD i aX))∧TT 1 (CB (!(dj (a.procs.getD i aX) (b.procs.getD i aX))) (TT 2 (false = (cy a b)∧True)) (TT 1 (W6 ((i + 1 : Nat) : Int)∧TT 1 (AG (md a b) i (i + 1))))))))) (TT 1 (GO (mf a b) 0 (∀ n,(mf a b).inv n → TT 5 (CD ((n : Int) < (a.chans.length : Int)) (TT 3 (IX (n : Int) a.chans.length∧TT 4 (IX (n : Int) b.chans.length∧TT 1 (CC (GJ (a.chans.getD n []) (b.chans.getD n []))∧TT 1 (CN ((a.chans.getD n []) = (b.chans.getD n [])) (TT 2 (false = (cy a b)∧True)) (TT 1 (W6 ((n + 1 : Nat) : Int)∧TT 1 (AG (mf a b) n (n + 1))))))))) (TT 2 (true = (cy a b)∧True))))))))))))) (TT 7 ((True∧(!decide ((a.procs.length : Int) = (b.procs.length : Int))) = true)∧TT 10 (false = (cy a b)∧True))))) (.s 1 ((a.procs.length : Int) = (b.procs.length : Int)) (.w 1 [(7,.val (dB false))] <| .b 22 (.e) (.l (md a b) 0 (fun i => .b 27 (.w 6 [(10,(Ly (a.procs.getD i aX) (b.procs.getD i aX)).O)] <| .b 41 (.e) (.w 5 [(1,.val (i6 ((i + 1 : Nat) : Int)))] <| .e)) (.l (mf a b) 0 (fun n => .b 46 (.w 11 [(10,(GJ (a.chans.getD n []) (b.chans.getD n [])).O)] <| .b 60 (.e) (.w 10 [(1,.val (i6 ((n + 1 : Nat) : Int)))] <| .e)) (.e)))))) (.w 1 [(7,.val (dB true))] <| .e)) Try.func22 rfl rfl rfl (by kernel_rfl) ?_
 refine tt ⟨fun hs0 => ?_,fun hs0 => ?_⟩
 · refine tt ⟨(nF hs0),tt (cn (fun hc22 => ?_) (fun hc22 => ?_))⟩
   · refine tt ⟨?_,oK⟩
     first | exact (iC (by omega)).symm | exact (iE (by omega)).symm | exact (iG (i := i) (by omega) (by simpa using hc41)).symm | exact (iH (n := n) (by simpa using hc60)).symm | exact (iI (by omega) (by omega) (fun z hz => h3 z (by omega)) (fun z hz => h4 z (by omega))).symm
   · refine tt ⟨rfl,⟨by omega,fun z hz => by omega⟩,?_⟩
     intro i hinv
     obtain ⟨hi,h3⟩ := hinv
     refine tt (cd (fun hc27 => ?_) (fun hc27 => ?_))
     · refine tt ⟨ix,tt ⟨ix,tt ⟨(B2 (a.procs.getD i aX) (b.procs.getD i aX) (by have := hpa i; omega) (by have := hpb i; omega) (fun j => by have := hpc i j; omega)),tt ⟨fun hc41 => ?_,fun hc41 => ?_⟩⟩⟩⟩
       · refine tt ⟨?_,oK⟩
         first | exact (iC (by omega)).symm | exact (iE (by omega)).symm | exact (iG (i := i) (by omega) (by simpa using hc41)).symm | exact (iH (n := n) (by simpa using hc60)).symm | exact (iI (by omega) (by omega) (fun z hz => h3 z (by omega)) (fun z hz => h4 z (by omega))).symm
       · refine tt ⟨w6,tt ⟨(i + 1),rfl,?_,(?_ : a.procs.length - (i + 1) < a.procs.length - i)⟩⟩
         · exact ⟨by omega,aR h3 (by simpa using hc41)⟩
         · omega
     · refine tt ⟨rfl,⟨by omega,fun z hz => by omega⟩,?_⟩
       intro n hinv
       obtain ⟨hn,h4⟩ := hinv
       refine tt (cd (fun hc46 => ?_) (fun hc46 => ?_))
       · refine tt ⟨ix,tt ⟨ix,tt ⟨(qR (a.chans.getD n []) (b.chans.getD n []) (by have := hcb n; omega)),tt (cn (fun hc60 => ?_) (fun hc60 => ?_))⟩⟩⟩
         · refine tt ⟨?_,oK⟩
           first | exact (iC (by omega)).symm | exact (iE (by omega)).symm | exact (iG (i := i) (by omega) (by simpa using hc41)).symm | exact (iH (n := n) (by simpa using hc60)).symm | exact (iI (by omega) (by omega) (fun z hz => h3 z (by omega)) (fun z hz => h4 z (by omega))).symm
         · refine tt ⟨w6,tt ⟨(n + 1),rfl,?_,(?_ : a.chans.length - (n + 1) < a.chans.length - n)⟩⟩
           · exact ⟨by omega,aR h4 (by simpa using hc60)⟩
           · omega
       · refine tt ⟨?_,oK⟩
         first | exact (iC (by omega)).symm | exact (iE (by omega)).symm | exact (iG (i := i) (by omega) (by simpa using hc41)).symm | exact (iH (n := n) (by simpa using hc60)).symm | exact (iI (by omega) (by omega) (fun z hz => h3 z (by omega)) (fun z hz => h4 z (by omega))).symm
 · refine tt ⟨(nT hs0),tt ⟨?_,oK⟩⟩
   first | exact (iC (by omega)).symm | exact (iE (by omega)).symm | exact (iG (i := i) (by omega) (by simpa using hc41)).symm | exact (iH (n := n) (by simpa using hc60)).symm | exact (iI (by omega) (by omega) (fun z hz => h3 z (by omega)) (fun z hz => h4 z (by omega))).symm
end Go.Proofs.Ytnlmlkbaflmgcaa
