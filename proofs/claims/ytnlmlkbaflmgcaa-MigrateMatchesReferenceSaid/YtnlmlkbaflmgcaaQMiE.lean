/-
  Package migrate: carried states.
-/
import Derived.Test.YtnlmlkbaflmgcaaQMiD
import Derived.Test.YtnlmlkbaflmgcaaQNeE
namespace Go.Proofs.Ytnlmlkbaflmgcaa
open Go.RowKit
set_option linter.unusedVariables false
set_option linter.unusedSimpArgs false
abbrev w4 (s : Ns) : aE := (.var 35 [(dL 2 a9 aX s.procs),(dL 1 ab [] s.chans)])
abbrev w5 (o : Ci) : aE := (.var 31 [(dL 6 bm ac o.procs),(dL 5 bH ax o.chans)])
abbrev w7 (n : Ci) : aE := (.var 31 [(dL 6 bm ac n.procs),(dL 5 bH ax n.chans)])
abbrev ud (o n : Ci) : D := (dL 1 bu .empty (a4 o n o.chans.length))
set_option maxRecDepth 100000
abbrev KR (l : List ByteArray) (b : ByteArray) : Ct := ⟨84,[(dL 1 bu .empty l),(dS b)],false,(i6 (JH l b))⟩
abbrev vB (l : List ByteArray) (b : ByteArray) : Lp (Nat) := fB [0,1,7,8] 0 (fun (i : Nat) => ⟨[(0,(dL 1 bu .empty l)),(1,(dS b)),(7,(i6 (l.length : Int))),(8,(i6 (i : Int)))],[]⟩) (fun (i : Nat) => i ≤ l.length∧∀ z,z < i → (b.toList == (l.getD z .empty).toList) = false) (fun (i : Nat) => l.length - i)
theorem HN (l : List ByteArray) (b : ByteArray) (hl : l.length ≤ 9223372036854775807) : CC (KR l b) := by
 refine ap.vc (V := TT 4 (GO (vB l b) 0 (∀ i,(vB l b).inv i → TT 1 (CD ((i : Int) < (l.length : Int)) (TT 5 (IX (i : Int) l.length∧TT 2 (CB (b.toList == (l.getD i .empty).toList) (TT 3 ((i : Int) = (JH l b)∧True)) (W6 ((i + 1 : Nat) : Int)∧TT 1 (AG (vB l b) i (i + 1)))))) (TT 2 ((-1) = (JH l b)∧True)))))) (.l (vB l b) 0 (fun i => .b 9 (.b 16 (.e) (.w 6 [(0,.val (i6 ((i + 1 : Nat) : Int)))] <| .e)) (.e))) Try.func84 rfl rfl rfl (by kernel_rfl) ?_
 refine tt ⟨rfl,⟨by omega,fun z hz => by omega⟩,?_⟩
 intro i hinv
 obtain ⟨hi,h3⟩ := hinv
 refine tt (cd (fun hc9 => ?_) (fun hc9 => ?_))
 · refine tt ⟨ix,tt ⟨fun hc16 => ?_,fun hc16 => ?_⟩⟩
   · refine tt ⟨?_,oK⟩
     first | exact (bq (f := fun i => b.toList == (l.getD i .empty).toList) hc16 h3 (by omega)).symm | exact (bO (f := fun i => b.toList == (l.getD i .empty).toList) (fun z hz => h3 z (by omega))).symm
   · refine ⟨w6,tt ⟨(i + 1),rfl,?_,(?_ : l.length - (i + 1) < l.length - i)⟩⟩
     · exact ⟨by omega,aR h3 hc16⟩
     · omega
 · refine tt ⟨?_,oK⟩
   first | exact (bq (f := fun i => b.toList == (l.getD i .empty).toList) hc16 h3 (by omega)).symm | exact (bO (f := fun i => b.toList == (l.getD i .empty).toList) (fun z hz => h3 z (by omega))).symm
abbrev KS (l : List ByteArray) (b : ByteArray) : Ct := ⟨62,[(dL 1 bu .empty l),(dS b)],false,(dB (p7 l b))⟩
theorem HO (l : List ByteArray) (b : ByteArray) (hl : l.length ≤ 9223372036854775807) : CC (KS l b) := by
 refine ap.vc (V := TT 3 (CC (KR l b)∧TT 3 ((decide ((JH l b) ≥ 0)) = (p7 l b)∧True))) (.w 1 [(2,(KR l b).O)] <| .e) Try.func62 rfl rfl rfl (by kernel_rfl) ?_
 refine tt ⟨(HN l b om),tt ⟨?_,oK⟩⟩
 first | exact Ac l b | (rw [← Ac]; rfl)
abbrev KT (o n : Ci) (s : Ns) : Ct := ⟨33,[(.agg [(dL 6 bm ac o.procs),(dL 5 bH ax o.chans)]),(.agg [(dL 6 bm ac n.procs),(dL 5 bH ax n.chans)]),(.agg [(dL 2 a9 aX s.procs),(dL 1 ab [] s.chans)])],true,(.tup [(.agg [(dL 2 a9 aX (((aq o n s).1).procs)),(dL 1 ab [] (((aq o n s).1).chans))]),(i6 ((aq o n s).2))])⟩
abbrev j8 (o : Ci) (n : Ci) (s : Ns) : Lp (Nat) := fB [3,4,5,6,8,9,32,33,34] 11 (fun (q : Nat) => ⟨[(3,(.ptr 0 0 0 0)),(4,(.ptr 1 0 0 0)),(5,(.ptr 2 0 0 0)),(6,(.ptr 3 0 0 0)),(8,(ud o n)),(9,(.v (.sm false (aa .i64) 0 (b4 [] (bk o) o.chans.length)))),(32,(ud o n)),(33,(i6 (((a4 o n o.chans.length).length : Nat) : Int))),(34,(i6 (q : Int)))],[(w5 o),(w7 n),(w4 s),(.var 35 [.nils,.nils]),.dead,.dead,.dead,.dead,.dead,.dead,.dead]⟩) (fun (q : Nat) => q ≤ (a4 o n o.chans.length).length∧∀ z,z < q → ga o n s z = false) (fun (q : Nat) => (a4 o n o.chans.length).length - q)
abbrev j9 (o : Ci) (n : Ci) (s : Ns) : Lp (Nat) := fB [4,5,6,8,9,12,13,53,54,55] 13 (fun (i : Nat) => ⟨[(4,(.ptr 1 0 0 0)),(5,(.ptr 2 0 0 0)),(6,(.ptr 3 0 0 0)),(8,(ud o n)),(9,(.v (.sm false (aa .i64) 0 (b4 [] (bk o) o.chans.length)))),(12,(.ptr 11 0 0 0)),(13,(.v (.sm true kV ba (bc o s o.procs.length)))),(53,(dL 6 bm ac n.procs)),(54,(i6 (n.procs.length : Int))),(55,(i6 (i : Int)))],[(w5 o),(w7 n),(w4 s),(.var 35 [.nils,.nils]),.dead,.dead,.dead,.dead,.dead,.dead,.dead,(.var 35 [(.own 12),.nils]),(.arr 74 2 a9 aX (tab (d7 o n s) i))]⟩) (fun (i : Nat) => i ≤ n.procs.length) (fun (i : Nat) => n.procs.length - i)
abbrev ka (o : Ci) (n : Ci) (s : Ns) (i : Nat) : Lp (Nat) := fB [4,5,6,8,9,12,13,15,16,17,53,54,55,64,65,66] 18 (fun (j : Nat) => ⟨[(4,(.ptr 1 0 0 0)),(5,(.ptr 2 0 0 0)),(6,(.ptr 3 0 0 0)),(8,(ud o n)),(9,(.v (.sm false (aa .i64) 0 (b4 [] (bk o) o.chans.length)))),(12,(.ptr 11 0 0 0)),(13,(.v (.sm true kV ba (bc o s o.procs.length)))),(15,(.ptr 13 0 0 0)),(16,(.ptr 14 0 0 0)),(17,(.ptr 15 0 0 0)),(53,(dL 6 bm ac n.procs)),(54,(i6 (n.procs.length : Int))),(55,(i6 (i : Int))),(64,(dL 13 bA aC ((n.procs.getD i ac).regs))),(65,(i6 ((((n.procs.getD i ac).regs).length : Nat) : Int))),(66,(i6 (j : Int)))],[(w5 o),(w7 n),(w4 s),(.var 35 [.nils,.nils]),.dead,.dead,.dead,.dead,.dead,.dead,.dead,(.var 35 [(.own 12),.nils]),(.arr 74 2 a9 aX (tab (d7 o n s) i)),(.var 80 [(dS ((n.procs.getD i ac).name)),(dS ((n.procs.getD i ac).clock)),(dL 13 bA aC ((n.procs.getD i ac).regs)),(dL 27 bX au ((n.procs.getD i ac).mems)),(dL 9 cP bB ((n.procs.getD i ac).takes)),(dL 16 cN bK ((n.procs.getD i ac).puts))]),(.var 74 [(.own 16),(.own 17)]),(.var 124 [(dS (((ah ba (bc o s o.procs.length) ((n.procs.getD i ac).name)).p).name)),(dS (((ah ba (bc o s o.procs.length) ((n.procs.getD i ac).name)).p).clock)),(dL 13 bA aC (((ah ba (bc o s o.procs.length) ((n.procs.getD i ac).name)).p).regs)),(dL 27 bX au (((ah ba (bc o s o.procs.length) ((n.procs.getD i ac).name)).p).mems)),(dL 9 cP bB (((ah ba (bc o s o.procs.length) ((n.procs.getD i ac).name)).p).takes)),(dL 16 cN bK (((ah ba (bc o s o.procs.length) ((n.procs.getD i ac).name)).p).puts)),(LI (((ah ba (bc o s o.procs.length) ((n.procs.getD i ac).name)).s).regs)),(dL 1 ab [] (((ah ba (bc o s o.procs.length) ((n.procs.getD i ac).name)).s).mems)),(.v (.sm false (aa .i64) 0 ((ah ba (bc o s o.procs.length) ((n.procs.getD i ac).name)).regs))),(.v (.sm false (aa .i64) 0 ((ah ba (bc o s o.procs.length) ((n.procs.getD i ac).name)).mems)))]),(.arr 3 1 (aa .i64) 0 (tab (fun j => eD (ah ba (bc o s o.procs.length) (n.procs.getD i ac).name) ((n.procs.getD i ac).regs.getD j aC)) j)),(.arr 54 1 ab [] [])]⟩) (fun (j : Nat) => j ≤ (n.procs.getD i ac).regs.length) (fun (j : Nat) => (n.procs.getD i ac).regs.length - j)
abbrev kb (o : Ci) (n : Ci) (s : Ns) (i : Nat) (j : Nat) : Lp (Nat) := fB [4,5,6,8,9,12,13,16,17,53,54,55,80,81,82] 18 (fun (k : Nat) => ⟨[(4,(.ptr 1 0 0 0)),(5,(.ptr 2 0 0 0)),(6,(.ptr 3 0 0 0)),(8,(ud o n)),(9,(.v (.sm false (aa .i64) 0 (b4 [] (bk o) o.chans.length)))),(12,(.ptr 11 0 0 0)),(13,(.v (.sm true kV ba (bc o s o.procs.length)))),(16,(.ptr 14 0 0 0)),(17,(.ptr 15 0 0 0)),(53,(dL 6 bm ac n.procs)),(54,(i6 (n.procs.length : Int))),(55,(i6 (i : Int))),(80,(dL 27 bX au ((n.procs.getD i ac).mems))),(81,(i6 ((((n.procs.getD i ac).mems).length : Nat) : Int))),(82,(i6 (k : Int)))],[(w5 o),(w7 n),(w4 s),(.var 35 [.nils,.nils]),.dead,.dead,.dead,.dead,.dead,.dead,.dead,(.var 35 [(.own 12),.nils]),(.arr 74 2 a9 aX (tab (d7 o n s) i)),(.var 80 [(dS ((n.procs.getD i ac).name)),(dS ((n.procs.getD i ac).clock)),(dL 13 bA aC ((n.procs.getD i ac).regs)),(dL 27 bX au ((n.procs.getD i ac).mems)),(dL 9 cP bB ((n.procs.getD i ac).takes)),(dL 16 cN bK ((n.procs.getD i ac).puts))]),(.var 74 [(.own 16),(.own 17)]),(.var 124 [(dS (((ah ba (bc o s o.procs.length) ((n.procs.getD i ac).name)).p).name)),(dS (((ah ba (bc o s o.procs.length) ((n.procs.getD i ac).name)).p).clock)),(dL 13 bA aC (((ah ba (bc o s o.procs.length) ((n.procs.getD i ac).name)).p).regs)),(dL 27 bX au (((ah ba (bc o s o.procs.length) ((n.procs.getD i ac).name)).p).mems)),(dL 9 cP bB (((ah ba (bc o s o.procs.length) ((n.procs.getD i ac).name)).p).takes)),(dL 16 cN bK (((ah ba (bc o s o.procs.length) ((n.procs.getD i ac).name)).p).puts)),(LI (((ah ba (bc o s o.procs.length) ((n.procs.getD i ac).name)).s).regs)),(dL 1 ab [] (((ah ba (bc o s o.procs.length) ((n.procs.getD i ac).name)).s).mems)),(.v (.sm false (aa .i64) 0 ((ah ba (bc o s o.procs.length) ((n.procs.getD i ac).name)).regs))),(.v (.sm false (aa .i64) 0 ((ah ba (bc o s o.procs.length) ((n.procs.getD i ac).name)).mems)))]),(.arr 3 1 (aa .i64) 0 (tab (fun j => eD (ah ba (bc o s o.procs.length) (n.procs.getD i ac).name) ((n.procs.getD i ac).regs.getD j aC)) j)),(.arr 54 1 ab [] (tab (fun j => fD (ah ba (bc o s o.procs.length) (n.procs.getD i ac).name) ((n.procs.getD i ac).mems.getD j au)) k))]⟩) (fun (k : Nat) => k ≤ (n.procs.getD i ac).mems.length) (fun (k : Nat) => (n.procs.getD i ac).mems.length - k)
abbrev da (o : Ci) (n : Ci) (s : Ns) (i : Nat) : Lp (Nat) := fB [5,6,8,9,12,103,104,105] 14 (fun (m : Nat) => ⟨[(5,(.ptr 2 0 0 0)),(6,(.ptr 3 0 0 0)),(8,(ud o n)),(9,(.v (.sm false (aa .i64) 0 (b4 [] (bk o) o.chans.length)))),(12,(.ptr 11 0 0 0)),(103,(dL 5 bH ax n.chans)),(104,(i6 (n.chans.length : Int))),(105,(i6 (m : Int)))],[(w5 o),(w7 n),(w4 s),(.var 35 [.nils,.nils]),.dead,.dead,.dead,.dead,.dead,.dead,.dead,(.var 35 [(.own 12),(.own 13)]),(.arr 74 2 a9 aX (tab (d7 o n s) i)),(.arr 54 1 ab [] (tab (cT o n s) m))]⟩) (fun (m : Nat) => m ≤ n.chans.length∧∀ z,z < m → b7 o n s z = false) (fun (m : Nat) => n.chans.length - m)
theorem FU (o n : Ci) (s : Ns) (h : oB o n s) : CC (KT o n s) := by
 have hol := h.ol
 have hnl := h.nl
 have hop := h.op
 have hnp := h.np
 have hsl := h.sl
 have hsc := h.sc
 have hgl : (a4 o n o.chans.length).length ≤ o.chans.length := DP o n
 refine ap.vc (V := TT 7 (CC (E5 o n)∧TT 1 (CC (HI o)∧TT 5 (GO (j8 o n s) 0 (∀ q,(j8 o n s).inv q → TT 1 (CD ((q : Int) < (((a4 o n o.chans.length).length : Nat) : Int)) (IX (q : Int) ((a4 o n o.chans.length).length)∧TT 6 (((cu (i6 0) (fC false ((aa .i64) 0)))∧(false = false → ∀ p ∈ (b4 [] (bk o) o.chans.length),((aa .i64) p.2).length = 1))∧IX (ah 0 (b4 [] (bk o) o.chans.length) ((a4 o n o.chans.length).getD q .empty)) s.chans.length∧TT 3 (CD ((((s.chans.getD ((ah 0 (b4 [] (bk o) o.chans.length) ((a4 o n o.chans.length).getD q .empty)).toNat) []).length : Nat) : Int) > 0) (TT 5 (((((aq o n s).1).procs) = []∧(((aq o n s).1).chans) = []∧True)∧(150 : Int) = ((aq o n s).2)∧True)) (W6 ((q + 1 : Nat) : Int)∧TT 1 (AG (j8 o n s) q (q + 1)))))) (TT 3 (CC (KI o s)∧TT 5 (GO (j9 o n s) 0 (∀ i,(j9 o n s).inv i → TT 1 (CD ((i : Int) < (n.procs.length : Int)) (IX (i : Int) n.procs.length∧TT 7 (((cu (.agg [(dS e0),(dS e0),.nils,.nils,.nils,.nils,.nils,.nils,(.v .nmp),(.v .nmp)]) (fC true (kV ba)))∧(true = false → ∀ p ∈ (bc o s o.procs.length),(kV p.2).length = 1))∧TT 6 (GO (ka o n s i) 0 (∀ j,(ka o n s i).inv j → TT 1 (CD ((j : Int) < ((((n.procs.getD i ac).regs).length : Nat) : Int)) (IX (j : Int) (((n.procs.getD i ac).regs).length)∧TT 7 (CC (KL (ah ba (bc o s o.procs.length) ((n.procs.getD i ac).name)) (((n.procs.getD i ac).regs).getD j aC))∧ai [[(i6 (eD (ah ba (bc o s o.procs.length) ((n.procs.getD i ac).name)) (((n.procs.getD i ac).regs).getD j aC)))]] ([eD (ah ba (bc o s o.procs.length) ((n.procs.getD i ac).name)) (((n.procs.getD i ac).regs).getD j aC)].map (aa .i64))∧((tab (fun j => eD (ah ba (bc o s o.procs.length) (n.procs.getD i ac).name) ((n.procs.getD i ac).regs.getD j aC)) j).length + ([eD (ah ba (bc o s o.procs.length) ((n.procs.getD i ac).name)) (((n.procs.getD i ac).regs).getD j aC)].map (aa .i64)).length ≤ 137438953472∧(tab (fun j => eD (ah ba (bc o s o.procs.length) (n.procs.getD i ac).name) ((n.procs.getD i ac).regs.getD j aC)) j).map (aa .i64) ++ [eD (ah ba (bc o s o.procs.length) ((n.procs.getD i ac).name)) (((n.procs.getD i ac).regs).getD j aC)].map (aa .i64) = (tab (fun j => eD (ah ba (bc o s o.procs.length) (n.procs.getD i ac).name) ((n.procs.getD i ac).regs.getD j aC)) (j + 1)).map (aa .i64))∧TT 2 (W6 ((j + 1 : Nat) : Int)∧TT 1 (AG (ka o n s i) j (j + 1))))) (TT 4 (GO (kb o n s i j) 0 (∀ k,(kb o n s i j).inv k → TT 1 (CD ((k : Int) < ((((n.procs.getD i ac).mems).length : Nat) : Int)) (IX (k : Int) (((n.procs.getD i ac).mems).length)∧TT 7 (CC (KM (ah ba (bc o s o.procs.length) ((n.procs.getD i ac).name)) (((n.procs.getD i ac).mems).getD k au))∧ai [[(LI (fD (ah ba (bc o s o.procs.length) ((n.procs.getD i ac).name)) (((n.procs.getD i ac).mems).getD k au)))]] ([fD (ah ba (bc o s o.procs.length) ((n.procs.getD i ac).name)) (((n.procs.getD i ac).mems).getD k au)].map ab)∧((tab (fun j => fD (ah ba (bc o s o.procs.length) (n.procs.getD i ac).name) ((n.procs.getD i ac).mems.getD j au)) k).length + ([fD (ah ba (bc o s o.procs.length) ((n.procs.getD i ac).name)) (((n.procs.getD i ac).mems).getD k au)].map ab).length ≤ 137438953472∧(tab (fun j => fD (ah ba (bc o s o.procs.length) (n.procs.getD i ac).name) ((n.procs.getD i ac).mems.getD j au)) k).map ab ++ [fD (ah ba (bc o s o.procs.length) ((n.procs.getD i ac).name)) (((n.procs.getD i ac).mems).getD k au)].map ab = (tab (fun j => fD (ah ba (bc o s o.procs.length) (n.procs.getD i ac).name) ((n.procs.getD i ac).mems.getD j au)) (k + 1)).map ab)∧TT 2 (W6 ((k + 1 : Nat) : Int)∧TT 1 (AG (kb o n s i j) k (k + 1))))) (TT 3 (ai [[(LI (tab (fun j => eD (ah ba (bc o s o.procs.length) (n.procs.getD i ac).name) ((n.procs.getD i ac).regs.getD j aC)) j)),(dL 1 ab [] (tab (fun j => fD (ah ba (bc o s o.procs.length) (n.procs.getD i ac).name) ((n.procs.getD i ac).mems.getD j au)) k))]] ([(⟨tab (fun j => eD (ah ba (bc o s o.procs.length) (n.procs.getD i ac).name) ((n.procs.getD i ac).regs.getD j aC)) j,tab (fun j => fD (ah ba (bc o s o.procs.length) (n.procs.getD i ac).name) ((n.procs.getD i ac).mems.getD j au)) k⟩ : Ps)].map a9)∧((tab (d7 o n s) i).length + ([(⟨tab (fun j => eD (ah ba (bc o s o.procs.length) (n.procs.getD i ac).name) ((n.procs.getD i ac).regs.getD j aC)) j,tab (fun j => fD (ah ba (bc o s o.procs.length) (n.procs.getD i ac).name) ((n.procs.getD i ac).mems.getD j au)) k⟩ : Ps)].map a9).length ≤ 137438953472∧(tab (d7 o n s) i).map a9 ++ [(⟨tab (fun j => eD (ah ba (bc o s o.procs.length) (n.procs.getD i ac).name) ((n.procs.getD i ac).regs.getD j aC)) j,tab (fun j => fD (ah ba (bc o s o.procs.length) (n.procs.getD i ac).name) ((n.procs.getD i ac).mems.getD j au)) k⟩ : Ps)].map a9 = (tab (d7 o n s) (i + 1)).map a9)∧TT 2 (W6 ((i + 1 : Nat) : Int)∧TT 1 (AG (j9 o n s) i (i + 1)))))))))))))) (TT 4 (GO (da o n s i) 0 (∀ m,(da o n s i).inv m → TT 1 (CD ((m : Int) < (n.chans.length : Int)) (IX (m : Int) n.chans.length∧TT 7 (((cu (i6 0) (fC false ((aa .i64) 0)))∧(false = false → ∀ p ∈ (b4 [] (bk o) o.chans.length),((aa .i64) p.2).length = 1))∧TT 5 (CS ((aV (b4 [] (bk o) o.chans.length) ((n.chans.getD m ax).name)) = true) (TT 1 ((True∧(aV (b4 [] (bk o) o.chans.length) ((n.chans.getD m ax).name)) = true)∧TT 3 (CC (KS (a4 o n o.chans.length) ((n.chans.getD m ax).name))∧TT 2 (CB (!(p7 (a4 o n o.chans.length) ((n.chans.getD m ax).name))) (TT 3 (IX (ah 0 (b4 [] (bk o) o.chans.length) ((n.chans.getD m ax).name)) s.chans.length∧TT 1 (CO (KQ (s.chans.getD ((ah 0 (b4 [] (bk o) o.chans.length) ((n.chans.getD m ax).name)).toNat) []))∧TT 1 (CS (((n.chans.getD m ax).cap) > 0) (TT 3 ((True∧(decide (((n.chans.getD m ax).cap) > 0)) = true)∧TT 6 (CD ((((s.chans.getD ((ah 0 (b4 [] (bk o) o.chans.length) ((n.chans.getD m ax).name)).toNat) []).length : Nat) : Int) > ((n.chans.getD m ax).cap)) (TT 5 (((((aq o n s).1).procs) = []∧(((aq o n s).1).chans) = []∧True)∧(150 : Int) = ((aq o n s).2)∧True)) (TT 3 (ai [[(LI (s.chans.getD ((ah 0 (b4 [] (bk o) o.chans.length) ((n.chans.getD m ax).name)).toNat) []))]] ([(s.chans.getD ((ah 0 (b4 [] (bk o) o.chans.length) ((n.chans.getD m ax).name)).toNat) [])].map ab)∧((tab (cT o n s) m).length + ([(s.chans.getD ((ah 0 (b4 [] (bk o) o.chans.length) ((n.chans.getD m ax).name)).toNat) [])].map ab).length ≤ 137438953472∧(tab (cT o n s) m).map ab ++ [(s.chans.getD ((ah 0 (b4 [] (bk o) o.chans.length) ((n.chans.getD m ax).name)).toNat) [])].map ab = (tab (cT o n s) (m + 1)).map ab)∧TT 2 (W6 ((m + 1 : Nat) : Int)∧TT 1 (AG (da o n s i) m (m + 1)))))))) (TT 3 ((True∧(decide (((n.chans.getD m ax).cap) > 0)) = false)∧TT 9 (ai [[(LI (s.chans.getD ((ah 0 (b4 [] (bk o) o.chans.length) ((n.chans.getD m ax).name)).toNat) []))]] ([(s.chans.getD ((ah 0 (b4 [] (bk o) o.chans.length) ((n.chans.getD m ax).name)).toNat) [])].map ab)∧((tab (cT o n s) m).length + ([(s.chans.getD ((ah 0 (b4 [] (bk o) o.chans.length) ((n.chans.getD m ax).name)).toNat) [])].map ab).length ≤ 137438953472∧(tab (cT o n s) m).map ab ++ [(s.chans.getD ((ah 0 (b4 [] (bk o) o.chans.length) ((n.chans.getD m ax).name)).toNat) [])].map ab = (tab (cT o n s) (m + 1)).map ab)∧TT 2 (W6 ((m + 1 : Nat) : Int)∧TT 1 (AG (da o n s i) m (m + 1)))))))))) (CS (((n.chans.getD m ax).cap) > 0) (TT 3 ((True∧(decide (((n.chans.getD m ax).cap) > 0)) = true)∧TT 6 (CD ((0 : Int) > ((n.chans.getD m ax).cap)) (TT 5 (((((aq o n s).1).procs) = []∧(((aq o n s).1).chans) = []∧True)∧(150 : Int) = ((aq o n s).2)∧True)) (TT 3 (ai [[.nils]] ([[]].map ab)∧((tab (cT o n s) m).length + ([[]].map ab).length ≤ 137438953472∧(tab (cT o n s) m).map ab ++ [[]].map ab = (tab (cT o n s) (m + 1)).map ab)∧TT 2 (W6 ((m + 1 : Nat) : Int)∧TT 1 (AG (da o n s i) m (m + 1)))))))) (TT 3 ((True∧(decide (((n.chans.getD m ax).cap) > 0)) = false)∧TT 9 (ai [[.nils]] ([[]].map ab)∧((tab (cT o n s) m).length + ([[]].map ab).length ≤ 137438953472∧(tab (cT o n s) m).map ab ++ [[]].map ab = (tab (cT o n s) (m + 1)).map ab)∧TT 2 (W6 ((m + 1 : Nat) : Int)∧TT 1 (AG (da o n s i) m (m + 1))))))))))) (TT 1 ((True∧(aV (b4 [] (bk o) o.chans.length) ((n.chans.getD m ax).name)) = false)∧TT 6 (CS (((n.chans.getD m ax).cap) > 0) (TT 3 ((True∧(decide (((n.chans.getD m ax).cap) > 0)) = true)∧TT 6 (CD ((0 : Int) > ((n.chans.getD m ax).cap)) (TT 5 (((((aq o n s).1).procs) = []∧(((aq o n s).1).chans) = []∧True)∧(150 : Int) = ((aq o n s).2)∧True)) (TT 3 (ai [[.nils]] ([[]].map ab)∧((tab (cT o n s) m).length + ([[]].map ab).length ≤ 137438953472∧(tab (cT o n s) m).map ab ++ [[]].map ab = (tab (cT o n s) (m + 1)).map ab)∧TT 2 (W6 ((m + 1 : Nat) : Int)∧TT 1 (AG (da o n s i) m (m + 1)))))))) (TT 3 ((True∧(decide (((n.chans.getD m ax).cap) > 0)) = false)∧TT 9 (ai [[.nils]] ([[]].map ab)∧((tab (cT o n s) m).length + ([[]].map ab).length ≤ 137438953472∧(tab (cT o n s) m).map ab ++ [[]].map ab = (tab (cT o n s) (m + 1)).map ab)∧TT 2 (W6 ((m + 1 : Nat) : Int)∧TT 1 (AG (da o n s i) m (m + 1)))))))))))) (TT 5 (((tab (d7 o n s) i).map a9 = (((aq o n s).1).procs).map a9∧(tab (cT o n s) m).map ab = (((aq o n s).1).chans).map ab∧True)∧(0 : Int) = ((aq o n s).2)∧True))))))))))))))))) (.w 1 [(2,(E5 o n).O),(4,(HI o).O)] <| .l (j8 o n s) 0 (fun q => .b 35 (.b 46 (.e) (.w 7 [(0,.val (i6 ((q + 1 : Nat) : Int)))] <| .e)) (.w 9 [(2,(KI o s).O)] <| .g 10 11 0 74 2 a9 aX <| .l (j9 o n s) 0 (fun i => .b 56 (.g 15 14 0 3 1 (aa .i64) 0 <| .g 15 14 1 54 1 ab [] <| .l (ka o n s i) 0 (fun j => .b 67 (.w 18 [(4,(KL (ah ba (bc o s o.procs.length) ((n.procs.getD i ac).name)) (((n.procs.getD i ac).regs).getD j aC)).O),(5,.box 3 1 (aa .i64) 0 [eD (ah ba (bc o s o.procs.length) ((n.procs.getD i ac).name)) (((n.procs.getD i ac).regs).getD j aC)]),(6,.box 3 1 (aa .i64) 0 (tab (fun j => eD (ah ba (bc o s o.procs.length) (n.procs.getD i ac).name) ((n.procs.getD i ac).regs.getD j aC)) (j + 1)))] <| .w 19 [(0,.val (i6 ((j + 1 : Nat) : Int)))] <| .e) (.l (kb o n s i j) 0 (fun k => .b 83 (.w 23 [(4,(KM (ah ba (bc o s o.procs.length) ((n.procs.getD i ac).name)) (((n.procs.getD i ac).mems).getD k au)).O),(5,.box 54 1 ab [] [fD (ah ba (bc o s o.procs.length) ((n.procs.getD i ac).name)) (((n.procs.getD i ac).mems).getD k au)]),(6,.box 54 1 ab [] (tab (fun j => fD (ah ba (bc o s o.procs.length) (n.procs.getD i ac).name) ((n.procs.getD i ac).mems.getD j au)) (k + 1)))] <| .w 24 [(0,.val (i6 ((k + 1 : Nat) : Int)))] <| .e) (.f 25 16 <| .f 25 17 <| .w 25 [(3,.box 74 2 a9 aX [(⟨tab (fun j => eD (ah ba (bc o s o.procs.length) (n.procs.getD i ac).name) ((n.procs.getD i ac).regs.getD j aC)) j,tab (fun j => fD (ah ba (bc o s o.procs.length) (n.procs.getD i ac).name) ((n.procs.getD i ac).mems.getD j au)) k⟩ : Ps)]),(4,.box 74 2 a9 aX (tab (d7 o n s) (i + 1)))] <| .w 26 [(0,.val (i6 ((i + 1 : Nat) : Int)))] <| .e))))) (.g 27 11 1 54 1 ab [] <| .l (da o n s i) 0 (fun m => .b 106 (.s 32 ((aV (b4 [] (bk o) o.chans.length) ((n.chans.getD m ax).name)) = true) (.w 32 [(1,.val (dB true)),(5,(KS (a4 o n o.chans.length) ((n.chans.getD m ax).name)).O)] <| .b 123 (.w 33 [(5,(KQ (s.chans.getD ((ah 0 (b4 [] (bk o) o.chans.length) ((n.chans.getD m ax).name)).toNat) [])).O)] <| .s 34 (((n.chans.getD m ax).cap) > 0) (.w 34 [(3,.val (dB true))] <| .b 139 (.e) (.f 36 15 <| .w 36 [(3,.box 54 1 ab [] [(s.chans.getD ((ah 0 (b4 [] (bk o) o.chans.length) ((n.chans.getD m ax).name)).toNat) [])]),(4,.box 54 1 ab [] (tab (cT o n s) (m + 1)))] <| .w 37 [(0,.val (i6 ((m + 1 : Nat) : Int)))] <| .e)) (.w 34 [(3,.val (dB false))] <| .f 36 15 <| .w 36 [(3,.box 54 1 ab [] [(s.chans.getD ((ah 0 (b4 [] (bk o) o.chans.length) ((n.chans.getD m ax).name)).toNat) [])]),(4,.box 54 1 ab [] (tab (cT o n s) (m + 1)))] <| .w 37 [(0,.val (i6 ((m + 1 : Nat) : Int)))] <| .e)) (.s 34 (((n.chans.getD m ax).cap) > 0) (.w 34 [(3,.val (dB true))] <| .b 139 (.e) (.w 36 [(3,.box 54 1 ab [] [[]]),(4,.box 54 1 ab [] (tab (cT o n s) (m + 1)))] <| .w 37 [(0,.val (i6 ((m + 1 : Nat) : Int)))] <| .e)) (.w 34 [(3,.val (dB false))] <| .w 36 [(3,.box 54 1 ab [] [[]]),(4,.box 54 1 ab [] (tab (cT o n s) (m + 1)))] <| .w 37 [(0,.val (i6 ((m + 1 : Nat) : Int)))] <| .e))) (.w 32 [(1,.val (dB false))] <| .s 34 (((n.chans.getD m ax).cap) > 0) (.w 34 [(3,.val (dB true))] <| .b 139 (.e) (.w 36 [(3,.box 54 1 ab [] [[]]),(4,.box 54 1 ab [] (tab (cT o n s) (m + 1)))] <| .w 37 [(0,.val (i6 ((m + 1 : Nat) : Int)))] <| .e)) (.w 34 [(3,.val (dB false))] <| .w 36 [(3,.box 54 1 ab [] [[]]),(4,.box 54 1 ab [] (tab (cT o n s) (m + 1)))] <| .w 37 [(0,.val (i6 ((m + 1 : Nat) : Int)))] <| .e))) (.e))))))) Try.func33 rfl rfl rfl (by kernel_rfl) ?_
 refine tt ⟨(lL o n hol hnl),tt ⟨(nk o (by omega)),tt ⟨rfl,⟨by omega,fun z hz => by omega⟩,?_⟩⟩⟩
 intro q hinv
 obtain ⟨hq,hgb⟩ := hinv
 refine tt (cd (fun hc35 => ?_) (fun hc35 => ?_))
 · refine ⟨ix,?_⟩
   have hxl := G3 (f := bk o) (k := (a4 o n o.chans.length).getD q .empty) o.chans.length (by omega)
   refine tt ⟨⟨(cu.refl _),(fun _ _ _ => rfl)⟩,⟨ix,tt (cd (fun hc46 => ?_) (fun hc46 => ?_))⟩⟩
   · have hb0 : 0 < (s.chans.getD (ah 0 (b4 [] (bk o) o.chans.length) ((a4 o n o.chans.length).getD q .empty)).toNat []).length := by omega
     have hbad : aq o n s = (⟨[],[]⟩,150) := yC (k := q) (by show q < (a4 o n o.chans.length).length; omega) (decide_eq_true hb0)
     refine tt ⟨⟨?_,?_,oK⟩,?_,oK⟩
     all_goals (all_goals (first | (rw [hbad]; done) | (rw [hbad]) | (rw [hgood,hie]; done) | (rw [hgood,hme]; done) | (rw [hgood]; done) | (rw [hgood,hie]) | (rw [hgood,hme]) | (rw [hgood])))
   · have hb1 : ¬0 < (s.chans.getD (ah 0 (b4 [] (bk o) o.chans.length) ((a4 o n o.chans.length).getD q .empty)).toNat []).length := by omega
     refine ⟨w6,tt ⟨(q + 1),rfl,?_,(?_ : (a4 o n o.chans.length).length - (q + 1) < (a4 o n o.chans.length).length - q)⟩⟩
     · exact ⟨by omega,aR hgb (decide_eq_false hb1)⟩
     · omega
 · have hgn : ∀ z,z < (eX o n).length → ga o n s z = false := fun z hz => hgb z (by have : (eX o n).length = (a4 o n o.chans.length).length := rfl; omega)
   refine tt ⟨(BC o s (by omega) hsl (fun i hi => by have := h.orr i hi; omega)),tt ⟨rfl,(by omega),?_⟩⟩
   intro i hinv
   have hi := hinv
   refine tt (cd (fun hc56 => ?_) (fun hc56 => ?_))
   · refine ⟨ix,tt ⟨⟨DI,(fun h => Bool.noConfusion h)⟩,?_⟩⟩
     have hnr := h.nr i (by omega)
     have hFr := DM h.sr (n.procs.getD i ac).name
     have hFm := DN h.sm (n.procs.getD i ac).name
     refine tt ⟨rfl,(by omega),?_⟩
     intro j hinv
     have hj := hinv
     refine tt (cd (fun hc67 => ?_) (fun hc67 => ?_))
     · refine ⟨ix,?_⟩
       have hrk := h.rk i (by omega) j (by omega)
       refine tt ⟨(HL (ah ba (bc o s o.procs.length) ((n.procs.getD i ac).name)) (((n.procs.getD i ac).regs).getD j aC) hrk (hFr _)),⟨⟨⟨rfl,oK⟩,oK⟩,⟨(aJ (by omega) rfl),tt ⟨w6,tt ⟨(j + 1),rfl,(?_ : (j + 1) ≤ (n.procs.getD i ac).regs.length),(?_ : (n.procs.getD i ac).regs.length - (j + 1) < (n.procs.getD i ac).regs.length - j)⟩⟩⟩⟩⟩
       · omega
       · omega
     · have hje : j = (n.procs.getD i ac).regs.length := by omega
       refine tt ⟨rfl,(by omega),?_⟩
       intro k hinv
       have hk := hinv
       refine tt (cd (fun hc83 => ?_) (fun hc83 => ?_))
       · refine ⟨ix,?_⟩
         have hmk := h.mk' i (by omega) k (by omega)
         refine tt ⟨(HM (ah ba (bc o s o.procs.length) ((n.procs.getD i ac).name)) (((n.procs.getD i ac).mems).getD k au) hmk.1 hmk.2 (hFm _)),⟨⟨⟨rfl,oK⟩,oK⟩,⟨(aJ (by omega) rfl),tt ⟨w6,tt ⟨(k + 1),rfl,(?_ : (k + 1) ≤ (n.procs.getD i ac).mems.length),(?_ : (n.procs.getD i ac).mems.length - (k + 1) < (n.procs.getD i ac).mems.length - k)⟩⟩⟩⟩⟩
         · omega
         · omega
       · have hke : k = (n.procs.getD i ac).mems.length := by omega
         refine tt ⟨⟨⟨rfl,rfl,oK⟩,oK⟩,⟨(aJ (by omega) (by rw [hje,hke]; rfl)),tt ⟨w6,tt ⟨(i + 1),rfl,(?_ : (i + 1) ≤ n.procs.length),(?_ : n.procs.length - (i + 1) < n.procs.length - i)⟩⟩⟩⟩
         · omega
         · omega
   · have hie : i = n.procs.length := by omega
     refine tt ⟨rfl,⟨by omega,fun z hz => by omega⟩,?_⟩
     intro m hinv
     obtain ⟨hm,hcb⟩ := hinv
     refine tt (cd (fun hc106 => ?_) (fun hc106 => ?_))
     · refine ⟨ix,?_⟩
       have hnm : bk n m = (n.chans.getD m ax).name := rfl
       refine tt ⟨⟨(cu.refl _),(fun _ _ _ => rfl)⟩,tt ⟨fun hs0 => ?_,fun hs0 => ?_⟩⟩
       · have hxi : 0 ≤ ah 0 (b4 [] (bk o) o.chans.length) (n.chans.getD m ax).name∧ah 0 (b4 [] (bk o) o.chans.length) (n.chans.getD m ax).name < (o.chans.length : Int) := t3 (f := bk o) o.chans.length (by assumption)
         refine tt ⟨(bT hs0),tt ⟨(HO (a4 o n o.chans.length) ((n.chans.getD m ax).name) om),tt ⟨fun hc123 => ?_,fun hc123 => ?_⟩⟩⟩
         · have hW : cT o n s m = s.chans.getD (ah 0 (b4 [] (bk o) o.chans.length) (n.chans.getD m ax).name).toNat [] := by unfold cT DK eX jv; rw [hnm]; exact if_pos (by simp_all)
           refine tt ⟨ix,tt ⟨(BF (s.chans.getD ((ah 0 (b4 [] (bk o) o.chans.length) ((n.chans.getD m ax).name)).toNat) []) (Nat.le_trans (h.sw _) (by decide))),tt ⟨fun hs1 => ?_,fun hs1 => ?_⟩⟩⟩
           · refine tt ⟨(vT hs1),tt (cd (fun hc139 => ?_) (fun hc139 => ?_))⟩
             · have hbad : aq o n s = (⟨[],[]⟩,150) := ns (i := m) (by omega) (by unfold b7; rw [hW]; simp only [Bool.and_eq_true,decide_eq_true_eq,List.length_nil]; omega)
               refine tt ⟨⟨?_,?_,oK⟩,?_,oK⟩
               all_goals (all_goals (first | (rw [hbad]; done) | (rw [hbad]) | (rw [hgood,hie]; done) | (rw [hgood,hme]; done) | (rw [hgood]; done) | (rw [hgood,hie]) | (rw [hgood,hme]) | (rw [hgood])))
             · have hcap : b7 o n s m = false := by unfold b7; rw [hW]; simp only [Bool.and_eq_false_iff,decide_eq_false_iff_not,List.length_nil]; omega
               refine tt ⟨⟨⟨rfl,oK⟩,oK⟩,⟨(aJ (by omega) hW.symm),tt ⟨w6,tt ⟨(m + 1),rfl,?_,(?_ : n.chans.length - (m + 1) < n.chans.length - m)⟩⟩⟩⟩
               · exact ⟨by omega,aR hcb hcap⟩
               · omega
           · refine tt ⟨(vF hs1),?_⟩
             have hcap : b7 o n s m = false := by unfold b7; rw [hW]; simp only [Bool.and_eq_false_iff,decide_eq_false_iff_not,List.length_nil]; omega
             refine tt ⟨⟨⟨rfl,oK⟩,oK⟩,⟨(aJ (by omega) hW.symm),tt ⟨w6,tt ⟨(m + 1),rfl,?_,(?_ : n.chans.length - (m + 1) < n.chans.length - m)⟩⟩⟩⟩
             · exact ⟨by omega,aR hcb hcap⟩
             · omega
         · have hW : cT o n s m = [] := by unfold cT DK eX jv; rw [hnm]; exact if_neg (by simp_all)
           refine ⟨fun hs2 => ?_,fun hs2 => ?_⟩
           · refine tt ⟨(vT hs2),tt (cd (fun hc139 => ?_) (fun hc139 => ?_))⟩
             · have hbad : aq o n s = (⟨[],[]⟩,150) := ns (i := m) (by omega) (by unfold b7; rw [hW]; simp only [Bool.and_eq_true,decide_eq_true_eq,List.length_nil]; omega)
               refine tt ⟨⟨?_,?_,oK⟩,?_,oK⟩
               all_goals (all_goals (first | (rw [hbad]; done) | (rw [hbad]) | (rw [hgood,hie]; done) | (rw [hgood,hme]; done) | (rw [hgood]; done) | (rw [hgood,hie]) | (rw [hgood,hme]) | (rw [hgood])))
             · have hcap : b7 o n s m = false := by unfold b7; rw [hW]; simp only [Bool.and_eq_false_iff,decide_eq_false_iff_not,List.length_nil]; omega
               refine tt ⟨⟨⟨rfl,oK⟩,oK⟩,⟨(aJ (by omega) hW.symm),tt ⟨w6,tt ⟨(m + 1),rfl,?_,(?_ : n.chans.length - (m + 1) < n.chans.length - m)⟩⟩⟩⟩
               · exact ⟨by omega,aR hcb hcap⟩
               · omega
           · refine tt ⟨(vF hs2),?_⟩
             have hcap : b7 o n s m = false := by unfold b7; rw [hW]; simp only [Bool.and_eq_false_iff,decide_eq_false_iff_not,List.length_nil]; omega
             refine tt ⟨⟨⟨rfl,oK⟩,oK⟩,⟨(aJ (by omega) hW.symm),tt ⟨w6,tt ⟨(m + 1),rfl,?_,(?_ : n.chans.length - (m + 1) < n.chans.length - m)⟩⟩⟩⟩
             · exact ⟨by omega,aR hcb hcap⟩
             · omega
       · have hW : cT o n s m = [] := by unfold cT DK eX jv; rw [hnm]; exact if_neg (by simp_all)
         refine tt ⟨(bF hs0),tt ⟨fun hs3 => ?_,fun hs3 => ?_⟩⟩
         · refine tt ⟨(vT hs3),tt (cd (fun hc139 => ?_) (fun hc139 => ?_))⟩
           · have hbad : aq o n s = (⟨[],[]⟩,150) := ns (i := m) (by omega) (by unfold b7; rw [hW]; simp only [Bool.and_eq_true,decide_eq_true_eq,List.length_nil]; omega)
             refine tt ⟨⟨?_,?_,oK⟩,?_,oK⟩
             all_goals (all_goals (first | (rw [hbad]; done) | (rw [hbad]) | (rw [hgood,hie]; done) | (rw [hgood,hme]; done) | (rw [hgood]; done) | (rw [hgood,hie]) | (rw [hgood,hme]) | (rw [hgood])))
           · have hcap : b7 o n s m = false := by unfold b7; rw [hW]; simp only [Bool.and_eq_false_iff,decide_eq_false_iff_not,List.length_nil]; omega
             refine tt ⟨⟨⟨rfl,oK⟩,oK⟩,⟨(aJ (by omega) hW.symm),tt ⟨w6,tt ⟨(m + 1),rfl,?_,(?_ : n.chans.length - (m + 1) < n.chans.length - m)⟩⟩⟩⟩
             · exact ⟨by omega,aR hcb hcap⟩
             · omega
         · refine tt ⟨(vF hs3),?_⟩
           have hcap : b7 o n s m = false := by unfold b7; rw [hW]; simp only [Bool.and_eq_false_iff,decide_eq_false_iff_not,List.length_nil]; omega
           refine tt ⟨⟨⟨rfl,oK⟩,oK⟩,⟨(aJ (by omega) hW.symm),tt ⟨w6,tt ⟨(m + 1),rfl,?_,(?_ : n.chans.length - (m + 1) < n.chans.length - m)⟩⟩⟩⟩
           · exact ⟨by omega,aR hcb hcap⟩
           · omega
     · have hme : m = n.chans.length := by omega
       have hgood := DL hgn (fun z hz => hcb z (by omega))
       refine tt ⟨⟨(congrArg _ (?_ : (tab (d7 o n s) i) = (((aq o n s).1).procs))),(congrArg _ (?_ : (tab (cT o n s) m) = (((aq o n s).1).chans))),oK⟩,?_,oK⟩
       all_goals (all_goals (first | (rw [hbad]; done) | (rw [hbad]) | (rw [hgood,hie]; done) | (rw [hgood,hme]; done) | (rw [hgood]; done) | (rw [hgood,hie]) | (rw [hgood,hme]) | (rw [hgood])))
end Go.Proofs.Ytnlmlkbaflmgcaa
