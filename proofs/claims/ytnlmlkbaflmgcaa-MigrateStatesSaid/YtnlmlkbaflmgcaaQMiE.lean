/-
  Package migrate: carried states.
-/
import Derived.Test.YtnlmlkbaflmgcaaQMiD
import Derived.Test.YtnlmlkbaflmgcaaQMiR
import Derived.Test.YtnlmlkbaflmgcaaQNeE
namespace Go.Proofs.Ytnlmlkbaflmgcaa
open Go.RowKit
set_option linter.unusedVariables false
set_option linter.unusedSimpArgs false
abbrev wZ (s : Ns) : aC := (.var 35 [(dL 2 bg aZ s.procs),(dL 1 ac [] s.chans)])
abbrev w3 (o : Ci) : aC := (.var 31 [(dL 6 bn af o.procs),(dL 5 bD ax o.chans)])
abbrev w4 (n : Ci) : aC := (.var 31 [(dL 6 bn af n.procs),(dL 5 bD ax n.chans)])
abbrev t5 (o n : Ci) : D := (dL 1 cD .empty (aK o n o.chans.length))
set_option maxRecDepth 100000
abbrev Kp (l : List ByteArray) (b : ByteArray) : Ct := ⟨84,[(dL 1 cD .empty l),(dS b)],false,(i6 (Jg l b))⟩
abbrev vB (l : List ByteArray) (b : ByteArray) : Lp (Nat) := gZ [0,1,7,8] 0 (fun (i : Nat) => ⟨[(0,(dL 1 cD .empty l)),(1,(dS b)),(7,(i6 (l.length : Int))),(8,(i6 (i : Int)))],[]⟩) (fun (i : Nat) => i ≤ l.length∧∀ z,z < i → (b.toList == (l.getD z .empty).toList) = false) (fun (i : Nat) => l.length - i)
theorem HG (l : List ByteArray) (b : ByteArray) (hl : l.length ≤ 9223372036854775807) : CC (Kp l b) := by
 refine ap.vc (V := TT 4 (GO (vB l b) 0 (∀ i,(vB l b).inv i → TT 1 (CD ((i : Int) < (l.length : Int)) (TT 5 (IX (i : Int) l.length∧TT 2 (CB (b.toList == (l.getD i .empty).toList) (TT 3 ((i : Int) = (Jg l b)∧True)) (W6 ((i + 1 : Nat) : Int)∧TT 1 (AG (vB l b) i (i + 1)))))) (TT 2 ((-1) = (Jg l b)∧True)))))) (.l (vB l b) 0 (fun i => .b 9 (.b 16 (.e) (.w 6 [(0,.val (i6 ((i + 1 : Nat) : Int)))] <| .e)) (.e))) Try.func84 rfl rfl rfl (by kernel_rfl) ?_
 refine tt ⟨rfl,⟨by omega,fun z hz => by omega⟩,?_⟩
 intro i hinv
 obtain ⟨hi,h3⟩ := hinv
 refine tt (cd (fun hc9 => ?_) (fun hc9 => ?_))
 · refine tt ⟨ix,tt ⟨fun hc16 => ?_,fun hc16 => ?_⟩⟩
   · refine tt ⟨?_,oK⟩
     first | exact (cC (f := fun i => b.toList == (l.getD i .empty).toList) hc16 h3 (by omega)).symm | exact (dT (f := fun i => b.toList == (l.getD i .empty).toList) (fun z hz => h3 z (by omega))).symm
   · refine ⟨w6,tt ⟨(i + 1),rfl,?_,(?_ : l.length - (i + 1) < l.length - i)⟩⟩
     · exact ⟨by omega,bf h3 hc16⟩
     · omega
 · refine tt ⟨?_,oK⟩
   first | exact (cC (f := fun i => b.toList == (l.getD i .empty).toList) hc16 h3 (by omega)).symm | exact (dT (f := fun i => b.toList == (l.getD i .empty).toList) (fun z hz => h3 z (by omega))).symm
abbrev Kq (l : List ByteArray) (b : ByteArray) : Ct := ⟨62,[(dL 1 cD .empty l),(dS b)],false,(dB (B1 l b))⟩
theorem HH (l : List ByteArray) (b : ByteArray) (hl : l.length ≤ 9223372036854775807) : CC (Kq l b) := by
 refine ap.vc (V := TT 3 (CC (Kp l b)∧TT 3 ((decide ((Jg l b) ≥ 0)) = (B1 l b)∧True))) (.w 1 [(2,(Kp l b).O)] <| .e) Try.func62 rfl rfl rfl (by kernel_rfl) ?_
 refine tt ⟨(HG l b om),tt ⟨?_,oK⟩⟩
 first | exact z6 l b | (rw [← z6]; rfl)
abbrev Kr (o n : Ci) (s : Ns) : Ct := ⟨33,[(.agg [(dL 6 bn af o.procs),(dL 5 bD ax o.chans)]),(.agg [(dL 6 bn af n.procs),(dL 5 bD ax n.chans)]),(.agg [(dL 2 bg aZ s.procs),(dL 1 ac [] s.chans)])],true,(.tup [(.agg [(dL 2 bg aZ (((ae o n s).1).procs)),(dL 1 ac [] (((ae o n s).1).chans))]),(i6 ((ae o n s).2))])⟩
abbrev jR (o : Ci) (n : Ci) (s : Ns) : Lp (Nat) := gZ [3,4,5,6,8,9,32,33,34] 11 (fun (q : Nat) => ⟨[(3,(.ptr 0 0 0 0)),(4,(.ptr 1 0 0 0)),(5,(.ptr 2 0 0 0)),(6,(.ptr 3 0 0 0)),(8,(t5 o n)),(9,(.v (.sm false (aa .i64) 0 (bW [] (a6 o) o.chans.length)))),(32,(t5 o n)),(33,(i6 (((aK o n o.chans.length).length : Nat) : Int))),(34,(i6 (q : Int)))],[(w3 o),(w4 n),(wZ s),(.var 35 [.nils,.nils]),.dead,.dead,.dead,.dead,.dead,.dead,.dead]⟩) (fun (q : Nat) => q ≤ (aK o n o.chans.length).length∧∀ z,z < q → fK o n s z = false) (fun (q : Nat) => (aK o n o.chans.length).length - q)
abbrev jS (o : Ci) (n : Ci) (s : Ns) : Lp (Nat) := gZ [4,5,6,8,9,12,13,53,54,55] 13 (fun (i : Nat) => ⟨[(4,(.ptr 1 0 0 0)),(5,(.ptr 2 0 0 0)),(6,(.ptr 3 0 0 0)),(8,(t5 o n)),(9,(.v (.sm false (aa .i64) 0 (bW [] (a6 o) o.chans.length)))),(12,(.ptr 11 0 0 0)),(13,(.v (.sm true kF ba (bc o s o.procs.length)))),(53,(dL 6 bn af n.procs)),(54,(i6 (n.procs.length : Int))),(55,(i6 (i : Int)))],[(w3 o),(w4 n),(wZ s),(.var 35 [.nils,.nils]),.dead,.dead,.dead,.dead,.dead,.dead,.dead,(.var 35 [(.own 12),.nils]),(.arr 74 2 bg aZ (tab (cO o n s) i))]⟩) (fun (i : Nat) => i ≤ n.procs.length) (fun (i : Nat) => n.procs.length - i)
abbrev jT (o : Ci) (n : Ci) (s : Ns) (i : Nat) : Lp (Nat) := gZ [4,5,6,8,9,12,13,15,16,17,53,54,55,64,65,66] 18 (fun (j : Nat) => ⟨[(4,(.ptr 1 0 0 0)),(5,(.ptr 2 0 0 0)),(6,(.ptr 3 0 0 0)),(8,(t5 o n)),(9,(.v (.sm false (aa .i64) 0 (bW [] (a6 o) o.chans.length)))),(12,(.ptr 11 0 0 0)),(13,(.v (.sm true kF ba (bc o s o.procs.length)))),(15,(.ptr 13 0 0 0)),(16,(.ptr 14 0 0 0)),(17,(.ptr 15 0 0 0)),(53,(dL 6 bn af n.procs)),(54,(i6 (n.procs.length : Int))),(55,(i6 (i : Int))),(64,(dL 13 bM aO ((n.procs.getD i af).regs))),(65,(i6 ((((n.procs.getD i af).regs).length : Nat) : Int))),(66,(i6 (j : Int)))],[(w3 o),(w4 n),(wZ s),(.var 35 [.nils,.nils]),.dead,.dead,.dead,.dead,.dead,.dead,.dead,(.var 35 [(.own 12),.nils]),(.arr 74 2 bg aZ (tab (cO o n s) i)),(.var 80 [(dS ((n.procs.getD i af).name)),(dS ((n.procs.getD i af).clock)),(dL 13 bM aO ((n.procs.getD i af).regs)),(dL 27 cj aB ((n.procs.getD i af).mems)),(dL 9 dJ bO ((n.procs.getD i af).takes)),(dL 16 dD bV ((n.procs.getD i af).puts))]),(.var 74 [(.own 16),(.own 17)]),(.var 124 [(dS (((ah ba (bc o s o.procs.length) ((n.procs.getD i af).name)).p).name)),(dS (((ah ba (bc o s o.procs.length) ((n.procs.getD i af).name)).p).clock)),(dL 13 bM aO (((ah ba (bc o s o.procs.length) ((n.procs.getD i af).name)).p).regs)),(dL 27 cj aB (((ah ba (bc o s o.procs.length) ((n.procs.getD i af).name)).p).mems)),(dL 9 dJ bO (((ah ba (bc o s o.procs.length) ((n.procs.getD i af).name)).p).takes)),(dL 16 dD bV (((ah ba (bc o s o.procs.length) ((n.procs.getD i af).name)).p).puts)),(LI (((ah ba (bc o s o.procs.length) ((n.procs.getD i af).name)).s).regs)),(dL 1 ac [] (((ah ba (bc o s o.procs.length) ((n.procs.getD i af).name)).s).mems)),(.v (.sm false (aa .i64) 0 ((ah ba (bc o s o.procs.length) ((n.procs.getD i af).name)).regs))),(.v (.sm false (aa .i64) 0 ((ah ba (bc o s o.procs.length) ((n.procs.getD i af).name)).mems)))]),(.arr 3 1 (aa .i64) 0 (tab (fun j => eh (ah ba (bc o s o.procs.length) (n.procs.getD i af).name) ((n.procs.getD i af).regs.getD j aO)) j)),(.arr 54 1 ac [] [])]⟩) (fun (j : Nat) => j ≤ (n.procs.getD i af).regs.length) (fun (j : Nat) => (n.procs.getD i af).regs.length - j)
abbrev jU (o : Ci) (n : Ci) (s : Ns) (i : Nat) (j : Nat) : Lp (Nat) := gZ [4,5,6,8,9,12,13,16,17,53,54,55,80,81,82] 18 (fun (k : Nat) => ⟨[(4,(.ptr 1 0 0 0)),(5,(.ptr 2 0 0 0)),(6,(.ptr 3 0 0 0)),(8,(t5 o n)),(9,(.v (.sm false (aa .i64) 0 (bW [] (a6 o) o.chans.length)))),(12,(.ptr 11 0 0 0)),(13,(.v (.sm true kF ba (bc o s o.procs.length)))),(16,(.ptr 14 0 0 0)),(17,(.ptr 15 0 0 0)),(53,(dL 6 bn af n.procs)),(54,(i6 (n.procs.length : Int))),(55,(i6 (i : Int))),(80,(dL 27 cj aB ((n.procs.getD i af).mems))),(81,(i6 ((((n.procs.getD i af).mems).length : Nat) : Int))),(82,(i6 (k : Int)))],[(w3 o),(w4 n),(wZ s),(.var 35 [.nils,.nils]),.dead,.dead,.dead,.dead,.dead,.dead,.dead,(.var 35 [(.own 12),.nils]),(.arr 74 2 bg aZ (tab (cO o n s) i)),(.var 80 [(dS ((n.procs.getD i af).name)),(dS ((n.procs.getD i af).clock)),(dL 13 bM aO ((n.procs.getD i af).regs)),(dL 27 cj aB ((n.procs.getD i af).mems)),(dL 9 dJ bO ((n.procs.getD i af).takes)),(dL 16 dD bV ((n.procs.getD i af).puts))]),(.var 74 [(.own 16),(.own 17)]),(.var 124 [(dS (((ah ba (bc o s o.procs.length) ((n.procs.getD i af).name)).p).name)),(dS (((ah ba (bc o s o.procs.length) ((n.procs.getD i af).name)).p).clock)),(dL 13 bM aO (((ah ba (bc o s o.procs.length) ((n.procs.getD i af).name)).p).regs)),(dL 27 cj aB (((ah ba (bc o s o.procs.length) ((n.procs.getD i af).name)).p).mems)),(dL 9 dJ bO (((ah ba (bc o s o.procs.length) ((n.procs.getD i af).name)).p).takes)),(dL 16 dD bV (((ah ba (bc o s o.procs.length) ((n.procs.getD i af).name)).p).puts)),(LI (((ah ba (bc o s o.procs.length) ((n.procs.getD i af).name)).s).regs)),(dL 1 ac [] (((ah ba (bc o s o.procs.length) ((n.procs.getD i af).name)).s).mems)),(.v (.sm false (aa .i64) 0 ((ah ba (bc o s o.procs.length) ((n.procs.getD i af).name)).regs))),(.v (.sm false (aa .i64) 0 ((ah ba (bc o s o.procs.length) ((n.procs.getD i af).name)).mems)))]),(.arr 3 1 (aa .i64) 0 (tab (fun j => eh (ah ba (bc o s o.procs.length) (n.procs.getD i af).name) ((n.procs.getD i af).regs.getD j aO)) j)),(.arr 54 1 ac [] (tab (fun j => fp (ah ba (bc o s o.procs.length) (n.procs.getD i af).name) ((n.procs.getD i af).mems.getD j aB)) k))]⟩) (fun (k : Nat) => k ≤ (n.procs.getD i af).mems.length) (fun (k : Nat) => (n.procs.getD i af).mems.length - k)
abbrev cX (o : Ci) (n : Ci) (s : Ns) (i : Nat) : Lp (Nat) := gZ [5,6,8,9,12,103,104,105] 14 (fun (m : Nat) => ⟨[(5,(.ptr 2 0 0 0)),(6,(.ptr 3 0 0 0)),(8,(t5 o n)),(9,(.v (.sm false (aa .i64) 0 (bW [] (a6 o) o.chans.length)))),(12,(.ptr 11 0 0 0)),(103,(dL 5 bD ax n.chans)),(104,(i6 (n.chans.length : Int))),(105,(i6 (m : Int)))],[(w3 o),(w4 n),(wZ s),(.var 35 [.nils,.nils]),.dead,.dead,.dead,.dead,.dead,.dead,.dead,(.var 35 [(.own 12),(.own 13)]),(.arr 74 2 bg aZ (tab (cO o n s) i)),(.arr 54 1 ac [] (tab (bP o n s) m))]⟩) (fun (m : Nat) => m ≤ n.chans.length∧∀ z,z < m → bG o n s z = false) (fun (m : Nat) => n.chans.length - m)
theorem FP (o n : Ci) (s : Ns) (h : oi o n s) : CC (Kr o n s) := by
 have hol := h.ol
 have hnl := h.nl
 have hop := h.op
 have hnp := h.np
 have hsl := h.sl
 have hsc := h.sc
 have hgl : (aK o n o.chans.length).length ≤ o.chans.length := DF o n
 refine ap.vc (V := TT 7 (CC (EX o n)∧TT 1 (CC (Hx o)∧TT 5 (GO (jR o n s) 0 (∀ q,(jR o n s).inv q → TT 1 (CD ((q : Int) < (((aK o n o.chans.length).length : Nat) : Int)) (IX (q : Int) ((aK o n o.chans.length).length)∧TT 6 (((cg (i6 0) (fo false ((aa .i64) 0)))∧(false = false → ∀ p ∈ (bW [] (a6 o) o.chans.length),((aa .i64) p.2).length = 1))∧IX (ah 0 (bW [] (a6 o) o.chans.length) ((aK o n o.chans.length).getD q .empty)) s.chans.length∧TT 3 (CD ((((s.chans.getD ((ah 0 (bW [] (a6 o) o.chans.length) ((aK o n o.chans.length).getD q .empty)).toNat) []).length : Nat) : Int) > 0) (TT 5 (((((ae o n s).1).procs) = []∧(((ae o n s).1).chans) = []∧True)∧(150 : Int) = ((ae o n s).2)∧True)) (W6 ((q + 1 : Nat) : Int)∧TT 1 (AG (jR o n s) q (q + 1)))))) (TT 3 (CC (Ke o s)∧TT 5 (GO (jS o n s) 0 (∀ i,(jS o n s).inv i → TT 1 (CD ((i : Int) < (n.procs.length : Int)) (IX (i : Int) n.procs.length∧TT 7 (((cg (.agg [(dS e0),(dS e0),.nils,.nils,.nils,.nils,.nils,.nils,(.v .nmp),(.v .nmp)]) (fo true (kF ba)))∧(true = false → ∀ p ∈ (bc o s o.procs.length),(kF p.2).length = 1))∧TT 6 (GO (jT o n s i) 0 (∀ j,(jT o n s i).inv j → TT 1 (CD ((j : Int) < ((((n.procs.getD i af).regs).length : Nat) : Int)) (IX (j : Int) (((n.procs.getD i af).regs).length)∧TT 7 (CC (Kh (ah ba (bc o s o.procs.length) ((n.procs.getD i af).name)) (((n.procs.getD i af).regs).getD j aO))∧am [[(i6 (eh (ah ba (bc o s o.procs.length) ((n.procs.getD i af).name)) (((n.procs.getD i af).regs).getD j aO)))]] ([eh (ah ba (bc o s o.procs.length) ((n.procs.getD i af).name)) (((n.procs.getD i af).regs).getD j aO)].map (aa .i64))∧((tab (fun j => eh (ah ba (bc o s o.procs.length) (n.procs.getD i af).name) ((n.procs.getD i af).regs.getD j aO)) j).length + ([eh (ah ba (bc o s o.procs.length) ((n.procs.getD i af).name)) (((n.procs.getD i af).regs).getD j aO)].map (aa .i64)).length ≤ 137438953472∧(tab (fun j => eh (ah ba (bc o s o.procs.length) (n.procs.getD i af).name) ((n.procs.getD i af).regs.getD j aO)) j).map (aa .i64) ++ [eh (ah ba (bc o s o.procs.length) ((n.procs.getD i af).name)) (((n.procs.getD i af).regs).getD j aO)].map (aa .i64) = (tab (fun j => eh (ah ba (bc o s o.procs.length) (n.procs.getD i af).name) ((n.procs.getD i af).regs.getD j aO)) (j + 1)).map (aa .i64))∧TT 2 (W6 ((j + 1 : Nat) : Int)∧TT 1 (AG (jT o n s i) j (j + 1))))) (TT 4 (GO (jU o n s i j) 0 (∀ k,(jU o n s i j).inv k → TT 1 (CD ((k : Int) < ((((n.procs.getD i af).mems).length : Nat) : Int)) (IX (k : Int) (((n.procs.getD i af).mems).length)∧TT 7 (CC (Ki (ah ba (bc o s o.procs.length) ((n.procs.getD i af).name)) (((n.procs.getD i af).mems).getD k aB))∧am [[(LI (fp (ah ba (bc o s o.procs.length) ((n.procs.getD i af).name)) (((n.procs.getD i af).mems).getD k aB)))]] ([fp (ah ba (bc o s o.procs.length) ((n.procs.getD i af).name)) (((n.procs.getD i af).mems).getD k aB)].map ac)∧((tab (fun j => fp (ah ba (bc o s o.procs.length) (n.procs.getD i af).name) ((n.procs.getD i af).mems.getD j aB)) k).length + ([fp (ah ba (bc o s o.procs.length) ((n.procs.getD i af).name)) (((n.procs.getD i af).mems).getD k aB)].map ac).length ≤ 137438953472∧(tab (fun j => fp (ah ba (bc o s o.procs.length) (n.procs.getD i af).name) ((n.procs.getD i af).mems.getD j aB)) k).map ac ++ [fp (ah ba (bc o s o.procs.length) ((n.procs.getD i af).name)) (((n.procs.getD i af).mems).getD k aB)].map ac = (tab (fun j => fp (ah ba (bc o s o.procs.length) (n.procs.getD i af).name) ((n.procs.getD i af).mems.getD j aB)) (k + 1)).map ac)∧TT 2 (W6 ((k + 1 : Nat) : Int)∧TT 1 (AG (jU o n s i j) k (k + 1))))) (TT 3 (am [[(LI (tab (fun j => eh (ah ba (bc o s o.procs.length) (n.procs.getD i af).name) ((n.procs.getD i af).regs.getD j aO)) j)),(dL 1 ac [] (tab (fun j => fp (ah ba (bc o s o.procs.length) (n.procs.getD i af).name) ((n.procs.getD i af).mems.getD j aB)) k))]] ([(⟨tab (fun j => eh (ah ba (bc o s o.procs.length) (n.procs.getD i af).name) ((n.procs.getD i af).regs.getD j aO)) j,tab (fun j => fp (ah ba (bc o s o.procs.length) (n.procs.getD i af).name) ((n.procs.getD i af).mems.getD j aB)) k⟩ : Ps)].map bg)∧((tab (cO o n s) i).length + ([(⟨tab (fun j => eh (ah ba (bc o s o.procs.length) (n.procs.getD i af).name) ((n.procs.getD i af).regs.getD j aO)) j,tab (fun j => fp (ah ba (bc o s o.procs.length) (n.procs.getD i af).name) ((n.procs.getD i af).mems.getD j aB)) k⟩ : Ps)].map bg).length ≤ 137438953472∧(tab (cO o n s) i).map bg ++ [(⟨tab (fun j => eh (ah ba (bc o s o.procs.length) (n.procs.getD i af).name) ((n.procs.getD i af).regs.getD j aO)) j,tab (fun j => fp (ah ba (bc o s o.procs.length) (n.procs.getD i af).name) ((n.procs.getD i af).mems.getD j aB)) k⟩ : Ps)].map bg = (tab (cO o n s) (i + 1)).map bg)∧TT 2 (W6 ((i + 1 : Nat) : Int)∧TT 1 (AG (jS o n s) i (i + 1)))))))))))))) (TT 4 (GO (cX o n s i) 0 (∀ m,(cX o n s i).inv m → TT 1 (CD ((m : Int) < (n.chans.length : Int)) (IX (m : Int) n.chans.length∧TT 7 (((cg (i6 0) (fo false ((aa .i64) 0)))∧(false = false → ∀ p ∈ (bW [] (a6 o) o.chans.length),((aa .i64) p.2).length = 1))∧TT 5 (CS ((aW (bW [] (a6 o) o.chans.length) ((n.chans.getD m ax).name)) = true) (TT 1 ((True∧(aW (bW [] (a6 o) o.chans.length) ((n.chans.getD m ax).name)) = true)∧TT 3 (CC (Kq (aK o n o.chans.length) ((n.chans.getD m ax).name))∧TT 2 (CB (!(B1 (aK o n o.chans.length) ((n.chans.getD m ax).name))) (TT 3 (IX (ah 0 (bW [] (a6 o) o.chans.length) ((n.chans.getD m ax).name)) s.chans.length∧TT 1 (CO (Kn (s.chans.getD ((ah 0 (bW [] (a6 o) o.chans.length) ((n.chans.getD m ax).name)).toNat) []))∧TT 1 (CS (((n.chans.getD m ax).cap) > 0) (TT 3 ((True∧(decide (((n.chans.getD m ax).cap) > 0)) = true)∧TT 6 (CD ((((s.chans.getD ((ah 0 (bW [] (a6 o) o.chans.length) ((n.chans.getD m ax).name)).toNat) []).length : Nat) : Int) > ((n.chans.getD m ax).cap)) (TT 5 (((((ae o n s).1).procs) = []∧(((ae o n s).1).chans) = []∧True)∧(150 : Int) = ((ae o n s).2)∧True)) (TT 3 (am [[(LI (s.chans.getD ((ah 0 (bW [] (a6 o) o.chans.length) ((n.chans.getD m ax).name)).toNat) []))]] ([(s.chans.getD ((ah 0 (bW [] (a6 o) o.chans.length) ((n.chans.getD m ax).name)).toNat) [])].map ac)∧((tab (bP o n s) m).length + ([(s.chans.getD ((ah 0 (bW [] (a6 o) o.chans.length) ((n.chans.getD m ax).name)).toNat) [])].map ac).length ≤ 137438953472∧(tab (bP o n s) m).map ac ++ [(s.chans.getD ((ah 0 (bW [] (a6 o) o.chans.length) ((n.chans.getD m ax).name)).toNat) [])].map ac = (tab (bP o n s) (m + 1)).map ac)∧TT 2 (W6 ((m + 1 : Nat) : Int)∧TT 1 (AG (cX o n s i) m (m + 1)))))))) (TT 3 ((True∧(decide (((n.chans.getD m ax).cap) > 0)) = false)∧TT 9 (am [[(LI (s.chans.getD ((ah 0 (bW [] (a6 o) o.chans.length) ((n.chans.getD m ax).name)).toNat) []))]] ([(s.chans.getD ((ah 0 (bW [] (a6 o) o.chans.length) ((n.chans.getD m ax).name)).toNat) [])].map ac)∧((tab (bP o n s) m).length + ([(s.chans.getD ((ah 0 (bW [] (a6 o) o.chans.length) ((n.chans.getD m ax).name)).toNat) [])].map ac).length ≤ 137438953472∧(tab (bP o n s) m).map ac ++ [(s.chans.getD ((ah 0 (bW [] (a6 o) o.chans.length) ((n.chans.getD m ax).name)).toNat) [])].map ac = (tab (bP o n s) (m + 1)).map ac)∧TT 2 (W6 ((m + 1 : Nat) : Int)∧TT 1 (AG (cX o n s i) m (m + 1)))))))))) (CS (((n.chans.getD m ax).cap) > 0) (TT 3 ((True∧(decide (((n.chans.getD m ax).cap) > 0)) = true)∧TT 6 (CD ((0 : Int) > ((n.chans.getD m ax).cap)) (TT 5 (((((ae o n s).1).procs) = []∧(((ae o n s).1).chans) = []∧True)∧(150 : Int) = ((ae o n s).2)∧True)) (TT 3 (am [[.nils]] ([[]].map ac)∧((tab (bP o n s) m).length + ([[]].map ac).length ≤ 137438953472∧(tab (bP o n s) m).map ac ++ [[]].map ac = (tab (bP o n s) (m + 1)).map ac)∧TT 2 (W6 ((m + 1 : Nat) : Int)∧TT 1 (AG (cX o n s i) m (m + 1)))))))) (TT 3 ((True∧(decide (((n.chans.getD m ax).cap) > 0)) = false)∧TT 9 (am [[.nils]] ([[]].map ac)∧((tab (bP o n s) m).length + ([[]].map ac).length ≤ 137438953472∧(tab (bP o n s) m).map ac ++ [[]].map ac = (tab (bP o n s) (m + 1)).map ac)∧TT 2 (W6 ((m + 1 : Nat) : Int)∧TT 1 (AG (cX o n s i) m (m + 1))))))))))) (TT 1 ((True∧(aW (bW [] (a6 o) o.chans.length) ((n.chans.getD m ax).name)) = false)∧TT 6 (CS (((n.chans.getD m ax).cap) > 0) (TT 3 ((True∧(decide (((n.chans.getD m ax).cap) > 0)) = true)∧TT 6 (CD ((0 : Int) > ((n.chans.getD m ax).cap)) (TT 5 (((((ae o n s).1).procs) = []∧(((ae o n s).1).chans) = []∧True)∧(150 : Int) = ((ae o n s).2)∧True)) (TT 3 (am [[.nils]] ([[]].map ac)∧((tab (bP o n s) m).length + ([[]].map ac).length ≤ 137438953472∧(tab (bP o n s) m).map ac ++ [[]].map ac = (tab (bP o n s) (m + 1)).map ac)∧TT 2 (W6 ((m + 1 : Nat) : Int)∧TT 1 (AG (cX o n s i) m (m + 1)))))))) (TT 3 ((True∧(decide (((n.chans.getD m ax).cap) > 0)) = false)∧TT 9 (am [[.nils]] ([[]].map ac)∧((tab (bP o n s) m).length + ([[]].map ac).length ≤ 137438953472∧(tab (bP o n s) m).map ac ++ [[]].map ac = (tab (bP o n s) (m + 1)).map ac)∧TT 2 (W6 ((m + 1 : Nat) : Int)∧TT 1 (AG (cX o n s i) m (m + 1)))))))))))) (TT 5 (((tab (cO o n s) i).map bg = (((ae o n s).1).procs).map bg∧(tab (bP o n s) m).map ac = (((ae o n s).1).chans).map ac∧True)∧(0 : Int) = ((ae o n s).2)∧True))))))))))))))))) (.w 1 [(2,(EX o n).O),(4,(Hx o).O)] <| .l (jR o n s) 0 (fun q => .b 35 (.b 46 (.e) (.w 7 [(0,.val (i6 ((q + 1 : Nat) : Int)))] <| .e)) (.w 9 [(2,(Ke o s).O)] <| .g 10 11 0 74 2 bg aZ <| .l (jS o n s) 0 (fun i => .b 56 (.g 15 14 0 3 1 (aa .i64) 0 <| .g 15 14 1 54 1 ac [] <| .l (jT o n s i) 0 (fun j => .b 67 (.w 18 [(4,(Kh (ah ba (bc o s o.procs.length) ((n.procs.getD i af).name)) (((n.procs.getD i af).regs).getD j aO)).O),(5,.box 3 1 (aa .i64) 0 [eh (ah ba (bc o s o.procs.length) ((n.procs.getD i af).name)) (((n.procs.getD i af).regs).getD j aO)]),(6,.box 3 1 (aa .i64) 0 (tab (fun j => eh (ah ba (bc o s o.procs.length) (n.procs.getD i af).name) ((n.procs.getD i af).regs.getD j aO)) (j + 1)))] <| .w 19 [(0,.val (i6 ((j + 1 : Nat) : Int)))] <| .e) (.l (jU o n s i j) 0 (fun k => .b 83 (.w 23 [(4,(Ki (ah ba (bc o s o.procs.length) ((n.procs.getD i af).name)) (((n.procs.getD i af).mems).getD k aB)).O),(5,.box 54 1 ac [] [fp (ah ba (bc o s o.procs.length) ((n.procs.getD i af).name)) (((n.procs.getD i af).mems).getD k aB)]),(6,.box 54 1 ac [] (tab (fun j => fp (ah ba (bc o s o.procs.length) (n.procs.getD i af).name) ((n.procs.getD i af).mems.getD j aB)) (k + 1)))] <| .w 24 [(0,.val (i6 ((k + 1 : Nat) : Int)))] <| .e) (.f 25 16 <| .f 25 17 <| .w 25 [(3,.box 74 2 bg aZ [(⟨tab (fun j => eh (ah ba (bc o s o.procs.length) (n.procs.getD i af).name) ((n.procs.getD i af).regs.getD j aO)) j,tab (fun j => fp (ah ba (bc o s o.procs.length) (n.procs.getD i af).name) ((n.procs.getD i af).mems.getD j aB)) k⟩ : Ps)]),(4,.box 74 2 bg aZ (tab (cO o n s) (i + 1)))] <| .w 26 [(0,.val (i6 ((i + 1 : Nat) : Int)))] <| .e))))) (.g 27 11 1 54 1 ac [] <| .l (cX o n s i) 0 (fun m => .b 106 (.s 32 ((aW (bW [] (a6 o) o.chans.length) ((n.chans.getD m ax).name)) = true) (.w 32 [(1,.val (dB true)),(5,(Kq (aK o n o.chans.length) ((n.chans.getD m ax).name)).O)] <| .b 123 (.w 33 [(5,(Kn (s.chans.getD ((ah 0 (bW [] (a6 o) o.chans.length) ((n.chans.getD m ax).name)).toNat) [])).O)] <| .s 34 (((n.chans.getD m ax).cap) > 0) (.w 34 [(3,.val (dB true))] <| .b 139 (.e) (.f 36 15 <| .w 36 [(3,.box 54 1 ac [] [(s.chans.getD ((ah 0 (bW [] (a6 o) o.chans.length) ((n.chans.getD m ax).name)).toNat) [])]),(4,.box 54 1 ac [] (tab (bP o n s) (m + 1)))] <| .w 37 [(0,.val (i6 ((m + 1 : Nat) : Int)))] <| .e)) (.w 34 [(3,.val (dB false))] <| .f 36 15 <| .w 36 [(3,.box 54 1 ac [] [(s.chans.getD ((ah 0 (bW [] (a6 o) o.chans.length) ((n.chans.getD m ax).name)).toNat) [])]),(4,.box 54 1 ac [] (tab (bP o n s) (m + 1)))] <| .w 37 [(0,.val (i6 ((m + 1 : Nat) : Int)))] <| .e)) (.s 34 (((n.chans.getD m ax).cap) > 0) (.w 34 [(3,.val (dB true))] <| .b 139 (.e) (.w 36 [(3,.box 54 1 ac [] [[]]),(4,.box 54 1 ac [] (tab (bP o n s) (m + 1)))] <| .w 37 [(0,.val (i6 ((m + 1 : Nat) : Int)))] <| .e)) (.w 34 [(3,.val (dB false))] <| .w 36 [(3,.box 54 1 ac [] [[]]),(4,.box 54 1 ac [] (tab (bP o n s) (m + 1)))] <| .w 37 [(0,.val (i6 ((m + 1 : Nat) : Int)))] <| .e))) (.w 32 [(1,.val (dB false))] <| .s 34 (((n.chans.getD m ax).cap) > 0) (.w 34 [(3,.val (dB true))] <| .b 139 (.e) (.w 36 [(3,.box 54 1 ac [] [[]]),(4,.box 54 1 ac [] (tab (bP o n s) (m + 1)))] <| .w 37 [(0,.val (i6 ((m + 1 : Nat) : Int)))] <| .e)) (.w 34 [(3,.val (dB false))] <| .w 36 [(3,.box 54 1 ac [] [[]]),(4,.box 54 1 ac [] (tab (bP o n s) (m + 1)))] <| .w 37 [(0,.val (i6 ((m + 1 : Nat) : Int)))] <| .e))) (.e))))))) Try.func33 rfl rfl rfl (by kernel_rfl) ?_
 refine tt ⟨(ln o n hol hnl),tt ⟨(mW o (by omega)),tt ⟨rfl,⟨by omega,fun z hz => by omega⟩,?_⟩⟩⟩
 intro q hinv
 obtain ⟨hq,hgb⟩ := hinv
 refine tt (cd (fun hc35 => ?_) (fun hc35 => ?_))
 · refine ⟨ix,?_⟩
   have hxl := GR (f := a6 o) (k := (aK o n o.chans.length).getD q .empty) o.chans.length (by omega)
   refine tt ⟨⟨(cg.refl _),(fun _ _ _ => rfl)⟩,⟨ix,tt (cd (fun hc46 => ?_) (fun hc46 => ?_))⟩⟩
   · have hb0 : 0 < (s.chans.getD (ah 0 (bW [] (a6 o) o.chans.length) ((aK o n o.chans.length).getD q .empty)).toNat []).length := by omega
     have hbad : ae o n s = (⟨[],[]⟩,150) := yD (k := q) (by show q < (aK o n o.chans.length).length; omega) (decide_eq_true hb0)
     refine tt ⟨⟨?_,?_,oK⟩,?_,oK⟩
     all_goals (all_goals (first | (rw [hbad]; done) | (rw [hbad]) | (rw [hgood,hie]; done) | (rw [hgood,hme]; done) | (rw [hgood]; done) | (rw [hgood,hie]) | (rw [hgood,hme]) | (rw [hgood])))
   · have hb1 : ¬0 < (s.chans.getD (ah 0 (bW [] (a6 o) o.chans.length) ((aK o n o.chans.length).getD q .empty)).toNat []).length := by omega
     refine ⟨w6,tt ⟨(q + 1),rfl,?_,(?_ : (aK o n o.chans.length).length - (q + 1) < (aK o n o.chans.length).length - q)⟩⟩
     · exact ⟨by omega,bf hgb (decide_eq_false hb1)⟩
     · omega
 · have hgn : ∀ z,z < (eK o n).length → fK o n s z = false := fun z hz => hgb z (by have : (eK o n).length = (aK o n o.chans.length).length := rfl; omega)
   refine tt ⟨(Bt o s (by omega) hsl (fun i hi => by have := h.orr i hi; omega)),tt ⟨rfl,(by omega),?_⟩⟩
   intro i hinv
   have hi := hinv
   refine tt (cd (fun hc56 => ?_) (fun hc56 => ?_))
   · refine ⟨ix,tt ⟨⟨Dz,(fun h => Bool.noConfusion h)⟩,?_⟩⟩
     have hnr := h.nr i (by omega)
     have hFr := DD h.sr (n.procs.getD i af).name
     have hFm := DE h.sm (n.procs.getD i af).name
     refine tt ⟨rfl,(by omega),?_⟩
     intro j hinv
     have hj := hinv
     refine tt (cd (fun hc67 => ?_) (fun hc67 => ?_))
     · refine ⟨ix,?_⟩
       have hrk := h.rk i (by omega) j (by omega)
       refine tt ⟨(HA (ah ba (bc o s o.procs.length) ((n.procs.getD i af).name)) (((n.procs.getD i af).regs).getD j aO) hrk (hFr _)),⟨⟨⟨rfl,oK⟩,oK⟩,⟨(aX (by omega) rfl),tt ⟨w6,tt ⟨(j + 1),rfl,(?_ : (j + 1) ≤ (n.procs.getD i af).regs.length),(?_ : (n.procs.getD i af).regs.length - (j + 1) < (n.procs.getD i af).regs.length - j)⟩⟩⟩⟩⟩
       · omega
       · omega
     · have hje : j = (n.procs.getD i af).regs.length := by omega
       refine tt ⟨rfl,(by omega),?_⟩
       intro k hinv
       have hk := hinv
       refine tt (cd (fun hc83 => ?_) (fun hc83 => ?_))
       · refine ⟨ix,?_⟩
         have hmk := h.mk' i (by omega) k (by omega)
         refine tt ⟨(HB (ah ba (bc o s o.procs.length) ((n.procs.getD i af).name)) (((n.procs.getD i af).mems).getD k aB) hmk.1 hmk.2 (hFm _)),⟨⟨⟨rfl,oK⟩,oK⟩,⟨(aX (by omega) rfl),tt ⟨w6,tt ⟨(k + 1),rfl,(?_ : (k + 1) ≤ (n.procs.getD i af).mems.length),(?_ : (n.procs.getD i af).mems.length - (k + 1) < (n.procs.getD i af).mems.length - k)⟩⟩⟩⟩⟩
         · omega
         · omega
       · have hke : k = (n.procs.getD i af).mems.length := by omega
         refine tt ⟨⟨⟨rfl,rfl,oK⟩,oK⟩,⟨(aX (by omega) (by rw [hje,hke]; rfl)),tt ⟨w6,tt ⟨(i + 1),rfl,(?_ : (i + 1) ≤ n.procs.length),(?_ : n.procs.length - (i + 1) < n.procs.length - i)⟩⟩⟩⟩
         · omega
         · omega
   · have hie : i = n.procs.length := by omega
     refine tt ⟨rfl,⟨by omega,fun z hz => by omega⟩,?_⟩
     intro m hinv
     obtain ⟨hm,hcb⟩ := hinv
     refine tt (cd (fun hc106 => ?_) (fun hc106 => ?_))
     · refine ⟨ix,?_⟩
       have hnm : a6 n m = (n.chans.getD m ax).name := rfl
       refine tt ⟨⟨(cg.refl _),(fun _ _ _ => rfl)⟩,tt ⟨fun hs0 => ?_,fun hs0 => ?_⟩⟩
       · have hxi : 0 ≤ ah 0 (bW [] (a6 o) o.chans.length) (n.chans.getD m ax).name∧ah 0 (bW [] (a6 o) o.chans.length) (n.chans.getD m ax).name < (o.chans.length : Int) := tW (f := a6 o) o.chans.length (by assumption)
         refine tt ⟨(bT hs0),tt ⟨(HH (aK o n o.chans.length) ((n.chans.getD m ax).name) om),tt ⟨fun hc123 => ?_,fun hc123 => ?_⟩⟩⟩
         · have hW : bP o n s m = s.chans.getD (ah 0 (bW [] (a6 o) o.chans.length) (n.chans.getD m ax).name).toNat [] := by unfold bP DB eK jL; rw [hnm]; exact if_pos (by simp_all)
           refine tt ⟨ix,tt ⟨(Bz (s.chans.getD ((ah 0 (bW [] (a6 o) o.chans.length) ((n.chans.getD m ax).name)).toNat) []) (Nat.le_trans (h.sw _) (by decide))),tt ⟨fun hs1 => ?_,fun hs1 => ?_⟩⟩⟩
           · refine tt ⟨(vT hs1),tt (cd (fun hc139 => ?_) (fun hc139 => ?_))⟩
             · have hbad : ae o n s = (⟨[],[]⟩,150) := m6 (i := m) (by omega) (by unfold bG; rw [hW]; simp only [Bool.and_eq_true,decide_eq_true_eq,List.length_nil]; omega)
               refine tt ⟨⟨?_,?_,oK⟩,?_,oK⟩
               all_goals (all_goals (first | (rw [hbad]; done) | (rw [hbad]) | (rw [hgood,hie]; done) | (rw [hgood,hme]; done) | (rw [hgood]; done) | (rw [hgood,hie]) | (rw [hgood,hme]) | (rw [hgood])))
             · have hcap : bG o n s m = false := by unfold bG; rw [hW]; simp only [Bool.and_eq_false_iff,decide_eq_false_iff_not,List.length_nil]; omega
               refine tt ⟨⟨⟨rfl,oK⟩,oK⟩,⟨(aX (by omega) hW.symm),tt ⟨w6,tt ⟨(m + 1),rfl,?_,(?_ : n.chans.length - (m + 1) < n.chans.length - m)⟩⟩⟩⟩
               · exact ⟨by omega,bf hcb hcap⟩
               · omega
           · refine tt ⟨(vF hs1),?_⟩
             have hcap : bG o n s m = false := by unfold bG; rw [hW]; simp only [Bool.and_eq_false_iff,decide_eq_false_iff_not,List.length_nil]; omega
             refine tt ⟨⟨⟨rfl,oK⟩,oK⟩,⟨(aX (by omega) hW.symm),tt ⟨w6,tt ⟨(m + 1),rfl,?_,(?_ : n.chans.length - (m + 1) < n.chans.length - m)⟩⟩⟩⟩
             · exact ⟨by omega,bf hcb hcap⟩
             · omega
         · have hW : bP o n s m = [] := by unfold bP DB eK jL; rw [hnm]; exact if_neg (by simp_all)
           refine ⟨fun hs2 => ?_,fun hs2 => ?_⟩
           · refine tt ⟨(vT hs2),tt (cd (fun hc139 => ?_) (fun hc139 => ?_))⟩
             · have hbad : ae o n s = (⟨[],[]⟩,150) := m6 (i := m) (by omega) (by unfold bG; rw [hW]; simp only [Bool.and_eq_true,decide_eq_true_eq,List.length_nil]; omega)
               refine tt ⟨⟨?_,?_,oK⟩,?_,oK⟩
               all_goals (all_goals (first | (rw [hbad]; done) | (rw [hbad]) | (rw [hgood,hie]; done) | (rw [hgood,hme]; done) | (rw [hgood]; done) | (rw [hgood,hie]) | (rw [hgood,hme]) | (rw [hgood])))
             · have hcap : bG o n s m = false := by unfold bG; rw [hW]; simp only [Bool.and_eq_false_iff,decide_eq_false_iff_not,List.length_nil]; omega
               refine tt ⟨⟨⟨rfl,oK⟩,oK⟩,⟨(aX (by omega) hW.symm),tt ⟨w6,tt ⟨(m + 1),rfl,?_,(?_ : n.chans.length - (m + 1) < n.chans.length - m)⟩⟩⟩⟩
               · exact ⟨by omega,bf hcb hcap⟩
               · omega
           · refine tt ⟨(vF hs2),?_⟩
             have hcap : bG o n s m = false := by unfold bG; rw [hW]; simp only [Bool.and_eq_false_iff,decide_eq_false_iff_not,List.length_nil]; omega
             refine tt ⟨⟨⟨rfl,oK⟩,oK⟩,⟨(aX (by omega) hW.symm),tt ⟨w6,tt ⟨(m + 1),rfl,?_,(?_ : n.chans.length - (m + 1) < n.chans.length - m)⟩⟩⟩⟩
             · exact ⟨by omega,bf hcb hcap⟩
             · omega
       · have hW : bP o n s m = [] := by unfold bP DB eK jL; rw [hnm]; exact if_neg (by simp_all)
         refine tt ⟨(bF hs0),tt ⟨fun hs3 => ?_,fun hs3 => ?_⟩⟩
         · refine tt ⟨(vT hs3),tt (cd (fun hc139 => ?_) (fun hc139 => ?_))⟩
           · have hbad : ae o n s = (⟨[],[]⟩,150) := m6 (i := m) (by omega) (by unfold bG; rw [hW]; simp only [Bool.and_eq_true,decide_eq_true_eq,List.length_nil]; omega)
             refine tt ⟨⟨?_,?_,oK⟩,?_,oK⟩
             all_goals (all_goals (first | (rw [hbad]; done) | (rw [hbad]) | (rw [hgood,hie]; done) | (rw [hgood,hme]; done) | (rw [hgood]; done) | (rw [hgood,hie]) | (rw [hgood,hme]) | (rw [hgood])))
           · have hcap : bG o n s m = false := by unfold bG; rw [hW]; simp only [Bool.and_eq_false_iff,decide_eq_false_iff_not,List.length_nil]; omega
             refine tt ⟨⟨⟨rfl,oK⟩,oK⟩,⟨(aX (by omega) hW.symm),tt ⟨w6,tt ⟨(m + 1),rfl,?_,(?_ : n.chans.length - (m + 1) < n.chans.length - m)⟩⟩⟩⟩
             · exact ⟨by omega,bf hcb hcap⟩
             · omega
         · refine tt ⟨(vF hs3),?_⟩
           have hcap : bG o n s m = false := by unfold bG; rw [hW]; simp only [Bool.and_eq_false_iff,decide_eq_false_iff_not,List.length_nil]; omega
           refine tt ⟨⟨⟨rfl,oK⟩,oK⟩,⟨(aX (by omega) hW.symm),tt ⟨w6,tt ⟨(m + 1),rfl,?_,(?_ : n.chans.length - (m + 1) < n.chans.length - m)⟩⟩⟩⟩
           · exact ⟨by omega,bf hcb hcap⟩
           · omega
     · have hme : m = n.chans.length := by omega
       have hgood := DC hgn (fun z hz => hcb z (by omega))
       refine tt ⟨⟨(congrArg _ (?_ : (tab (cO o n s) i) = (((ae o n s).1).procs))),(congrArg _ (?_ : (tab (bP o n s) m) = (((ae o n s).1).chans))),oK⟩,?_,oK⟩
       all_goals (all_goals (first | (rw [hbad]; done) | (rw [hbad]) | (rw [hgood,hie]; done) | (rw [hgood,hme]; done) | (rw [hgood]; done) | (rw [hgood,hie]) | (rw [hgood,hme]) | (rw [hgood])))
end Go.Proofs.Ytnlmlkbaflmgcaa
