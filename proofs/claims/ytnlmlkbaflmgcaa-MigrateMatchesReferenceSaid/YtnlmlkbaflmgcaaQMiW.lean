/-
  The reference of package migrate: what is kept, plain data.
-/
import Derived.Test.YtnlmlkbaflmgcaaQMiG
import Derived.Test.YtnlmlkbaflmgcaaQMiY
namespace Go.Proofs.Ytnlmlkbaflmgcaa
open Go.RowKit
set_option linter.unusedVariables false
set_option linter.unusedSimpArgs false
def iA (c : Ci) (k : ByteArray) : Int := af (fun i => (c.chans.getD i ax).name.toList == k.toList) c.chans.length
def xN (o n : Ci) (i : Nat) : Bool := decide (iA n (bk o i) < 0) || !decide ((n.chans.getD (iA n (bk o i)).toNat ax).w = (o.chans.getD i ax).w)
def eY (o n : Ci) : Nat → List ByteArray
 | 0 => []
 | i + 1 => eY o n i ++ (if xN o n i = true then [bk o i] else [])
theorem vG (o n : Ci) : ∀ i, (eY o n i).length ≤ i
 | 0 => Nat.le_refl _
 | i + 1 => by
  have := vG o n i
  rw [eY, List.length_append]
  split <;> simp <;> omega
theorem DV {o n : Ci} {i : Nat} (h : xN o n i = true) : eY o n (i + 1) = eY o n i ++ [bk o i] := by rw [eY, if_pos h]
theorem DW {o n : Ci} {i : Nat} (h : ¬xN o n i = true) : eY o n i = eY o n (i + 1) := by rw [eY, if_neg h, List.append_nil]
theorem FW {o n : Ci} {i : Nat} (h : iA n (bk o i) < 0) : xN o n i = true := by unfold xN; rw [decide_eq_true h]; rfl
theorem JJ {o n : Ci} {i : Nat} (h : ¬(n.chans.getD (iA n (bk o i)).toNat ax).w = (o.chans.getD i ax).w) : xN o n i = true := by unfold xN; rw [decide_eq_false h, Bool.not_false, Bool.or_true]
theorem HY {o n : Ci} {i : Nat} (h : ¬iA n (bk o i) < 0) (h2 : (n.chans.getD (iA n (bk o i)).toNat ax).w = (o.chans.getD i ax).w) : ¬xN o n i = true := by unfold xN; rw [decide_eq_false h, decide_eq_true h2]; exact Bool.false_ne_true
set_option maxRecDepth 100000
abbrev K3 (c : Ch) : Ct := ⟨40,[(.agg [(dS c.name),(i6 c.w),(i6 c.cap),(i6 c.frm),(i6 c.dst)])],false,(i6 (i4 c))⟩
theorem FX (c : Ch) : CC (K3 c) := by
 refine ap.vc (V := TT 5 (CD (c.cap = 0) (TT 2 ((8 : Int) = (i4 c)∧True)) (TT 4 (c.cap = (i4 c)∧True)))) (.b 5 (.e) (.e)) Try.func40 rfl rfl rfl (by kernel_rfl) ?_
 refine tt (cd (fun hc5 => ?_) (fun hc5 => ?_))
 · refine tt ⟨?_,oK⟩
   first | exact (iw (by assumption)).symm | exact (iy (by assumption)).symm
 · refine tt ⟨?_,oK⟩
   first | exact (iw (by assumption)).symm | exact (iy (by assumption)).symm
abbrev HZ (o n : Ci) : Ct := ⟨15,[(.agg [(dL 6 bm ac o.procs),(dL 5 bH ax o.chans)]),(.agg [(dL 6 bm ac n.procs),(dL 5 bH ax n.chans)])],true,(dL 1 bu .empty (eY o n o.chans.length))⟩
abbrev di (o : Ci) (n : Ci) : Lp (Nat × List ByteArray) := pW [2,3,5,6] 3 (fun (i : Nat) (acc : List ByteArray) => ⟨[(2,(.ptr 0 0 0 0)),(3,(.ptr 1 0 0 0)),(5,(.own 2)),(6,(i6 (i : Int)))],[(.var 31 [(dL 6 bm ac o.procs),(dL 5 bH ax o.chans)]),(.var 31 [(dL 6 bm ac n.procs),(dL 5 bH ax n.chans)]),(.arr 9 1 bu .empty acc)]⟩) (fun (i : Nat) (acc : List ByteArray) => i ≤ o.chans.length∧acc = eY o n i) (fun (i : Nat) (acc : List ByteArray) => o.chans.length - i)
theorem nw (o n : Ci) (hol : o.chans.length ≤ 1000000) (hnl : n.chans.length ≤ 1000000) : CC (HZ o n) := by
 refine ap.vc (V := TT 3 (ai [] ([].map bu)∧TT 2 (GO (di o n) (0,[]) (∀ i acc,(di o n).inv (i,acc) → TT 5 (CD ((i : Int) < (o.chans.length : Int)) (TT 4 (IX (i : Int) o.chans.length∧TT 2 (CC (HU n ((o.chans.getD i ax).name))∧TT 1 (CS ((af (fun zz => (n.chans.getD zz ax).name.toList == ((o.chans.getD i ax).name).toList) n.chans.length) < 0) (TT 2 ((True∧(decide ((af (fun zz => (n.chans.getD zz ax).name.toList == ((o.chans.getD i ax).name).toList) n.chans.length) < 0)) = true)∧TT 5 (IX (i : Int) o.chans.length∧TT 2 (ai [[(dS ((o.chans.getD i ax).name))]] ([(o.chans.getD i ax).name].map bu)∧(acc.length + ([(o.chans.getD i ax).name].map bu).length ≤ 137438953472∧acc.map bu ++ [(o.chans.getD i ax).name].map bu = (eY o n (i + 1)).map bu)∧TT 2 (W6 ((i + 1 : Nat) : Int)∧TT 1 (AG (di o n) (i,acc) (i + 1,eY o n (i + 1)))))))) (TT 2 ((True∧(decide ((af (fun zz => (n.chans.getD zz ax).name.toList == ((o.chans.getD i ax).name).toList) n.chans.length) < 0)) = false)∧TT 3 (IX (af (fun zz => (n.chans.getD zz ax).name.toList == ((o.chans.getD i ax).name).toList) n.chans.length) n.chans.length∧TT 5 (IX (i : Int) o.chans.length∧TT 4 (CN (((n.chans.getD ((af (fun zz => (n.chans.getD zz ax).name.toList == ((o.chans.getD i ax).name).toList) n.chans.length).toNat) ax).w) = ((o.chans.getD i ax).w)) (TT 4 (IX (i : Int) o.chans.length∧TT 2 (ai [[(dS ((o.chans.getD i ax).name))]] ([(o.chans.getD i ax).name].map bu)∧(acc.length + ([(o.chans.getD i ax).name].map bu).length ≤ 137438953472∧acc.map bu ++ [(o.chans.getD i ax).name].map bu = (eY o n (i + 1)).map bu)∧TT 2 (W6 ((i + 1 : Nat) : Int)∧TT 1 (AG (di o n) (i,acc) (i + 1,eY o n (i + 1))))))) (TT 1 (W6 ((i + 1 : Nat) : Int)∧TT 1 (AG (di o n) (i,acc) (i + 1,acc))))))))))))) (TT 3 (acc.map bu = (eY o n o.chans.length).map bu))))))) (.w 1 [(0,.box 9 1 bu .empty [])] <| .l (di o n) (0,[]) (fun ⟨i,acc⟩ => .b 13 (.w 5 [(7,(HU n ((o.chans.getD i ax).name)).O)] <| .s 6 ((af (fun zz => (n.chans.getD zz ax).name.toList == ((o.chans.getD i ax).name).toList) n.chans.length) < 0) (.w 6 [(2,.val (dB true))] <| .w 7 [(7,.box 9 1 bu .empty [(o.chans.getD i ax).name]),(8,.box 9 1 bu .empty (eY o n (i + 1)))] <| .w 4 [(1,.val (i6 ((i + 1 : Nat) : Int)))] <| .e) (.w 6 [(2,.val (dB false))] <| .b 40 (.w 7 [(7,.box 9 1 bu .empty [(o.chans.getD i ax).name]),(8,.box 9 1 bu .empty (eY o n (i + 1)))] <| .w 4 [(1,.val (i6 ((i + 1 : Nat) : Int)))] <| .e) (.w 4 [(1,.val (i6 ((i + 1 : Nat) : Int)))] <| .e))) (.e))) Try.func15 rfl rfl rfl (by kernel_rfl) ?_
 refine tt ⟨oK,tt ⟨rfl,⟨by omega,rfl⟩,?_⟩⟩
 intro i acc hinv
 obtain ⟨hi,hacc⟩ := hinv
 refine tt (cd (fun hc13 => ?_) (fun hc13 => ?_))
 · refine tt ⟨ix,tt ⟨(vC n ((o.chans.getD i ax).name) om),tt ⟨fun hs0 => ?_,fun hs0 => ?_⟩⟩⟩
   · refine tt ⟨(vT hs0),tt ⟨ix,tt ⟨⟨⟨rfl,oK⟩,oK⟩,⟨⟨by simp only [List.length_map,List.length_cons,List.length_nil]; rw [hacc]; have := vG o n i; omega,by rw [hacc,DV (o := o) (n := n) (i := i) (by first | exact FW hs0 | exact JJ hc40),List.map_append]; rfl⟩,tt ⟨w6,tt ⟨(i + 1,eY o n (i + 1)),rfl,?_,(?_ : o.chans.length - (i + 1) < o.chans.length - i)⟩⟩⟩⟩⟩⟩
     · exact ⟨by omega,by first | (rw [hacc]; exact DW (HY hs0 hc40)) | rfl⟩
     · omega
   · have hs2 := hs0
     have hs3 : af (fun zz => (n.chans.getD zz ax).name.toList == (o.chans.getD i ax).name.toList) n.chans.length < (n.chans.length : Int) := bz
     simp only [List.getD_eq_getElem?_getD] at hs2 hs3
     refine tt ⟨(vF hs0),tt ⟨ix,tt ⟨ix,tt (cn (fun hc40 => ?_) (fun hc40 => ?_))⟩⟩⟩
     · refine tt ⟨ix,tt ⟨⟨⟨rfl,oK⟩,oK⟩,⟨⟨by simp only [List.length_map,List.length_cons,List.length_nil]; rw [hacc]; have := vG o n i; omega,by rw [hacc,DV (o := o) (n := n) (i := i) (by first | exact FW hs0 | exact JJ hc40),List.map_append]; rfl⟩,tt ⟨w6,tt ⟨(i + 1,eY o n (i + 1)),rfl,?_,(?_ : o.chans.length - (i + 1) < o.chans.length - i)⟩⟩⟩⟩⟩
       · exact ⟨by omega,by first | (rw [hacc]; exact DW (HY hs0 hc40)) | rfl⟩
       · omega
     · refine tt ⟨w6,tt ⟨(i + 1,acc),rfl,?_,(?_ : o.chans.length - (i + 1) < o.chans.length - i)⟩⟩
       · exact ⟨by omega,by first | (rw [hacc]; exact DW (HY hs0 hc40)) | rfl⟩
       · omega
 · have hie : i = o.chans.length := by omega
   refine tt (congrArg _ (?_ : acc = (eY o n o.chans.length)))
   rw [hacc,hie]
def iB (q : Pr) (k : ByteArray) : Int := af (fun i => (q.regs.getD i aC).name.toList == k.toList) q.regs.length
def fE (q : Pr) (k : ByteArray) : Int := af (fun i => (q.mems.getD i au).name.toList == k.toList) q.mems.length
def Al (p q : Pr) (i : Nat) : Bool := decide (¬iB q (eo p i) < 0) && (decide ((q.regs.getD (iB q (eo p i)).toNat aC).w = (p.regs.getD i aC).w) && decide ((q.regs.getD (iB q (eo p i)).toNat aC).rule.kind = 1))
def xO (p q : Pr) (i : Nat) : Bool := decide (¬fE q (fb p i) < 0) && (decide ((q.mems.getD (fE q (fb p i)).toNat au).w = (p.mems.getD i au).w) && (decide ((q.mems.getD (fE q (fb p i)).toNat au).words = (p.mems.getD i au).words) && decide ((q.mems.getD (fE q (fb p i)).toNat au).rule.kind = 1)))
def ug (p q : Pr) : Bool := cJ (Al p q) p.regs.length && cJ (xO p q) p.mems.length
theorem p8 {p q : Pr} {i : Nat} (h : iB q (eo p i) < 0) : Al p q i = false := by unfold Al; rw [decide_eq_false (fun hn => hn h)]; rfl
theorem dF {p q : Pr} {i : Nat} (h : ¬(q.regs.getD (iB q (eo p i)).toNat aC).w = (p.regs.getD i aC).w) : Al p q i = false := by unfold Al; rw [decide_eq_false h, Bool.false_and, Bool.and_false]
theorem gI {p q : Pr} {i : Nat} (h : ¬(q.regs.getD (iB q (eo p i)).toNat aC).rule.kind = 1) : Al p q i = false := by unfold Al; rw [decide_eq_false h, Bool.and_false, Bool.and_false]
theorem G4 {p q : Pr} {i : Nat} (h : ¬iB q (eo p i) < 0) (h2 : (q.regs.getD (iB q (eo p i)).toNat aC).w = (p.regs.getD i aC).w) (h3 : (q.regs.getD (iB q (eo p i)).toNat aC).rule.kind = 1) : Al p q i = true := by unfold Al; rw [decide_eq_true h, decide_eq_true h2, decide_eq_true h3]; rfl
theorem gJ {p q : Pr} {i : Nat} (h : fE q (fb p i) < 0) : xO p q i = false := by unfold xO; rw [decide_eq_false (fun hn => hn h)]; rfl
theorem p9 {p q : Pr} {i : Nat} (h : ¬(q.mems.getD (fE q (fb p i)).toNat au).w = (p.mems.getD i au).w) : xO p q i = false := by unfold xO; rw [decide_eq_false h, Bool.false_and, Bool.and_false]
theorem kY {p q : Pr} {i : Nat} (h : ¬(q.mems.getD (fE q (fb p i)).toNat au).words = (p.mems.getD i au).words) : xO p q i = false := by unfold xO; rw [decide_eq_false h, Bool.false_and, Bool.and_false, Bool.and_false]
theorem qa {p q : Pr} {i : Nat} (h : ¬(q.mems.getD (fE q (fb p i)).toNat au).rule.kind = 1) : xO p q i = false := by unfold xO; rw [decide_eq_false h, Bool.and_false, Bool.and_false, Bool.and_false]
theorem JK {p q : Pr} {i : Nat} (h : ¬fE q (fb p i) < 0) (h2 : (q.mems.getD (fE q (fb p i)).toNat au).w = (p.mems.getD i au).w) (h4 : (q.mems.getD (fE q (fb p i)).toNat au).words = (p.mems.getD i au).words) (h3 : (q.mems.getD (fE q (fb p i)).toNat au).rule.kind = 1) : xO p q i = true := by unfold xO; rw [decide_eq_true h, decide_eq_true h2, decide_eq_true h3, decide_eq_true h4]; rfl
theorem i7 {p q : Pr} {i : Nat} (hi : i < p.regs.length) (h : Al p q i = false) : ug p q = false := by unfold ug; rw [dC hi h]; rfl
theorem i8 {p q : Pr} {i : Nat} (hi : i < p.mems.length) (h : xO p q i = false) : ug p q = false := by unfold ug; rw [dC hi h, Bool.and_false]
theorem i9 {p q : Pr} (h1 : ∀ i, i < p.regs.length → Al p q i = true) (h2 : ∀ i, i < p.mems.length → xO p q i = true) : ug p q = true := by unfold ug; rw [bh.2 h1, bh.2 h2]; rfl
end Go.Proofs.Ytnlmlkbaflmgcaa
