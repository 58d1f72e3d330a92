/-
  The reference of journals: reading and putting.
-/
import Derived.Test.YtjmfaebimgnblaaJouO
import Derived.Test.YtjmfaebimgnblaaJouL
namespace Go.Proofs.Ytjmfaebimgnblaa
open Go.RowKit
set_option linter.unusedVariables false
set_option linter.unusedSimpArgs false
abbrev yq0 : Box := (.var 58 [.nils,(i6 0)])
abbrev yq1 : D := (.ptr 0 0 0 0)
abbrev yq2 : D := (.ptr 1 0 0 0)
abbrev yq3 : Box := (.arr 5 1 (encI .u8) 0 ([] : List Int))
abbrev yq4 : Box := (.var 55 [.nils,.nils,(i6 0),(i6 0),(dI .u64 0)])
abbrev yq5 : D := (.ptr 1 0 0 4)
abbrev yq6 : Box := (.var 55 [(.own 2),.nils,(i6 0),(i6 0),(dI .u64 0)])

set_option maxRecDepth 100000 in
theorem readin_ok (b : List Int) (hb : Bytes8 b) (hbig : b.length ≤ 137438953472) : CallOk Try.prog 27 [(LY b)] [] true (.agg [(dL 1 encLI [] ((readF b 0).1)),(LY ((readF b 0).2.1)),(i6 (tornF b)),(i6 ((endN b : Nat) : Int)),(dI .u64 ((readF b 0).2.2))]) [] := by
  refine CallOk.of_ev Try.func27 rfl rfl rfl ?_
  rintro ⟨_,W,S0,_,susp,_⟩ rfl rfl rfl
  refine Ev.seq ?_
  refine Ev.reg [] [0,2] (st' := ⟨[(0,(LY b)),(2,yq1)],[yq4]⟩)
    (p := True∧True) (by kernel_rfl)
    ⟨oK,oK⟩ ?_
  refine Ev.seq ?_
  refine Ev.reg [] [0,2,3] (st' := ⟨[(0,(LY b)),(2,yq1),(3,yq2)],[yq4,yq4]⟩)
    (p := T3 True) (by kernel_rfl)
    ⟨oK,oK,oK,oK⟩ ?_
  refine Ev.seq ?_
  refine Ev.adopt 1 0 52 1 encLI [] (st' := ⟨[(0,(LY b)),(2,yq1),(3,yq2)],[yq4,yq6,(.arr 52 1 encLI [] [])]⟩) (by kernel_rfl) ?_
  refine Ev.reg [(1,.call none true (.agg [(LI (nextL (b.drop 0) 0)),(dI .u64 ((pcS b 0 0 : Nat) : Int)),(i6 ((pcE b 0 0 : Nat) : Int)),(dB (nextB (b.drop 0) 0))]))] [0,2,3,4] (st' := ⟨[(0,(LY b)),(2,yq1),(3,yq2),(4,(.ptr 3 0 0 0))],[yq4,yq6,(.arr 52 1 encLI [] []),(.var 88 [(LI (nextL (b.drop 0) 0)),(dI .u64 ((pcS b 0 0 : Nat) : Int)),(i6 ((pcE b 0 0 : Nat) : Int)),(dB (nextB (b.drop 0) 0))])]⟩)
    (p := True∧callOb Try.prog 54 [yq4,yq6,(.arr 52 1 encLI [] [])] [(LY b),(i6 0),(dI .u64 0)] none true (.agg [(LI (nextL (b.drop 0) 0)),(dI .u64 ((pcS b 0 0 : Nat) : Int)),(i6 ((pcE b 0 0 : Nat) : Int)),(dB (nextB (b.drop 0) 0))])∧T2 True) (by kernel_rfl)
    ⟨oK,(next_ok b 0 0 (by assumption) (by first | omega | (simp; first | done | omega)) (by first | omega | (simp; first | done | omega))),oK,oK,oK⟩ ?_
  refine Ev.seq ?_
  refine Ev.block ?_
  refine Ev.loop [0,2,3,4] 4 (fun (⟨a,s,acc⟩ : Nat × Int × List (List Int)) => ⟨[(0,(LY b)),(2,yq1),(3,yq2),(4,(.ptr 3 0 0 0))],[yq4,(.var 55 [(.own 2),.nils,(i6 0),(i6 ((a : Nat) : Int)),(dI .u64 s)]),(.arr 52 1 encLI [] acc),(.var 88 [(LI (nextL (b.drop a) s)),(dI .u64 ((pcS b a s : Nat) : Int)),(i6 ((pcE b a s : Nat) : Int)),(dB (nextB (b.drop a) s))])]⟩) (fun (⟨a,s,acc⟩ : Nat × Int × List (List Int)) => a ≤ b.length∧(readF (b.drop a) s).2 = (readF b 0).2∧acc ++ (readF (b.drop a) s).1 = (readF b 0).1∧acc.length ≤ a) (fun (⟨a,s,acc⟩ : Nat × Int × List (List Int)) => b.length - a) ⟨0,0,([] : List (List Int))⟩ (by kernel_rfl) (⟨by omega,by rw [List.drop_zero],by rw [List.drop_zero]; rfl,by simp⟩) ?_
  rintro ⟨a,s,acc⟩ hinv
  have hinv : a ≤ b.length∧(readF (b.drop a) s).2 = (readF b 0).2∧acc ++ (readF (b.drop a) s).1 = (readF b 0).1∧acc.length ≤ a := hinv
  obtain ⟨ha,hread,hacc,hal⟩ := hinv
  refine Ev.seq ?_
  refine Ev.seq ?_
  rcases Bool.eq_false_or_eq_true (nextB (b.drop a) s) with hn | hn
  · skip
    have hok := nextB_true.1 hn
    have hrm := room_ok hok
    have hend := (pc_ok hok).2.2.1
    refine Ev.reg [(1,.val (dB true))] [0,2,3,4,9] (st' := ⟨[(0,(LY b)),(2,yq1),(3,yq2),(4,(.ptr 3 0 0 0)),(9,(dB true))],[yq4,(.var 55 [(.own 2),.nils,(i6 0),(i6 ((a : Nat) : Int)),(dI .u64 s)]),(.arr 52 1 encLI [] acc),(.var 88 [(LI (nextL (b.drop a) s)),(dI .u64 ((pcS b a s : Nat) : Int)),(i6 ((pcE b a s : Nat) : Int)),(dB (nextB (b.drop a) s))])]⟩)
      (p := True∧(True∧(nextB (b.drop a) s) = true)∧True) (by kernel_rfl)
      ⟨oK,⟨oK,(by exact hn)⟩,oK⟩ ?_
    refine Ev.cond true rfl (fun _ => ?_) (fun h => (by cases h))
    refine Ev.skip ?_
    refine Ev.block ?_
    refine Ev.seq ?_
    refine Ev.reg [(4,.box 52 1 encLI [] [nextL (b.drop a) s]),(5,.box 52 1 encLI [] (acc ++ [nextL (b.drop a) s]))] [0,2,3,4] (st' := ⟨[(0,(LY b)),(2,yq1),(3,yq2),(4,(.ptr 3 0 0 0))],[yq4,(.var 55 [(.own 2),.nils,(i6 0),(i6 ((a : Nat) : Int)),(dI .u64 s)]),(.arr 52 1 encLI [] (acc ++ [nextL (b.drop a) s])),(.var 88 [(LI (nextL (b.drop a) s)),(dI .u64 ((pcS b a s : Nat) : Int)),(i6 ((pcE b a s : Nat) : Int)),(dB (nextB (b.drop a) s))]),(.arr 52 1 encLI [] [nextL (b.drop a) s])]⟩)
      (p := T4 (eqRows [[(LI (nextL (b.drop a) s))]] ([nextL (b.drop a) s].map encLI)∧(acc.length + ([nextL (b.drop a) s].map encLI).length ≤ 137438953472∧acc.map encLI ++ [nextL (b.drop a) s].map encLI = (acc ++ [nextL (b.drop a) s]).map encLI)∧T2 True)) (by kernel_rfl)
      ⟨oK,oK,oK,oK,⟨⟨rfl,oK⟩,oK⟩,⟨by simp only [List.length_map,List.length_cons,List.length_nil]; omega,by simp [encLI]⟩,oK,oK,oK⟩ ?_
    refine Ev.seq ?_
    refine Ev.reg [(1,.val (i6 ((a + 24 + 8 * wordN (b.drop a) 0 : Nat) : Int)))] [0,2,3,4] (st' := ⟨[(0,(LY b)),(2,yq1),(3,yq2),(4,(.ptr 3 0 0 0))],[yq4,(.var 55 [(.own 2),.nils,(i6 0),(i6 ((a + 24 + 8 * wordN (b.drop a) 0 : Nat) : Int)),(dI .u64 s)]),(.arr 52 1 encLI [] (acc ++ [nextL (b.drop a) s])),(.var 88 [(LI (nextL (b.drop a) s)),(dI .u64 ((pcS b a s : Nat) : Int)),(i6 ((pcE b a s : Nat) : Int)),(dB (nextB (b.drop a) s))]),(.arr 52 1 encLI [] [nextL (b.drop a) s])]⟩)
      (p := True∧(True∧((pcE b a s : Nat) : Int) = ((a + 24 + 8 * wordN (b.drop a) 0 : Nat) : Int))∧T2 True) (by kernel_rfl)
      ⟨oK,⟨oK,(by rw [hend])⟩,oK,oK,oK⟩ ?_
    refine Ev.seq ?_
    refine Ev.reg [] [0,2,3,4] (st' := ⟨[(0,(LY b)),(2,yq1),(3,yq2),(4,(.ptr 3 0 0 0))],[yq4,(.var 55 [(.own 2),.nils,(i6 0),(i6 ((a + 24 + 8 * wordN (b.drop a) 0 : Nat) : Int)),(dI .u64 ((pcS b a s : Nat) : Int))]),(.arr 52 1 encLI [] (acc ++ [nextL (b.drop a) s])),(.var 88 [(LI (nextL (b.drop a) s)),(dI .u64 ((pcS b a s : Nat) : Int)),(i6 ((pcE b a s : Nat) : Int)),(dB (nextB (b.drop a) s))]),(.arr 52 1 encLI [] [nextL (b.drop a) s])]⟩)
      (p := T4 True) (by kernel_rfl)
      ⟨oK,oK,oK,oK,oK⟩ ?_
    refine Ev.reg [(5,.call none true (.agg [(LI (nextL (b.drop (a + 24 + 8 * wordN (b.drop a) 0)) ((pcS b a s : Nat) : Int))),(dI .u64 ((pcS b (a + 24 + 8 * wordN (b.drop a) 0) ((pcS b a s : Nat) : Int) : Nat) : Int)),(i6 ((pcE b (a + 24 + 8 * wordN (b.drop a) 0) ((pcS b a s : Nat) : Int) : Nat) : Int)),(dB (nextB (b.drop (a + 24 + 8 * wordN (b.drop a) 0)) ((pcS b a s : Nat) : Int)))]))] [0,2,3,4] (st' := ⟨[(0,(LY b)),(2,yq1),(3,yq2),(4,(.ptr 3 0 0 0))],[yq4,(.var 55 [(.own 2),.nils,(i6 0),(i6 ((a + 24 + 8 * wordN (b.drop a) 0 : Nat) : Int)),(dI .u64 ((pcS b a s : Nat) : Int))]),(.arr 52 1 encLI [] (acc ++ [nextL (b.drop a) s])),(.var 88 [(LI (nextL (b.drop (a + 24 + 8 * wordN (b.drop a) 0)) ((pcS b a s : Nat) : Int))),(dI .u64 ((pcS b (a + 24 + 8 * wordN (b.drop a) 0) ((pcS b a s : Nat) : Int) : Nat) : Int)),(i6 ((pcE b (a + 24 + 8 * wordN (b.drop a) 0) ((pcS b a s : Nat) : Int) : Nat) : Int)),(dB (nextB (b.drop (a + 24 + 8 * wordN (b.drop a) 0)) ((pcS b a s : Nat) : Int)))]),(.arr 52 1 encLI [] [nextL (b.drop a) s])]⟩)
      (p := T5 (callOb Try.prog 54 [yq4,(.var 55 [(.own 2),.nils,(i6 0),(i6 ((a + 24 + 8 * wordN (b.drop a) 0 : Nat) : Int)),(dI .u64 ((pcS b a s : Nat) : Int))]),(.arr 52 1 encLI [] (acc ++ [nextL (b.drop a) s])),(.var 88 [(LI (nextL (b.drop a) s)),(dI .u64 ((pcS b a s : Nat) : Int)),(i6 ((pcE b a s : Nat) : Int)),(dB (nextB (b.drop a) s))]),(.arr 52 1 encLI [] [nextL (b.drop a) s])] [(LY b),(i6 ((a + 24 + 8 * wordN (b.drop a) 0 : Nat) : Int)),(dI .u64 ((pcS b a s : Nat) : Int))] none true (.agg [(LI (nextL (b.drop (a + 24 + 8 * wordN (b.drop a) 0)) ((pcS b a s : Nat) : Int))),(dI .u64 ((pcS b (a + 24 + 8 * wordN (b.drop a) 0) ((pcS b a s : Nat) : Int) : Nat) : Int)),(i6 ((pcE b (a + 24 + 8 * wordN (b.drop a) 0) ((pcS b a s : Nat) : Int) : Nat) : Int)),(dB (nextB (b.drop (a + 24 + 8 * wordN (b.drop a) 0)) ((pcS b a s : Nat) : Int)))])∧True∧True)) (by kernel_rfl)
      ⟨oK,oK,oK,oK,oK,(next_ok b (a + 24 + 8 * wordN (b.drop a) 0) ((pcS b a s : Nat) : Int) (by assumption) (by first | omega | (simp; first | done | omega)) (by first | omega | (simp; first | done | omega))),oK,oK⟩ ?_
    refine ⟨⟨a + 24 + 8 * wordN (b.drop a) 0,((pcS b a s : Nat) : Int),acc ++ [nextL (b.drop a) s]⟩,by kernel_rfl,(?_ : (a + 24 + 8 * wordN (b.drop a) 0) ≤ b.length∧(readF (b.drop (a + 24 + 8 * wordN (b.drop a) 0)) ((pcS b a s : Nat) : Int)).2 = (readF b 0).2∧(acc ++ [nextL (b.drop a) s]) ++ (readF (b.drop (a + 24 + 8 * wordN (b.drop a) 0)) ((pcS b a s : Nat) : Int)).1 = (readF b 0).1∧(acc ++ [nextL (b.drop a) s]).length ≤ (a + 24 + 8 * wordN (b.drop a) 0)),(?_ : b.length - (a + 24 + 8 * wordN (b.drop a) 0) < b.length - a)⟩
    · exact ⟨hrm.1,by rw [← hread,readF_ok hok,next_drop hok,nextS_pc hok],by rw [← hacc,readF_ok hok,next_drop hok,nextS_pc hok,List.append_assoc]; rfl,by rw [List.length_append]; simp; omega⟩
    · omega
  · skip
    have hbad := nextB_false.1 hn
    have h3 : (readF b 0).2 = (b.drop a,s) := by rw [← hread,readF_bad hbad]
    have ha3 : acc = (readF b 0).1 := by rw [← hacc,readF_bad hbad]; simp
    refine Ev.reg [(1,.val (dB false))] [0,2,3,4,9] (st' := ⟨[(0,(LY b)),(2,yq1),(3,yq2),(4,(.ptr 3 0 0 0)),(9,(dB false))],[yq4,(.var 55 [(.own 2),.nils,(i6 0),(i6 ((a : Nat) : Int)),(dI .u64 s)]),(.arr 52 1 encLI [] acc),(.var 88 [(LI (nextL (b.drop a) s)),(dI .u64 ((pcS b a s : Nat) : Int)),(i6 ((pcE b a s : Nat) : Int)),(dB (nextB (b.drop a) s))])]⟩)
      (p := True∧(True∧(nextB (b.drop a) s) = false)∧True) (by kernel_rfl)
      ⟨oK,⟨oK,(by exact hn)⟩,oK⟩ ?_
    refine Ev.cond false rfl (fun h => (by cases h)) (fun _ => ?_)
    refine Ev.exit ?_
    refine Ev.seq ?_
    refine Ev.reg [] [2,3] (st' := ⟨[(2,yq1),(3,yq2)],[yq4,(.var 55 [(.own 2),(LY (b.drop a)),(i6 0),(i6 ((a : Nat) : Int)),(dI .u64 s)]),(.arr 52 1 encLI [] acc),(.var 88 [(LI (nextL (b.drop a) s)),(dI .u64 ((pcS b a s : Nat) : Int)),(i6 ((pcE b a s : Nat) : Int)),(dB (nextB (b.drop a) s))])]⟩)
      (p := T3 ((0 ≤ ((a : Nat) : Int)∧((a : Nat) : Int) ≤ (b.length : Int)∧(b.length : Int) ≤ (b.length : Int))∧T2 True)) (by kernel_rfl)
      ⟨oK,oK,oK,(by first | omega | (simp; first | done | omega)),oK,oK,oK⟩ ?_
    refine Ev.seq ?_
    refine Ev.seq ?_
    refine Ev.reg [] [2,3,37] (st' := ⟨[(2,yq1),(3,yq2),(37,(dB (decide ((((b.drop a).length : Nat) : Int) > 0))))],[yq4,(.var 55 [(.own 2),(LY (b.drop a)),(i6 0),(i6 ((a : Nat) : Int)),(dI .u64 s)]),(.arr 52 1 encLI [] acc),(.var 88 [(LI (nextL (b.drop a) s)),(dI .u64 ((pcS b a s : Nat) : Int)),(i6 ((pcE b a s : Nat) : Int)),(dB (nextB (b.drop a) s))])]⟩)
      (p := T4 True) (by kernel_rfl)
      ⟨oK,oK,oK,oK,oK⟩ ?_
    refine Ev.cond _ rfl (fun hc37 => ?_) (fun hc37 => ?_)
    · try simp only [decide_eq_true_eq,decide_eq_false_iff_not,beq_iff_eq,bne_iff_ne,ne_eq,beq_eq_false_iff_ne,bne_eq_false_iff_eq,Bool.not_eq_true,Bool.not_eq_false,Bool.not_eq_true',Bool.not_eq_false',Bool.not_not,gt_iff_lt,ge_iff_le,Nat.not_lt,Int.not_lt,Int.not_le] at hc37
      refine Ev.reg [] [2,3] (st' := ⟨[(2,yq1),(3,yq2)],[yq4,(.var 55 [(.own 2),(LY (b.drop a)),(i6 60),(i6 ((a : Nat) : Int)),(dI .u64 s)]),(.arr 52 1 encLI [] acc),(.var 88 [(LI (nextL (b.drop a) s)),(dI .u64 ((pcS b a s : Nat) : Int)),(i6 ((pcE b a s : Nat) : Int)),(dB (nextB (b.drop a) s))])]⟩)
        (p := T2 True) (by kernel_rfl)
        ⟨oK,oK,oK⟩ ?_
      refine Ev.seq ?_
      refine Ev.reg [] [2] (st' := ⟨[(2,yq1)],[(.var 55 [(.own 2),(LY (b.drop a)),(i6 60),(i6 ((a : Nat) : Int)),(dI .u64 s)]),(.var 55 [(.own 2),(LY (b.drop a)),(i6 60),(i6 ((a : Nat) : Int)),(dI .u64 s)]),(.arr 52 1 encLI [] acc),(.var 88 [(LI (nextL (b.drop a) s)),(dI .u64 ((pcS b a s : Nat) : Int)),(i6 ((pcE b a s : Nat) : Int)),(dB (nextB (b.drop a) s))])]⟩)
        (p := T2 True) (by kernel_rfl)
        ⟨oK,oK,oK⟩ ?_
      refine Ev.ret ?_
      refine ⟨⟨oK,oK⟩,(?_ : acc.map encLI = ((readF b 0).1).map encLI∧(b.drop a).map (encI .u8) = ((readF b 0).2.1).map (encI .u8)∧(60 : Int) = (tornF b)∧((a : Nat) : Int) = ((endN b : Nat) : Int)∧s = ((readF b 0).2.2)∧True),.inl rfl⟩
      exact ⟨congrArg _ ha3,by rw [h3],by unfold tornF; rw [h3]; exact (if_pos (by simpa using hc37)).symm,by unfold endN; rw [h3,List.length_drop]; omega,by rw [h3],oK⟩
    · try simp only [decide_eq_true_eq,decide_eq_false_iff_not,beq_iff_eq,bne_iff_ne,ne_eq,beq_eq_false_iff_ne,bne_eq_false_iff_eq,Bool.not_eq_true,Bool.not_eq_false,Bool.not_eq_true',Bool.not_eq_false',Bool.not_not,gt_iff_lt,ge_iff_le,Nat.not_lt,Int.not_lt,Int.not_le] at hc37
      refine Ev.skip ?_
      refine Ev.seq ?_
      refine Ev.reg [] [2] (st' := ⟨[(2,yq1)],[(.var 55 [(.own 2),(LY (b.drop a)),(i6 0),(i6 ((a : Nat) : Int)),(dI .u64 s)]),(.var 55 [(.own 2),(LY (b.drop a)),(i6 0),(i6 ((a : Nat) : Int)),(dI .u64 s)]),(.arr 52 1 encLI [] acc),(.var 88 [(LI (nextL (b.drop a) s)),(dI .u64 ((pcS b a s : Nat) : Int)),(i6 ((pcE b a s : Nat) : Int)),(dB (nextB (b.drop a) s))])]⟩)
        (p := T2 True) (by kernel_rfl)
        ⟨oK,oK,oK⟩ ?_
      refine Ev.ret ?_
      refine ⟨⟨oK,oK⟩,(?_ : acc.map encLI = ((readF b 0).1).map encLI∧(b.drop a).map (encI .u8) = ((readF b 0).2.1).map (encI .u8)∧(0 : Int) = (tornF b)∧((a : Nat) : Int) = ((endN b : Nat) : Int)∧s = ((readF b 0).2.2)∧True),.inl rfl⟩
      exact ⟨congrArg _ ha3,by rw [h3],by unfold tornF; rw [h3]; exact (if_neg (by simpa using hc37)).symm,by unfold endN; rw [h3,List.length_drop]; omega,by rw [h3],oK⟩

def zputin_ok_1_0 (b r : List Int) : St := ⟨[(0,(LY b)),(1,(LI r)),(4,yq1),(5,yq2),(25,(dB (decide ((((b.length + 24) + (8 * r.length) : Nat) : Int) > 65536))))],[yq0,(.var 55 [(dL 1 encLI [] ((readF b 0).1)),(LY ((readF b 0).2.1)),(i6 (tornF b)),(i6 ((endN b : Nat) : Int)),(dI .u64 ((readF b 0).2.2))])]⟩
def zputin_ok_1_1 (b r : List Int) : St := ⟨[(0,(LY b)),(1,(LI r)),(4,yq1),(5,yq2),(25,(dB (decide ((((b.length + 24) + (8 * r.length) : Nat) : Int) > 65536)))),(27,(.own 2))],[yq0,(.var 55 [(dL 1 encLI [] ((readF b 0).1)),(LY ((readF b 0).2.1)),(i6 (tornF b)),(i6 ((endN b : Nat) : Int)),(dI .u64 ((readF b 0).2.2))]),yq3]⟩
def zputin_ok_1_2 (b r : List Int) : St := ⟨[(0,(LY b)),(1,(LI r)),(4,yq1),(5,yq2),(25,(dB (decide ((((b.length + 24) + (8 * r.length) : Nat) : Int) > 65536)))),(28,(LY b))],[yq0,(.var 55 [(dL 1 encLI [] ((readF b 0).1)),(LY ((readF b 0).2.1)),(i6 (tornF b)),(i6 ((endN b : Nat) : Int)),(dI .u64 ((readF b 0).2.2))])]⟩
def zputin_ok_1_3 (b r : List Int) : St := ⟨[(0,(LY b)),(1,(LI r)),(4,yq1),(5,yq2),(25,(dB (decide ((((b.length + 24) + (8 * r.length) : Nat) : Int) > 65536)))),(30,yq5)],[yq0,(.var 55 [(dL 1 encLI [] ((readF b 0).1)),(LY ((readF b 0).2.1)),(i6 (tornF b)),(i6 ((endN b : Nat) : Int)),(dI .u64 ((readF b 0).2.2))])]⟩
def zputin_ok_1_4 (b r : List Int) : St := ⟨[(0,(LY b)),(1,(LI r)),(4,yq1),(5,yq2),(25,(dB (decide ((((b.length + 24) + (8 * r.length) : Nat) : Int) > 65536)))),(32,(LI r))],[yq0,(.var 55 [(dL 1 encLI [] ((readF b 0).1)),(LY ((readF b 0).2.1)),(i6 (tornF b)),(i6 ((endN b : Nat) : Int)),(dI .u64 ((readF b 0).2.2))])]⟩
def zputin_ok_1_5 (b r : List Int) : St := ⟨[(0,(LY b)),(1,(LI r)),(4,yq1),(5,yq2),(25,(dB (decide ((((b.length + 24) + (8 * r.length) : Nat) : Int) > 65536)))),(27,(.own 2)),(28,(LY b))],[yq0,(.var 55 [(dL 1 encLI [] ((readF b 0).1)),(LY ((readF b 0).2.1)),(i6 (tornF b)),(i6 ((endN b : Nat) : Int)),(dI .u64 ((readF b 0).2.2))]),yq3]⟩
def zputin_ok_1_6 (b r : List Int) : St := ⟨[(0,(LY b)),(1,(LI r)),(4,yq1),(5,yq2),(25,(dB (decide ((((b.length + 24) + (8 * r.length) : Nat) : Int) > 65536)))),(27,(.own 2)),(30,yq5)],[yq0,(.var 55 [(dL 1 encLI [] ((readF b 0).1)),(LY ((readF b 0).2.1)),(i6 (tornF b)),(i6 ((endN b : Nat) : Int)),(dI .u64 ((readF b 0).2.2))]),yq3]⟩
def zputin_ok_1_7 (b r : List Int) : St := ⟨[(0,(LY b)),(1,(LI r)),(4,yq1),(5,yq2),(25,(dB (decide ((((b.length + 24) + (8 * r.length) : Nat) : Int) > 65536)))),(27,(.own 2)),(32,(LI r))],[yq0,(.var 55 [(dL 1 encLI [] ((readF b 0).1)),(LY ((readF b 0).2.1)),(i6 (tornF b)),(i6 ((endN b : Nat) : Int)),(dI .u64 ((readF b 0).2.2))]),yq3]⟩
def zputin_ok_1_8 (b r : List Int) : St := ⟨[(0,(LY b)),(1,(LI r)),(4,yq1),(5,yq2),(25,(dB (decide ((((b.length + 24) + (8 * r.length) : Nat) : Int) > 65536)))),(28,(LY b)),(30,yq5)],[yq0,(.var 55 [(dL 1 encLI [] ((readF b 0).1)),(LY ((readF b 0).2.1)),(i6 (tornF b)),(i6 ((endN b : Nat) : Int)),(dI .u64 ((readF b 0).2.2))])]⟩
def zputin_ok_1_9 (b r : List Int) : St := ⟨[(0,(LY b)),(1,(LI r)),(4,yq1),(5,yq2),(25,(dB (decide ((((b.length + 24) + (8 * r.length) : Nat) : Int) > 65536)))),(28,(LY b)),(32,(LI r))],[yq0,(.var 55 [(dL 1 encLI [] ((readF b 0).1)),(LY ((readF b 0).2.1)),(i6 (tornF b)),(i6 ((endN b : Nat) : Int)),(dI .u64 ((readF b 0).2.2))])]⟩
def zputin_ok_1_10 (b r : List Int) : St := ⟨[(0,(LY b)),(1,(LI r)),(4,yq1),(5,yq2),(25,(dB (decide ((((b.length + 24) + (8 * r.length) : Nat) : Int) > 65536)))),(30,yq5),(31,(dI .u64 ((readF b 0).2.2)))],[yq0,(.var 55 [(dL 1 encLI [] ((readF b 0).1)),(LY ((readF b 0).2.1)),(i6 (tornF b)),(i6 ((endN b : Nat) : Int)),(dI .u64 ((readF b 0).2.2))])]⟩
def zputin_ok_1_11 (b r : List Int) : St := ⟨[(0,(LY b)),(1,(LI r)),(4,yq1),(5,yq2),(25,(dB (decide ((((b.length + 24) + (8 * r.length) : Nat) : Int) > 65536)))),(30,yq5),(32,(LI r))],[yq0,(.var 55 [(dL 1 encLI [] ((readF b 0).1)),(LY ((readF b 0).2.1)),(i6 (tornF b)),(i6 ((endN b : Nat) : Int)),(dI .u64 ((readF b 0).2.2))])]⟩
def zputin_ok_1_12 (b r : List Int) : St := ⟨[(0,(LY b)),(1,(LI r)),(4,yq1),(5,yq2),(25,(dB (decide ((((b.length + 24) + (8 * r.length) : Nat) : Int) > 65536)))),(27,.junk),(28,(LY b)),(29,(.own 2))],[yq0,(.var 55 [(dL 1 encLI [] ((readF b 0).1)),(LY ((readF b 0).2.1)),(i6 (tornF b)),(i6 ((endN b : Nat) : Int)),(dI .u64 ((readF b 0).2.2))]),(.arr 5 1 (encI .u8) 0 b)]⟩
def zputin_ok_1_13 (b r : List Int) : St := ⟨[(0,(LY b)),(1,(LI r)),(4,yq1),(5,yq2),(25,(dB (decide ((((b.length + 24) + (8 * r.length) : Nat) : Int) > 65536)))),(27,(.own 2)),(28,(LY b)),(30,yq5)],[yq0,(.var 55 [(dL 1 encLI [] ((readF b 0).1)),(LY ((readF b 0).2.1)),(i6 (tornF b)),(i6 ((endN b : Nat) : Int)),(dI .u64 ((readF b 0).2.2))]),yq3]⟩
def zputin_ok_1_14 (b r : List Int) : St := ⟨[(0,(LY b)),(1,(LI r)),(4,yq1),(5,yq2),(25,(dB (decide ((((b.length + 24) + (8 * r.length) : Nat) : Int) > 65536)))),(27,(.own 2)),(28,(LY b)),(32,(LI r))],[yq0,(.var 55 [(dL 1 encLI [] ((readF b 0).1)),(LY ((readF b 0).2.1)),(i6 (tornF b)),(i6 ((endN b : Nat) : Int)),(dI .u64 ((readF b 0).2.2))]),yq3]⟩
def zputin_ok_1_15 (b r : List Int) : St := ⟨[(0,(LY b)),(1,(LI r)),(4,yq1),(5,yq2),(25,(dB (decide ((((b.length + 24) + (8 * r.length) : Nat) : Int) > 65536)))),(27,(.own 2)),(30,yq5),(31,(dI .u64 ((readF b 0).2.2)))],[yq0,(.var 55 [(dL 1 encLI [] ((readF b 0).1)),(LY ((readF b 0).2.1)),(i6 (tornF b)),(i6 ((endN b : Nat) : Int)),(dI .u64 ((readF b 0).2.2))]),yq3]⟩
def zputin_ok_1_16 (b r : List Int) : St := ⟨[(0,(LY b)),(1,(LI r)),(4,yq1),(5,yq2),(25,(dB (decide ((((b.length + 24) + (8 * r.length) : Nat) : Int) > 65536)))),(27,(.own 2)),(30,yq5),(32,(LI r))],[yq0,(.var 55 [(dL 1 encLI [] ((readF b 0).1)),(LY ((readF b 0).2.1)),(i6 (tornF b)),(i6 ((endN b : Nat) : Int)),(dI .u64 ((readF b 0).2.2))]),yq3]⟩
def zputin_ok_1_17 (b r : List Int) : St := ⟨[(0,(LY b)),(1,(LI r)),(4,yq1),(5,yq2),(25,(dB (decide ((((b.length + 24) + (8 * r.length) : Nat) : Int) > 65536)))),(28,(LY b)),(30,yq5),(31,(dI .u64 ((readF b 0).2.2)))],[yq0,(.var 55 [(dL 1 encLI [] ((readF b 0).1)),(LY ((readF b 0).2.1)),(i6 (tornF b)),(i6 ((endN b : Nat) : Int)),(dI .u64 ((readF b 0).2.2))])]⟩
def zputin_ok_1_18 (b r : List Int) : St := ⟨[(0,(LY b)),(1,(LI r)),(4,yq1),(5,yq2),(25,(dB (decide ((((b.length + 24) + (8 * r.length) : Nat) : Int) > 65536)))),(28,(LY b)),(30,yq5),(32,(LI r))],[yq0,(.var 55 [(dL 1 encLI [] ((readF b 0).1)),(LY ((readF b 0).2.1)),(i6 (tornF b)),(i6 ((endN b : Nat) : Int)),(dI .u64 ((readF b 0).2.2))])]⟩
def zputin_ok_1_19 (b r : List Int) : St := ⟨[(0,(LY b)),(1,(LI r)),(4,yq1),(5,yq2),(25,(dB (decide ((((b.length + 24) + (8 * r.length) : Nat) : Int) > 65536)))),(30,yq5),(31,(dI .u64 ((readF b 0).2.2))),(32,(LI r))],[yq0,(.var 55 [(dL 1 encLI [] ((readF b 0).1)),(LY ((readF b 0).2.1)),(i6 (tornF b)),(i6 ((endN b : Nat) : Int)),(dI .u64 ((readF b 0).2.2))])]⟩
def zputin_ok_1_20 (b r : List Int) : St := ⟨[(0,(LY b)),(1,(LI r)),(4,yq1),(5,yq2),(25,(dB (decide ((((b.length + 24) + (8 * r.length) : Nat) : Int) > 65536)))),(27,.junk),(28,(LY b)),(29,(.own 2)),(30,yq5)],[yq0,(.var 55 [(dL 1 encLI [] ((readF b 0).1)),(LY ((readF b 0).2.1)),(i6 (tornF b)),(i6 ((endN b : Nat) : Int)),(dI .u64 ((readF b 0).2.2))]),(.arr 5 1 (encI .u8) 0 b)]⟩
def zputin_ok_1_21 (b r : List Int) : St := ⟨[(0,(LY b)),(1,(LI r)),(4,yq1),(5,yq2),(25,(dB (decide ((((b.length + 24) + (8 * r.length) : Nat) : Int) > 65536)))),(27,.junk),(28,(LY b)),(29,(.own 2)),(32,(LI r))],[yq0,(.var 55 [(dL 1 encLI [] ((readF b 0).1)),(LY ((readF b 0).2.1)),(i6 (tornF b)),(i6 ((endN b : Nat) : Int)),(dI .u64 ((readF b 0).2.2))]),(.arr 5 1 (encI .u8) 0 b)]⟩
def zputin_ok_1_22 (b r : List Int) : St := ⟨[(0,(LY b)),(1,(LI r)),(4,yq1),(5,yq2),(25,(dB (decide ((((b.length + 24) + (8 * r.length) : Nat) : Int) > 65536)))),(27,(.own 2)),(28,(LY b)),(30,yq5),(31,(dI .u64 ((readF b 0).2.2)))],[yq0,(.var 55 [(dL 1 encLI [] ((readF b 0).1)),(LY ((readF b 0).2.1)),(i6 (tornF b)),(i6 ((endN b : Nat) : Int)),(dI .u64 ((readF b 0).2.2))]),yq3]⟩
def zputin_ok_1_23 (b r : List Int) : St := ⟨[(0,(LY b)),(1,(LI r)),(4,yq1),(5,yq2),(25,(dB (decide ((((b.length + 24) + (8 * r.length) : Nat) : Int) > 65536)))),(27,(.own 2)),(28,(LY b)),(30,yq5),(32,(LI r))],[yq0,(.var 55 [(dL 1 encLI [] ((readF b 0).1)),(LY ((readF b 0).2.1)),(i6 (tornF b)),(i6 ((endN b : Nat) : Int)),(dI .u64 ((readF b 0).2.2))]),yq3]⟩
def zputin_ok_1_24 (b r : List Int) : St := ⟨[(0,(LY b)),(1,(LI r)),(4,yq1),(5,yq2),(25,(dB (decide ((((b.length + 24) + (8 * r.length) : Nat) : Int) > 65536)))),(27,(.own 2)),(30,yq5),(31,(dI .u64 ((readF b 0).2.2))),(32,(LI r))],[yq0,(.var 55 [(dL 1 encLI [] ((readF b 0).1)),(LY ((readF b 0).2.1)),(i6 (tornF b)),(i6 ((endN b : Nat) : Int)),(dI .u64 ((readF b 0).2.2))]),yq3]⟩
def zputin_ok_1_25 (b r : List Int) : St := ⟨[(0,(LY b)),(1,(LI r)),(4,yq1),(5,yq2),(25,(dB (decide ((((b.length + 24) + (8 * r.length) : Nat) : Int) > 65536)))),(28,(LY b)),(30,yq5),(31,(dI .u64 ((readF b 0).2.2))),(32,(LI r))],[yq0,(.var 55 [(dL 1 encLI [] ((readF b 0).1)),(LY ((readF b 0).2.1)),(i6 (tornF b)),(i6 ((endN b : Nat) : Int)),(dI .u64 ((readF b 0).2.2))])]⟩
def zputin_ok_1_26 (b r : List Int) : St := ⟨[(0,(LY b)),(1,(LI r)),(4,yq1),(5,yq2),(25,(dB (decide ((((b.length + 24) + (8 * r.length) : Nat) : Int) > 65536)))),(27,.junk),(28,(LY b)),(29,(.own 2)),(30,yq5),(31,(dI .u64 ((readF b 0).2.2)))],[yq0,(.var 55 [(dL 1 encLI [] ((readF b 0).1)),(LY ((readF b 0).2.1)),(i6 (tornF b)),(i6 ((endN b : Nat) : Int)),(dI .u64 ((readF b 0).2.2))]),(.arr 5 1 (encI .u8) 0 b)]⟩
def zputin_ok_1_27 (b r : List Int) : St := ⟨[(0,(LY b)),(1,(LI r)),(4,yq1),(5,yq2),(25,(dB (decide ((((b.length + 24) + (8 * r.length) : Nat) : Int) > 65536)))),(27,.junk),(28,(LY b)),(29,(.own 2)),(30,yq5),(32,(LI r))],[yq0,(.var 55 [(dL 1 encLI [] ((readF b 0).1)),(LY ((readF b 0).2.1)),(i6 (tornF b)),(i6 ((endN b : Nat) : Int)),(dI .u64 ((readF b 0).2.2))]),(.arr 5 1 (encI .u8) 0 b)]⟩
def zputin_ok_1_28 (b r : List Int) : St := ⟨[(0,(LY b)),(1,(LI r)),(4,yq1),(5,yq2),(25,(dB (decide ((((b.length + 24) + (8 * r.length) : Nat) : Int) > 65536)))),(27,(.own 2)),(28,(LY b)),(30,yq5),(31,(dI .u64 ((readF b 0).2.2))),(32,(LI r))],[yq0,(.var 55 [(dL 1 encLI [] ((readF b 0).1)),(LY ((readF b 0).2.1)),(i6 (tornF b)),(i6 ((endN b : Nat) : Int)),(dI .u64 ((readF b 0).2.2))]),yq3]⟩
def zputin_ok_1_29 (b r : List Int) : St := ⟨[(0,(LY b)),(1,(LI r)),(4,yq1),(5,yq2),(25,(dB (decide ((((b.length + 24) + (8 * r.length) : Nat) : Int) > 65536)))),(27,.junk),(28,(LY b)),(29,(.own 2)),(30,yq5),(31,(dI .u64 ((readF b 0).2.2))),(32,(LI r))],[yq0,(.var 55 [(dL 1 encLI [] ((readF b 0).1)),(LY ((readF b 0).2.1)),(i6 (tornF b)),(i6 ((endN b : Nat) : Int)),(dI .u64 ((readF b 0).2.2))]),(.arr 5 1 (encI .u8) 0 b)]⟩
def zputin_ok_1_30 (b r : List Int) : St := ⟨[(0,(LY b)),(1,(LI r)),(4,yq1),(5,yq2),(25,(dB (decide ((((b.length + 24) + (8 * r.length) : Nat) : Int) > 65536)))),(27,.junk),(28,(LY b)),(29,(.own 2)),(30,yq5),(31,(dI .u64 ((readF b 0).2.2))),(32,(LI r)),(33,(LY (encF ((readF b 0).2.2) r)))],[yq0,(.var 55 [(dL 1 encLI [] ((readF b 0).1)),(LY ((readF b 0).2.1)),(i6 (tornF b)),(i6 ((endN b : Nat) : Int)),(dI .u64 ((readF b 0).2.2))]),(.arr 5 1 (encI .u8) 0 b)]⟩
def zputin_ok_1_31 (b r : List Int) : St := ⟨[(0,(LY b)),(1,(LI r)),(4,yq1),(5,yq2),(25,(dB (decide ((((b.length + 24) + (8 * r.length) : Nat) : Int) > 65536)))),(27,.junk),(28,(LY b)),(29,.junk),(30,yq5),(31,(dI .u64 ((readF b 0).2.2))),(32,(LI r)),(33,(LY (encF ((readF b 0).2.2) r))),(34,(.own 2))],[yq0,(.var 55 [(dL 1 encLI [] ((readF b 0).1)),(LY ((readF b 0).2.1)),(i6 (tornF b)),(i6 ((endN b : Nat) : Int)),(dI .u64 ((readF b 0).2.2))]),(.arr 5 1 (encI .u8) 0 (b ++ encF (readF b 0).2.2 r))]⟩
def zputin_ok_1_32 (b r : List Int) : St := ⟨[(0,(LY b)),(1,(LI r)),(4,yq1),(5,yq2),(25,(dB (decide ((((b.length + 24) + (8 * r.length) : Nat) : Int) > 65536)))),(27,.junk),(28,(LY b)),(29,.junk),(30,yq5),(31,(dI .u64 ((readF b 0).2.2))),(32,(LI r)),(33,(LY (encF ((readF b 0).2.2) r))),(34,(.own 2)),(35,(.agg [(.own 2),(i6 0)]))],[yq0,(.var 55 [(dL 1 encLI [] ((readF b 0).1)),(LY ((readF b 0).2.1)),(i6 (tornF b)),(i6 ((endN b : Nat) : Int)),(dI .u64 ((readF b 0).2.2))]),(.arr 5 1 (encI .u8) 0 (b ++ encF (readF b 0).2.2 r))]⟩
def zputin_ok_1_33 (b r : List Int) : St := ⟨[(4,yq1)],[(.var 58 [(.own 2),(i6 0)]),(.var 55 [(dL 1 encLI [] ((readF b 0).1)),(LY ((readF b 0).2.1)),(i6 (tornF b)),(i6 ((endN b : Nat) : Int)),(dI .u64 ((readF b 0).2.2))]),(.arr 5 1 (encI .u8) 0 (b ++ encF (readF b 0).2.2 r))]⟩
set_option maxRecDepth 100000 in
theorem putin_ok (b r : List Int) (hb : Bytes8 b) (hbig : b.length ≤ 1000000) (hr : r.length ≤ 1000000) : CallOk Try.prog 29 [(LY b),(LI r)] [] true (.agg [(LY (jputJ b r)),(i6 (jputE b r))]) [] := by
  refine CallOk.of_ev Try.func29 rfl rfl rfl ?_
  rintro ⟨_,W,S0,_,susp,_⟩ rfl rfl rfl
  refine Ev.seq ?_
  refine Ev.reg [] [0,1,4] (st' := ⟨[(0,(LY b)),(1,(LI r)),(4,yq1)],[yq0]⟩)
    (p := True∧True) (by kernel_rfl)
    ⟨oK,oK⟩ ?_
  refine Ev.seq ?_
  refine Ev.seq ?_
  refine Ev.reg [] [0,1,4,8] (st' := ⟨[(0,(LY b)),(1,(LI r)),(4,yq1),(8,(dB (decide (((r.length : Nat) : Int) > 256))))],[yq0]⟩)
    (p := T3 True) (by kernel_rfl)
    ⟨oK,oK,oK,oK⟩ ?_
  refine Ev.cond _ rfl (fun hc8 => ?_) (fun hc8 => ?_)
  · try simp only [decide_eq_true_eq,decide_eq_false_iff_not,beq_iff_eq,bne_iff_ne,ne_eq,beq_eq_false_iff_ne,bne_eq_false_iff_eq,Bool.not_eq_true,Bool.not_eq_false,Bool.not_eq_true',Bool.not_eq_false',Bool.not_not,gt_iff_lt,ge_iff_le,Nat.not_lt,Int.not_lt,Int.not_le] at hc8
    refine Ev.seq ?_
    refine Ev.reg [] [4] (st' := ⟨[(4,yq1)],[(.var 58 [.nils,(i6 1)])]⟩)
      (p := T2 True) (by kernel_rfl)
      ⟨oK,oK,oK⟩ ?_
    refine Ev.ret ?_
    refine ⟨⟨oK,oK⟩,(?_ : (jputJ b r) = []∧(1 : Int) = (jputE b r)∧True),.inl rfl⟩
    exact ⟨by unfold jputJ; rw [if_pos (by omega)],by unfold jputE; rw [if_pos (by omega)],oK⟩
  · try simp only [decide_eq_true_eq,decide_eq_false_iff_not,beq_iff_eq,bne_iff_ne,ne_eq,beq_eq_false_iff_ne,bne_eq_false_iff_eq,Bool.not_eq_true,Bool.not_eq_false,Bool.not_eq_true',Bool.not_eq_false',Bool.not_not,gt_iff_lt,ge_iff_le,Nat.not_lt,Int.not_lt,Int.not_le] at hc8
    refine Ev.skip ?_
    refine Ev.seq ?_
    refine Ev.reg [(1,.call none true (.agg [(dL 1 encLI [] ((readF b 0).1)),(LY ((readF b 0).2.1)),(i6 (tornF b)),(i6 ((endN b : Nat) : Int)),(dI .u64 ((readF b 0).2.2))]))] [0,1,4,5] (st' := ⟨[(0,(LY b)),(1,(LI r)),(4,yq1),(5,yq2)],[yq0,(.var 55 [(dL 1 encLI [] ((readF b 0).1)),(LY ((readF b 0).2.1)),(i6 (tornF b)),(i6 ((endN b : Nat) : Int)),(dI .u64 ((readF b 0).2.2))])]⟩)
      (p := True∧callOb Try.prog 27 [yq0] [(LY b)] none true (.agg [(dL 1 encLI [] ((readF b 0).1)),(LY ((readF b 0).2.1)),(i6 (tornF b)),(i6 ((endN b : Nat) : Int)),(dI .u64 ((readF b 0).2.2))])∧T2 True) (by kernel_rfl)
      ⟨oK,(readin_ok _ (by assumption) (by first | omega | (simp; first | done | omega))),oK,oK,oK⟩ ?_
    refine Ev.seq ?_
    refine Ev.seq ?_
    refine Ev.reg [] [0,1,4,5,14] (st' := ⟨[(0,(LY b)),(1,(LI r)),(4,yq1),(5,yq2),(14,(dB ((tornF b) != 0)))],[yq0,(.var 55 [(dL 1 encLI [] ((readF b 0).1)),(LY ((readF b 0).2.1)),(i6 (tornF b)),(i6 ((endN b : Nat) : Int)),(dI .u64 ((readF b 0).2.2))])]⟩)
      (p := T3 True) (by kernel_rfl)
      ⟨oK,oK,oK,oK⟩ ?_
    refine Ev.cond _ rfl (fun hc14 => ?_) (fun hc14 => ?_)
    · try simp only [decide_eq_true_eq,decide_eq_false_iff_not,beq_iff_eq,bne_iff_ne,ne_eq,beq_eq_false_iff_ne,bne_eq_false_iff_eq,Bool.not_eq_true,Bool.not_eq_false,Bool.not_eq_true',Bool.not_eq_false',Bool.not_not,gt_iff_lt,ge_iff_le,Nat.not_lt,Int.not_lt,Int.not_le] at hc14
      refine Ev.seq ?_
      refine Ev.reg [] [4] (st' := ⟨[(4,yq1)],[(.var 58 [.nils,(i6 (tornF b))]),(.var 55 [(dL 1 encLI [] ((readF b 0).1)),(LY ((readF b 0).2.1)),(i6 (tornF b)),(i6 ((endN b : Nat) : Int)),(dI .u64 ((readF b 0).2.2))])]⟩)
        (p := T4 True) (by kernel_rfl)
        ⟨oK,oK,oK,oK,oK⟩ ?_
      refine Ev.ret ?_
      refine ⟨⟨oK,oK⟩,(?_ : (jputJ b r) = []∧(tornF b) = (jputE b r)∧True),.inl rfl⟩
      have ht : 0 < (readF b 0).2.1.length := torn_ne hc14
      exact ⟨by unfold jputJ; rw [if_neg (by omega),if_pos ht],by unfold jputE; rw [if_neg (by omega),if_pos ht,torn_yes ht],oK⟩
    · try simp only [decide_eq_true_eq,decide_eq_false_iff_not,beq_iff_eq,bne_iff_ne,ne_eq,beq_eq_false_iff_ne,bne_eq_false_iff_eq,Bool.not_eq_true,Bool.not_eq_false,Bool.not_eq_true',Bool.not_eq_false',Bool.not_not,gt_iff_lt,ge_iff_le,Nat.not_lt,Int.not_lt,Int.not_le] at hc14
      refine Ev.skip ?_
      refine Ev.seq ?_
      refine Ev.seq ?_
      refine Ev.reg [(2,.val (i6 ((b.length + 24 : Nat) : Int))),(5,.val (i6 ((8 * r.length : Nat) : Int))),(6,.val (i6 (((b.length + 24) + (8 * r.length) : Nat) : Int)))] [0,1,4,5,25] (st' := ⟨[(0,(LY b)),(1,(LI r)),(4,yq1),(5,yq2),(25,(dB (decide ((((b.length + 24) + (8 * r.length) : Nat) : Int) > 65536))))],[yq0,(.var 55 [(dL 1 encLI [] ((readF b 0).1)),(LY ((readF b 0).2.1)),(i6 (tornF b)),(i6 ((endN b : Nat) : Int)),(dI .u64 ((readF b 0).2.2))])]⟩)
        (p := T2 ((True∧(IntKind.wrap .i64 (((b.length : Nat) : Int) + 24)) = ((b.length + 24 : Nat) : Int))∧T2 ((True∧(IntKind.wrap .i64 (8 * ((r.length : Nat) : Int))) = ((8 * r.length : Nat) : Int))∧(True∧(IntKind.wrap .i64 (((b.length + 24 : Nat) : Int) + ((8 * r.length : Nat) : Int))) = (((b.length + 24) + (8 * r.length) : Nat) : Int))∧True∧True))) (by kernel_rfl)
        ⟨oK,oK,⟨oK,(w64n (by first | rfl | simp | omega) (by first | omega | (simp; first | done | omega)))⟩,oK,oK,⟨oK,(w64n (by first | rfl | simp | omega) (by first | omega | (simp; first | done | omega)))⟩,⟨oK,(w64n (by first | rfl | simp | omega) (by first | omega | (simp; first | done | omega)))⟩,oK,oK⟩ ?_
      refine Ev.cond _ rfl (fun hc25 => ?_) (fun hc25 => ?_)
      · try simp only [decide_eq_true_eq,decide_eq_false_iff_not,beq_iff_eq,bne_iff_ne,ne_eq,beq_eq_false_iff_ne,bne_eq_false_iff_eq,Bool.not_eq_true,Bool.not_eq_false,Bool.not_eq_true',Bool.not_eq_false',Bool.not_not,gt_iff_lt,ge_iff_le,Nat.not_lt,Int.not_lt,Int.not_le] at hc25
        refine Ev.seq ?_
        refine Ev.reg [] [4] (st' := ⟨[(4,yq1)],[(.var 58 [.nils,(i6 2)]),(.var 55 [(dL 1 encLI [] ((readF b 0).1)),(LY ((readF b 0).2.1)),(i6 (tornF b)),(i6 ((endN b : Nat) : Int)),(dI .u64 ((readF b 0).2.2))])]⟩)
          (p := T2 True) (by kernel_rfl)
          ⟨oK,oK,oK⟩ ?_
        refine Ev.ret ?_
        refine ⟨⟨oK,oK⟩,(?_ : (jputJ b r) = []∧(2 : Int) = (jputE b r)∧True),.inl rfl⟩
        have ht := torn_eq hc14
        exact ⟨by unfold jputJ; rw [if_neg (by omega),if_neg ht,if_pos (by omega)],by unfold jputE; rw [if_neg (by omega),if_neg ht,if_pos (by omega)],oK⟩
      · try simp only [decide_eq_true_eq,decide_eq_false_iff_not,beq_iff_eq,bne_iff_ne,ne_eq,beq_eq_false_iff_ne,bne_eq_false_iff_eq,Bool.not_eq_true,Bool.not_eq_false,Bool.not_eq_true',Bool.not_eq_false',Bool.not_not,gt_iff_lt,ge_iff_le,Nat.not_lt,Int.not_lt,Int.not_le] at hc25
        refine Ev.skip ?_
        refine Ev.seq ?_
        refine Ev.any [(0,.box 5 1 (encI .u8) 0 ([] : List Int)),(2,.box 5 1 (encI .u8) 0 b),(6,.call none true (LY (encF ((readF b 0).2.2) r))),(7,.box 5 1 (encI .u8) 0 (b ++ encF (readF b 0).2.2 r))] [((bm 10 0),(zputin_ok_1_0 b r)),((bm 10 1),(zputin_ok_1_1 b r)),((bm 10 2),(zputin_ok_1_2 b r)),((bm 10 8),(zputin_ok_1_3 b r)),((bm 10 32),(zputin_ok_1_4 b r)),((bm 10 3),(zputin_ok_1_5 b r)),((bm 10 9),(zputin_ok_1_6 b r)),((bm 10 33),(zputin_ok_1_7 b r)),((bm 10 10),(zputin_ok_1_8 b r)),((bm 10 34),(zputin_ok_1_9 b r)),((bm 10 24),(zputin_ok_1_10 b r)),((bm 10 40),(zputin_ok_1_11 b r)),((bm 10 7),(zputin_ok_1_12 b r)),((bm 10 11),(zputin_ok_1_13 b r)),((bm 10 35),(zputin_ok_1_14 b r)),((bm 10 25),(zputin_ok_1_15 b r)),((bm 10 41),(zputin_ok_1_16 b r)),((bm 10 26),(zputin_ok_1_17 b r)),((bm 10 42),(zputin_ok_1_18 b r)),((bm 10 56),(zputin_ok_1_19 b r)),((bm 10 15),(zputin_ok_1_20 b r)),((bm 10 39),(zputin_ok_1_21 b r)),((bm 10 27),(zputin_ok_1_22 b r)),((bm 10 43),(zputin_ok_1_23 b r)),((bm 10 57),(zputin_ok_1_24 b r)),((bm 10 58),(zputin_ok_1_25 b r)),((bm 10 31),(zputin_ok_1_26 b r)),((bm 10 47),(zputin_ok_1_27 b r)),((bm 10 59),(zputin_ok_1_28 b r)),((bm 10 63),(zputin_ok_1_29 b r)),((bm 10 127),(zputin_ok_1_30 b r)),((bm 10 255),(zputin_ok_1_31 b r)),((bm 10 511),(zputin_ok_1_32 b r)),((bm 10 1023),(zputin_ok_1_33 b r))] (st0 := (zputin_ok_1_0 b r)) (st' := ⟨[(4,yq1)],[(.var 58 [(.own 2),(i6 0)]),(.var 55 [(dL 1 encLI [] ((readF b 0).1)),(LY ((readF b 0).2.1)),(i6 (tornF b)),(i6 ((endN b : Nat) : Int)),(dI .u64 ((readF b 0).2.2))]),(.arr 5 1 (encI .u8) 0 (b ++ encF (readF b 0).2.2 r))]⟩)
          (p := ((sE (zputin_ok_1_1 b r) (eqRows [] (([] : List Int).map (encI .u8))))∧(sE (zputin_ok_1_2 b r) (True))∧(sE (zputin_ok_1_3 b r) (True))∧(sE (zputin_ok_1_4 b r) (True))∧True)∧((sE (zputin_ok_1_5 b r) (True))∧(sE (zputin_ok_1_6 b r) (True))∧(sE (zputin_ok_1_7 b r) (True))∧True)∧((sE (zputin_ok_1_5 b r) (eqRows [] (([] : List Int).map (encI .u8))))∧(sE (zputin_ok_1_8 b r) (True))∧(sE (zputin_ok_1_9 b r) (True))∧True)∧((sE (zputin_ok_1_6 b r) (eqRows [] (([] : List Int).map (encI .u8))))∧(sE (zputin_ok_1_8 b r) (True))∧(sE (zputin_ok_1_10 b r) (True))∧(sE (zputin_ok_1_11 b r) (True))∧True)∧((sE (zputin_ok_1_7 b r) (eqRows [] (([] : List Int).map (encI .u8))))∧(sE (zputin_ok_1_9 b r) (True))∧(sE (zputin_ok_1_11 b r) (True))∧True)∧((sE (zputin_ok_1_12 b r) ((([] : List Int).length + (b.map (encI .u8)).length ≤ 137438953472∧([] : List Int).map (encI .u8) ++ b.map (encI .u8) = b.map (encI .u8))))∧(sE (zputin_ok_1_13 b r) (True))∧(sE (zputin_ok_1_14 b r) (True))∧True)∧((sE (zputin_ok_1_13 b r) (True))∧(sE (zputin_ok_1_15 b r) (True))∧(sE (zputin_ok_1_16 b r) (True))∧True)∧((sE (zputin_ok_1_14 b r) (True))∧(sE (zputin_ok_1_16 b r) (True))∧True)∧((sE (zputin_ok_1_13 b r) (eqRows [] (([] : List Int).map (encI .u8))))∧(sE (zputin_ok_1_17 b r) (True))∧(sE (zputin_ok_1_18 b r) (True))∧True)∧((sE (zputin_ok_1_14 b r) (eqRows [] (([] : List Int).map (encI .u8))))∧(sE (zputin_ok_1_18 b r) (True))∧True)∧((sE (zputin_ok_1_15 b r) (eqRows [] (([] : List Int).map (encI .u8))))∧(sE (zputin_ok_1_17 b r) (True))∧(sE (zputin_ok_1_19 b r) (True))∧True)∧((sE (zputin_ok_1_16 b r) (eqRows [] (([] : List Int).map (encI .u8))))∧(sE (zputin_ok_1_18 b r) (True))∧(sE (zputin_ok_1_19 b r) (True))∧True)∧((sE (zputin_ok_1_20 b r) (True))∧(sE (zputin_ok_1_21 b r) (True))∧True)∧((sE (zputin_ok_1_20 b r) ((([] : List Int).length + (b.map (encI .u8)).length ≤ 137438953472∧([] : List Int).map (encI .u8) ++ b.map (encI .u8) = b.map (encI .u8))))∧(sE (zputin_ok_1_22 b r) (True))∧(sE (zputin_ok_1_23 b r) (True))∧True)∧((sE (zputin_ok_1_21 b r) ((([] : List Int).length + (b.map (encI .u8)).length ≤ 137438953472∧([] : List Int).map (encI .u8) ++ b.map (encI .u8) = b.map (encI .u8))))∧(sE (zputin_ok_1_23 b r) (True))∧True)∧((sE (zputin_ok_1_22 b r) (True))∧(sE (zputin_ok_1_24 b r) (True))∧True)∧((sE (zputin_ok_1_23 b r) (True))∧(sE (zputin_ok_1_24 b r) (True))∧True)∧((sE (zputin_ok_1_22 b r) (eqRows [] (([] : List Int).map (encI .u8))))∧(sE (zputin_ok_1_25 b r) (True))∧True)∧((sE (zputin_ok_1_23 b r) (eqRows [] (([] : List Int).map (encI .u8))))∧(sE (zputin_ok_1_25 b r) (True))∧True)∧((sE (zputin_ok_1_24 b r) (eqRows [] (([] : List Int).map (encI .u8))))∧(sE (zputin_ok_1_25 b r) (True))∧True)∧((sE (zputin_ok_1_26 b r) (True))∧(sE (zputin_ok_1_27 b r) (True))∧True)∧((sE (zputin_ok_1_27 b r) (True))∧True)∧((sE (zputin_ok_1_26 b r) ((([] : List Int).length + (b.map (encI .u8)).length ≤ 137438953472∧([] : List Int).map (encI .u8) ++ b.map (encI .u8) = b.map (encI .u8))))∧(sE (zputin_ok_1_28 b r) (True))∧True)∧((sE (zputin_ok_1_27 b r) ((([] : List Int).length + (b.map (encI .u8)).length ≤ 137438953472∧([] : List Int).map (encI .u8) ++ b.map (encI .u8) = b.map (encI .u8))))∧(sE (zputin_ok_1_28 b r) (True))∧True)∧((sE (zputin_ok_1_28 b r) (True))∧True)∧((sE (zputin_ok_1_28 b r) (eqRows [] (([] : List Int).map (encI .u8))))∧True)∧((sE (zputin_ok_1_29 b r) (True))∧True)∧((sE (zputin_ok_1_29 b r) (True))∧True)∧((sE (zputin_ok_1_29 b r) ((([] : List Int).length + (b.map (encI .u8)).length ≤ 137438953472∧([] : List Int).map (encI .u8) ++ b.map (encI .u8) = b.map (encI .u8))))∧True)∧((sE (zputin_ok_1_30 b r) (callOb Try.prog 56 [yq0,(.var 55 [(dL 1 encLI [] ((readF b 0).1)),(LY ((readF b 0).2.1)),(i6 (tornF b)),(i6 ((endN b : Nat) : Int)),(dI .u64 ((readF b 0).2.2))]),(.arr 5 1 (encI .u8) 0 b)] [(dI .u64 ((readF b 0).2.2)),(LI r)] none true (LY (encF ((readF b 0).2.2) r))))∧True)∧((sE (zputin_ok_1_31 b r) ((b.length + ((encF ((readF b 0).2.2) r).map (encI .u8)).length ≤ 137438953472∧b.map (encI .u8) ++ (encF ((readF b 0).2.2) r).map (encI .u8) = (b ++ encF (readF b 0).2.2 r).map (encI .u8))))∧True)∧((sE (zputin_ok_1_32 b r) (True))∧True)∧((sE (zputin_ok_1_33 b r) (True))∧True)∧True∧True) (by kernel_rfl) (by kernel_rfl) (by kernel_rfl) (by kernel_rfl) (by kernel_rfl) (by kernel_rfl)
          ⟨⟨⟨rfl,oK,oK⟩,⟨rfl,oK,oK⟩,⟨rfl,oK,oK⟩,⟨rfl,oK,oK⟩,oK⟩,⟨⟨rfl,oK,oK⟩,⟨rfl,oK,oK⟩,⟨rfl,oK,oK⟩,oK⟩,⟨⟨rfl,oK,oK⟩,⟨rfl,oK,oK⟩,⟨rfl,oK,oK⟩,oK⟩,⟨⟨rfl,oK,oK⟩,⟨rfl,oK,oK⟩,⟨rfl,oK,oK⟩,⟨rfl,oK,oK⟩,oK⟩,⟨⟨rfl,oK,oK⟩,⟨rfl,oK,oK⟩,⟨rfl,oK,oK⟩,oK⟩,⟨⟨rfl,⟨by simp; omega,by simp⟩,oK⟩,⟨rfl,oK,oK⟩,⟨rfl,oK,oK⟩,oK⟩,⟨⟨rfl,oK,oK⟩,⟨rfl,oK,oK⟩,⟨rfl,oK,oK⟩,oK⟩,⟨⟨rfl,oK,oK⟩,⟨rfl,oK,oK⟩,oK⟩,⟨⟨rfl,oK,oK⟩,⟨rfl,oK,oK⟩,⟨rfl,oK,oK⟩,oK⟩,⟨⟨rfl,oK,oK⟩,⟨rfl,oK,oK⟩,oK⟩,⟨⟨rfl,oK,oK⟩,⟨rfl,oK,oK⟩,⟨rfl,oK,oK⟩,oK⟩,⟨⟨rfl,oK,oK⟩,⟨rfl,oK,oK⟩,⟨rfl,oK,oK⟩,oK⟩,⟨⟨rfl,oK,oK⟩,⟨rfl,oK,oK⟩,oK⟩,⟨⟨rfl,⟨by simp; omega,by simp⟩,oK⟩,⟨rfl,oK,oK⟩,⟨rfl,oK,oK⟩,oK⟩,⟨⟨rfl,⟨by simp; omega,by simp⟩,oK⟩,⟨rfl,oK,oK⟩,oK⟩,⟨⟨rfl,oK,oK⟩,⟨rfl,oK,oK⟩,oK⟩,⟨⟨rfl,oK,oK⟩,⟨rfl,oK,oK⟩,oK⟩,⟨⟨rfl,oK,oK⟩,⟨rfl,oK,oK⟩,oK⟩,⟨⟨rfl,oK,oK⟩,⟨rfl,oK,oK⟩,oK⟩,⟨⟨rfl,oK,oK⟩,⟨rfl,oK,oK⟩,oK⟩,⟨⟨rfl,oK,oK⟩,⟨rfl,oK,oK⟩,oK⟩,⟨⟨rfl,oK,oK⟩,oK⟩,⟨⟨rfl,⟨by simp; omega,by simp⟩,oK⟩,⟨rfl,oK,oK⟩,oK⟩,⟨⟨rfl,⟨by simp; omega,by simp⟩,oK⟩,⟨rfl,oK,oK⟩,oK⟩,⟨⟨rfl,oK,oK⟩,oK⟩,⟨⟨rfl,oK,oK⟩,oK⟩,⟨⟨rfl,oK,oK⟩,oK⟩,⟨⟨rfl,oK,oK⟩,oK⟩,⟨⟨rfl,⟨by simp; omega,by simp⟩,oK⟩,oK⟩,⟨⟨rfl,(encoded_ok _ _ (by first | omega | (simp; first | done | omega))),oK⟩,oK⟩,⟨⟨rfl,⟨by simp only [List.length_map]; rw [encF_len]; omega,by simp⟩,oK⟩,oK⟩,⟨⟨rfl,oK,oK⟩,oK⟩,⟨⟨rfl,oK,oK⟩,oK⟩,oK,oK⟩ ?_
        refine Ev.ret ?_
        refine ⟨⟨oK,oK⟩,(?_ : (b ++ encF (readF b 0).2.2 r).map (encI .u8) = (jputJ b r).map (encI .u8)∧(0 : Int) = (jputE b r)∧True),.inl rfl⟩
        have ht := torn_eq hc14
        exact ⟨by unfold jputJ; rw [if_neg (by omega),if_neg ht,if_neg (by omega)],by unfold jputE; rw [if_neg (by omega),if_neg ht,if_neg (by omega)],oK⟩

def zputin_own_1_0 (b r : List Int) : St := ⟨[(0,(LY b)),(1,(LI r)),(4,yq1),(5,yq2),(25,(dB false))],[yq0,(.var 55 [(dL 1 encLI [] ((readF b 0).1)),(LY ((readF b 0).2.1)),(i6 (tornF b)),(i6 ((endN b : Nat) : Int)),(dI .u64 ((readF b 0).2.2))])]⟩
def zputin_own_1_1 (b r : List Int) : St := ⟨[(0,(LY b)),(1,(LI r)),(4,yq1),(5,yq2),(25,(dB false)),(27,(.own 2))],[yq0,(.var 55 [(dL 1 encLI [] ((readF b 0).1)),(LY ((readF b 0).2.1)),(i6 (tornF b)),(i6 ((endN b : Nat) : Int)),(dI .u64 ((readF b 0).2.2))]),yq3]⟩
def zputin_own_1_2 (b r : List Int) : St := ⟨[(0,(LY b)),(1,(LI r)),(4,yq1),(5,yq2),(25,(dB false)),(28,(LY b))],[yq0,(.var 55 [(dL 1 encLI [] ((readF b 0).1)),(LY ((readF b 0).2.1)),(i6 (tornF b)),(i6 ((endN b : Nat) : Int)),(dI .u64 ((readF b 0).2.2))])]⟩
def zputin_own_1_3 (b r : List Int) : St := ⟨[(0,(LY b)),(1,(LI r)),(4,yq1),(5,yq2),(25,(dB false)),(30,yq5)],[yq0,(.var 55 [(dL 1 encLI [] ((readF b 0).1)),(LY ((readF b 0).2.1)),(i6 (tornF b)),(i6 ((endN b : Nat) : Int)),(dI .u64 ((readF b 0).2.2))])]⟩
def zputin_own_1_4 (b r : List Int) : St := ⟨[(0,(LY b)),(1,(LI r)),(4,yq1),(5,yq2),(25,(dB false)),(32,(LI r))],[yq0,(.var 55 [(dL 1 encLI [] ((readF b 0).1)),(LY ((readF b 0).2.1)),(i6 (tornF b)),(i6 ((endN b : Nat) : Int)),(dI .u64 ((readF b 0).2.2))])]⟩
def zputin_own_1_5 (b r : List Int) : St := ⟨[(0,(LY b)),(1,(LI r)),(4,yq1),(5,yq2),(25,(dB false)),(27,(.own 2)),(28,(LY b))],[yq0,(.var 55 [(dL 1 encLI [] ((readF b 0).1)),(LY ((readF b 0).2.1)),(i6 (tornF b)),(i6 ((endN b : Nat) : Int)),(dI .u64 ((readF b 0).2.2))]),yq3]⟩
def zputin_own_1_6 (b r : List Int) : St := ⟨[(0,(LY b)),(1,(LI r)),(4,yq1),(5,yq2),(25,(dB false)),(27,(.own 2)),(30,yq5)],[yq0,(.var 55 [(dL 1 encLI [] ((readF b 0).1)),(LY ((readF b 0).2.1)),(i6 (tornF b)),(i6 ((endN b : Nat) : Int)),(dI .u64 ((readF b 0).2.2))]),yq3]⟩
def zputin_own_1_7 (b r : List Int) : St := ⟨[(0,(LY b)),(1,(LI r)),(4,yq1),(5,yq2),(25,(dB false)),(27,(.own 2)),(32,(LI r))],[yq0,(.var 55 [(dL 1 encLI [] ((readF b 0).1)),(LY ((readF b 0).2.1)),(i6 (tornF b)),(i6 ((endN b : Nat) : Int)),(dI .u64 ((readF b 0).2.2))]),yq3]⟩
def zputin_own_1_8 (b r : List Int) : St := ⟨[(0,(LY b)),(1,(LI r)),(4,yq1),(5,yq2),(25,(dB false)),(28,(LY b)),(30,yq5)],[yq0,(.var 55 [(dL 1 encLI [] ((readF b 0).1)),(LY ((readF b 0).2.1)),(i6 (tornF b)),(i6 ((endN b : Nat) : Int)),(dI .u64 ((readF b 0).2.2))])]⟩
def zputin_own_1_9 (b r : List Int) : St := ⟨[(0,(LY b)),(1,(LI r)),(4,yq1),(5,yq2),(25,(dB false)),(28,(LY b)),(32,(LI r))],[yq0,(.var 55 [(dL 1 encLI [] ((readF b 0).1)),(LY ((readF b 0).2.1)),(i6 (tornF b)),(i6 ((endN b : Nat) : Int)),(dI .u64 ((readF b 0).2.2))])]⟩
def zputin_own_1_10 (b r : List Int) : St := ⟨[(0,(LY b)),(1,(LI r)),(4,yq1),(5,yq2),(25,(dB false)),(30,yq5),(31,(dI .u64 ((readF b 0).2.2)))],[yq0,(.var 55 [(dL 1 encLI [] ((readF b 0).1)),(LY ((readF b 0).2.1)),(i6 (tornF b)),(i6 ((endN b : Nat) : Int)),(dI .u64 ((readF b 0).2.2))])]⟩
def zputin_own_1_11 (b r : List Int) : St := ⟨[(0,(LY b)),(1,(LI r)),(4,yq1),(5,yq2),(25,(dB false)),(30,yq5),(32,(LI r))],[yq0,(.var 55 [(dL 1 encLI [] ((readF b 0).1)),(LY ((readF b 0).2.1)),(i6 (tornF b)),(i6 ((endN b : Nat) : Int)),(dI .u64 ((readF b 0).2.2))])]⟩
def zputin_own_1_12 (b r : List Int) : St := ⟨[(0,(LY b)),(1,(LI r)),(4,yq1),(5,yq2),(25,(dB false)),(27,.junk),(28,(LY b)),(29,(.own 2))],[yq0,(.var 55 [(dL 1 encLI [] ((readF b 0).1)),(LY ((readF b 0).2.1)),(i6 (tornF b)),(i6 ((endN b : Nat) : Int)),(dI .u64 ((readF b 0).2.2))]),(.arr 5 1 (encI .u8) 0 b)]⟩
def zputin_own_1_13 (b r : List Int) : St := ⟨[(0,(LY b)),(1,(LI r)),(4,yq1),(5,yq2),(25,(dB false)),(27,(.own 2)),(28,(LY b)),(30,yq5)],[yq0,(.var 55 [(dL 1 encLI [] ((readF b 0).1)),(LY ((readF b 0).2.1)),(i6 (tornF b)),(i6 ((endN b : Nat) : Int)),(dI .u64 ((readF b 0).2.2))]),yq3]⟩
def zputin_own_1_14 (b r : List Int) : St := ⟨[(0,(LY b)),(1,(LI r)),(4,yq1),(5,yq2),(25,(dB false)),(27,(.own 2)),(28,(LY b)),(32,(LI r))],[yq0,(.var 55 [(dL 1 encLI [] ((readF b 0).1)),(LY ((readF b 0).2.1)),(i6 (tornF b)),(i6 ((endN b : Nat) : Int)),(dI .u64 ((readF b 0).2.2))]),yq3]⟩
def zputin_own_1_15 (b r : List Int) : St := ⟨[(0,(LY b)),(1,(LI r)),(4,yq1),(5,yq2),(25,(dB false)),(27,(.own 2)),(30,yq5),(31,(dI .u64 ((readF b 0).2.2)))],[yq0,(.var 55 [(dL 1 encLI [] ((readF b 0).1)),(LY ((readF b 0).2.1)),(i6 (tornF b)),(i6 ((endN b : Nat) : Int)),(dI .u64 ((readF b 0).2.2))]),yq3]⟩
def zputin_own_1_16 (b r : List Int) : St := ⟨[(0,(LY b)),(1,(LI r)),(4,yq1),(5,yq2),(25,(dB false)),(27,(.own 2)),(30,yq5),(32,(LI r))],[yq0,(.var 55 [(dL 1 encLI [] ((readF b 0).1)),(LY ((readF b 0).2.1)),(i6 (tornF b)),(i6 ((endN b : Nat) : Int)),(dI .u64 ((readF b 0).2.2))]),yq3]⟩
def zputin_own_1_17 (b r : List Int) : St := ⟨[(0,(LY b)),(1,(LI r)),(4,yq1),(5,yq2),(25,(dB false)),(28,(LY b)),(30,yq5),(31,(dI .u64 ((readF b 0).2.2)))],[yq0,(.var 55 [(dL 1 encLI [] ((readF b 0).1)),(LY ((readF b 0).2.1)),(i6 (tornF b)),(i6 ((endN b : Nat) : Int)),(dI .u64 ((readF b 0).2.2))])]⟩
def zputin_own_1_18 (b r : List Int) : St := ⟨[(0,(LY b)),(1,(LI r)),(4,yq1),(5,yq2),(25,(dB false)),(28,(LY b)),(30,yq5),(32,(LI r))],[yq0,(.var 55 [(dL 1 encLI [] ((readF b 0).1)),(LY ((readF b 0).2.1)),(i6 (tornF b)),(i6 ((endN b : Nat) : Int)),(dI .u64 ((readF b 0).2.2))])]⟩
def zputin_own_1_19 (b r : List Int) : St := ⟨[(0,(LY b)),(1,(LI r)),(4,yq1),(5,yq2),(25,(dB false)),(30,yq5),(31,(dI .u64 ((readF b 0).2.2))),(32,(LI r))],[yq0,(.var 55 [(dL 1 encLI [] ((readF b 0).1)),(LY ((readF b 0).2.1)),(i6 (tornF b)),(i6 ((endN b : Nat) : Int)),(dI .u64 ((readF b 0).2.2))])]⟩
def zputin_own_1_20 (b r : List Int) : St := ⟨[(0,(LY b)),(1,(LI r)),(4,yq1),(5,yq2),(25,(dB false)),(27,.junk),(28,(LY b)),(29,(.own 2)),(30,yq5)],[yq0,(.var 55 [(dL 1 encLI [] ((readF b 0).1)),(LY ((readF b 0).2.1)),(i6 (tornF b)),(i6 ((endN b : Nat) : Int)),(dI .u64 ((readF b 0).2.2))]),(.arr 5 1 (encI .u8) 0 b)]⟩
def zputin_own_1_21 (b r : List Int) : St := ⟨[(0,(LY b)),(1,(LI r)),(4,yq1),(5,yq2),(25,(dB false)),(27,.junk),(28,(LY b)),(29,(.own 2)),(32,(LI r))],[yq0,(.var 55 [(dL 1 encLI [] ((readF b 0).1)),(LY ((readF b 0).2.1)),(i6 (tornF b)),(i6 ((endN b : Nat) : Int)),(dI .u64 ((readF b 0).2.2))]),(.arr 5 1 (encI .u8) 0 b)]⟩
def zputin_own_1_22 (b r : List Int) : St := ⟨[(0,(LY b)),(1,(LI r)),(4,yq1),(5,yq2),(25,(dB false)),(27,(.own 2)),(28,(LY b)),(30,yq5),(31,(dI .u64 ((readF b 0).2.2)))],[yq0,(.var 55 [(dL 1 encLI [] ((readF b 0).1)),(LY ((readF b 0).2.1)),(i6 (tornF b)),(i6 ((endN b : Nat) : Int)),(dI .u64 ((readF b 0).2.2))]),yq3]⟩
def zputin_own_1_23 (b r : List Int) : St := ⟨[(0,(LY b)),(1,(LI r)),(4,yq1),(5,yq2),(25,(dB false)),(27,(.own 2)),(28,(LY b)),(30,yq5),(32,(LI r))],[yq0,(.var 55 [(dL 1 encLI [] ((readF b 0).1)),(LY ((readF b 0).2.1)),(i6 (tornF b)),(i6 ((endN b : Nat) : Int)),(dI .u64 ((readF b 0).2.2))]),yq3]⟩
def zputin_own_1_24 (b r : List Int) : St := ⟨[(0,(LY b)),(1,(LI r)),(4,yq1),(5,yq2),(25,(dB false)),(27,(.own 2)),(30,yq5),(31,(dI .u64 ((readF b 0).2.2))),(32,(LI r))],[yq0,(.var 55 [(dL 1 encLI [] ((readF b 0).1)),(LY ((readF b 0).2.1)),(i6 (tornF b)),(i6 ((endN b : Nat) : Int)),(dI .u64 ((readF b 0).2.2))]),yq3]⟩
def zputin_own_1_25 (b r : List Int) : St := ⟨[(0,(LY b)),(1,(LI r)),(4,yq1),(5,yq2),(25,(dB false)),(28,(LY b)),(30,yq5),(31,(dI .u64 ((readF b 0).2.2))),(32,(LI r))],[yq0,(.var 55 [(dL 1 encLI [] ((readF b 0).1)),(LY ((readF b 0).2.1)),(i6 (tornF b)),(i6 ((endN b : Nat) : Int)),(dI .u64 ((readF b 0).2.2))])]⟩
def zputin_own_1_26 (b r : List Int) : St := ⟨[(0,(LY b)),(1,(LI r)),(4,yq1),(5,yq2),(25,(dB false)),(27,.junk),(28,(LY b)),(29,(.own 2)),(30,yq5),(31,(dI .u64 ((readF b 0).2.2)))],[yq0,(.var 55 [(dL 1 encLI [] ((readF b 0).1)),(LY ((readF b 0).2.1)),(i6 (tornF b)),(i6 ((endN b : Nat) : Int)),(dI .u64 ((readF b 0).2.2))]),(.arr 5 1 (encI .u8) 0 b)]⟩
def zputin_own_1_27 (b r : List Int) : St := ⟨[(0,(LY b)),(1,(LI r)),(4,yq1),(5,yq2),(25,(dB false)),(27,.junk),(28,(LY b)),(29,(.own 2)),(30,yq5),(32,(LI r))],[yq0,(.var 55 [(dL 1 encLI [] ((readF b 0).1)),(LY ((readF b 0).2.1)),(i6 (tornF b)),(i6 ((endN b : Nat) : Int)),(dI .u64 ((readF b 0).2.2))]),(.arr 5 1 (encI .u8) 0 b)]⟩
def zputin_own_1_28 (b r : List Int) : St := ⟨[(0,(LY b)),(1,(LI r)),(4,yq1),(5,yq2),(25,(dB false)),(27,(.own 2)),(28,(LY b)),(30,yq5),(31,(dI .u64 ((readF b 0).2.2))),(32,(LI r))],[yq0,(.var 55 [(dL 1 encLI [] ((readF b 0).1)),(LY ((readF b 0).2.1)),(i6 (tornF b)),(i6 ((endN b : Nat) : Int)),(dI .u64 ((readF b 0).2.2))]),yq3]⟩
def zputin_own_1_29 (b r : List Int) : St := ⟨[(0,(LY b)),(1,(LI r)),(4,yq1),(5,yq2),(25,(dB false)),(27,.junk),(28,(LY b)),(29,(.own 2)),(30,yq5),(31,(dI .u64 ((readF b 0).2.2))),(32,(LI r))],[yq0,(.var 55 [(dL 1 encLI [] ((readF b 0).1)),(LY ((readF b 0).2.1)),(i6 (tornF b)),(i6 ((endN b : Nat) : Int)),(dI .u64 ((readF b 0).2.2))]),(.arr 5 1 (encI .u8) 0 b)]⟩
def zputin_own_1_30 (b r : List Int) : St := ⟨[(0,(LY b)),(1,(LI r)),(4,yq1),(5,yq2),(25,(dB false)),(27,.junk),(28,(LY b)),(29,(.own 2)),(30,yq5),(31,(dI .u64 ((readF b 0).2.2))),(32,(LI r)),(33,(LY (encF ((readF b 0).2.2) r)))],[yq0,(.var 55 [(dL 1 encLI [] ((readF b 0).1)),(LY ((readF b 0).2.1)),(i6 (tornF b)),(i6 ((endN b : Nat) : Int)),(dI .u64 ((readF b 0).2.2))]),(.arr 5 1 (encI .u8) 0 b)]⟩
def zputin_own_1_31 (b r : List Int) : St := ⟨[(0,(LY b)),(1,(LI r)),(4,yq1),(5,yq2),(25,(dB false)),(27,.junk),(28,(LY b)),(29,.junk),(30,yq5),(31,(dI .u64 ((readF b 0).2.2))),(32,(LI r)),(33,(LY (encF ((readF b 0).2.2) r))),(34,(.own 2))],[yq0,(.var 55 [(dL 1 encLI [] ((readF b 0).1)),(LY ((readF b 0).2.1)),(i6 (tornF b)),(i6 ((endN b : Nat) : Int)),(dI .u64 ((readF b 0).2.2))]),(.arr 5 1 (encI .u8) 0 (b ++ encF (readF b 0).2.2 r))]⟩
def zputin_own_1_32 (b r : List Int) : St := ⟨[(0,(LY b)),(1,(LI r)),(4,yq1),(5,yq2),(25,(dB false)),(27,.junk),(28,(LY b)),(29,.junk),(30,yq5),(31,(dI .u64 ((readF b 0).2.2))),(32,(LI r)),(33,(LY (encF ((readF b 0).2.2) r))),(34,(.own 2)),(35,(.agg [(.own 2),(i6 0)]))],[yq0,(.var 55 [(dL 1 encLI [] ((readF b 0).1)),(LY ((readF b 0).2.1)),(i6 (tornF b)),(i6 ((endN b : Nat) : Int)),(dI .u64 ((readF b 0).2.2))]),(.arr 5 1 (encI .u8) 0 (b ++ encF (readF b 0).2.2 r))]⟩
def zputin_own_1_33 (b r : List Int) : St := ⟨[(4,yq1)],[(.var 58 [(.own 2),(i6 0)]),(.var 55 [(dL 1 encLI [] ((readF b 0).1)),(LY ((readF b 0).2.1)),(i6 (tornF b)),(i6 ((endN b : Nat) : Int)),(dI .u64 ((readF b 0).2.2))]),(.arr 5 1 (encI .u8) 0 (b ++ encF (readF b 0).2.2 r))]⟩
set_option maxRecDepth 100000 in
theorem putin_own (b r : List Int) (hb : Bytes8 b) (hbig : b.length ≤ 1000000) (hr : r.length ≤ 256) (h0 : (readF b 0).2.1 = []) (hs : b.length + 24 + 8 * r.length ≤ 65536) : CallOk Try.prog 29 [(LY b),(LI r)] [] false (.agg [(.own 0),(i6 0)]) [(.arr 5 1 (encI .u8) 0 (jputJ b r))] := by
  refine CallOk.of_evO Try.func29 rfl rfl rfl ?_
  rintro ⟨_,W,S0,_,susp,_⟩ rfl rfl rfl
  refine Ev.seq ?_
  refine Ev.reg [] [0,1,4] (st' := ⟨[(0,(LY b)),(1,(LI r)),(4,yq1)],[yq0]⟩)
    (p := True∧True) (by kernel_rfl)
    ⟨oK,oK⟩ ?_
  refine Ev.seq ?_
  refine Ev.seq ?_
  refine Ev.reg [(2,.val (dB false))] [0,1,4,8] (st' := ⟨[(0,(LY b)),(1,(LI r)),(4,yq1),(8,(dB false))],[yq0]⟩)
    (p := T2 ((True∧(decide (((r.length : Nat) : Int) > 256)) = false)∧True)) (by kernel_rfl)
    ⟨oK,oK,⟨oK,(by exact decide_eq_false (by omega))⟩,oK⟩ ?_
  refine Ev.cond false rfl (fun h => (by cases h)) (fun _ => ?_)
  refine Ev.skip ?_
  refine Ev.seq ?_
  refine Ev.reg [(1,.call none true (.agg [(dL 1 encLI [] ((readF b 0).1)),(LY ((readF b 0).2.1)),(i6 (tornF b)),(i6 ((endN b : Nat) : Int)),(dI .u64 ((readF b 0).2.2))]))] [0,1,4,5] (st' := ⟨[(0,(LY b)),(1,(LI r)),(4,yq1),(5,yq2)],[yq0,(.var 55 [(dL 1 encLI [] ((readF b 0).1)),(LY ((readF b 0).2.1)),(i6 (tornF b)),(i6 ((endN b : Nat) : Int)),(dI .u64 ((readF b 0).2.2))])]⟩)
    (p := True∧callOb Try.prog 27 [yq0] [(LY b)] none true (.agg [(dL 1 encLI [] ((readF b 0).1)),(LY ((readF b 0).2.1)),(i6 (tornF b)),(i6 ((endN b : Nat) : Int)),(dI .u64 ((readF b 0).2.2))])∧T2 True) (by kernel_rfl)
    ⟨oK,(readin_ok _ (by assumption) (by first | omega | (simp; first | done | omega))),oK,oK,oK⟩ ?_
  refine Ev.seq ?_
  refine Ev.seq ?_
  refine Ev.reg [(2,.val (dB false))] [0,1,4,5,14] (st' := ⟨[(0,(LY b)),(1,(LI r)),(4,yq1),(5,yq2),(14,(dB false))],[yq0,(.var 55 [(dL 1 encLI [] ((readF b 0).1)),(LY ((readF b 0).2.1)),(i6 (tornF b)),(i6 ((endN b : Nat) : Int)),(dI .u64 ((readF b 0).2.2))])]⟩)
    (p := T2 ((True∧((tornF b) != 0) = false)∧True)) (by kernel_rfl)
    ⟨oK,oK,⟨oK,(by rw [torn_no (by rw [h0]; rfl)]; rfl)⟩,oK⟩ ?_
  refine Ev.cond false rfl (fun h => (by cases h)) (fun _ => ?_)
  refine Ev.skip ?_
  refine Ev.seq ?_
  refine Ev.seq ?_
  refine Ev.reg [(2,.val (i6 ((b.length + 24 : Nat) : Int))),(5,.val (i6 ((8 * r.length : Nat) : Int))),(6,.val (i6 (((b.length + 24) + (8 * r.length) : Nat) : Int))),(7,.val (dB false))] [0,1,4,5,25] (st' := ⟨[(0,(LY b)),(1,(LI r)),(4,yq1),(5,yq2),(25,(dB false))],[yq0,(.var 55 [(dL 1 encLI [] ((readF b 0).1)),(LY ((readF b 0).2.1)),(i6 (tornF b)),(i6 ((endN b : Nat) : Int)),(dI .u64 ((readF b 0).2.2))])]⟩)
    (p := T2 ((True∧(IntKind.wrap .i64 (((b.length : Nat) : Int) + 24)) = ((b.length + 24 : Nat) : Int))∧T2 ((True∧(IntKind.wrap .i64 (8 * ((r.length : Nat) : Int))) = ((8 * r.length : Nat) : Int))∧(True∧(IntKind.wrap .i64 (((b.length + 24 : Nat) : Int) + ((8 * r.length : Nat) : Int))) = (((b.length + 24) + (8 * r.length) : Nat) : Int))∧(True∧(decide ((((b.length + 24) + (8 * r.length) : Nat) : Int) > 65536)) = false)∧True))) (by kernel_rfl)
    ⟨oK,oK,⟨oK,(w64n (by first | rfl | simp | omega) (by first | omega | (simp; first | done | omega)))⟩,oK,oK,⟨oK,(w64n (by first | rfl | simp | omega) (by first | omega | (simp; first | done | omega)))⟩,⟨oK,(w64n (by first | rfl | simp | omega) (by first | omega | (simp; first | done | omega)))⟩,⟨oK,(by exact decide_eq_false (by omega))⟩,oK⟩ ?_
  refine Ev.cond false rfl (fun h => (by cases h)) (fun _ => ?_)
  refine Ev.skip ?_
  refine Ev.seq ?_
  refine Ev.any [(0,.box 5 1 (encI .u8) 0 ([] : List Int)),(2,.box 5 1 (encI .u8) 0 b),(6,.call none true (LY (encF ((readF b 0).2.2) r))),(7,.box 5 1 (encI .u8) 0 (b ++ encF (readF b 0).2.2 r))] [((bm 10 0),(zputin_own_1_0 b r)),((bm 10 1),(zputin_own_1_1 b r)),((bm 10 2),(zputin_own_1_2 b r)),((bm 10 8),(zputin_own_1_3 b r)),((bm 10 32),(zputin_own_1_4 b r)),((bm 10 3),(zputin_own_1_5 b r)),((bm 10 9),(zputin_own_1_6 b r)),((bm 10 33),(zputin_own_1_7 b r)),((bm 10 10),(zputin_own_1_8 b r)),((bm 10 34),(zputin_own_1_9 b r)),((bm 10 24),(zputin_own_1_10 b r)),((bm 10 40),(zputin_own_1_11 b r)),((bm 10 7),(zputin_own_1_12 b r)),((bm 10 11),(zputin_own_1_13 b r)),((bm 10 35),(zputin_own_1_14 b r)),((bm 10 25),(zputin_own_1_15 b r)),((bm 10 41),(zputin_own_1_16 b r)),((bm 10 26),(zputin_own_1_17 b r)),((bm 10 42),(zputin_own_1_18 b r)),((bm 10 56),(zputin_own_1_19 b r)),((bm 10 15),(zputin_own_1_20 b r)),((bm 10 39),(zputin_own_1_21 b r)),((bm 10 27),(zputin_own_1_22 b r)),((bm 10 43),(zputin_own_1_23 b r)),((bm 10 57),(zputin_own_1_24 b r)),((bm 10 58),(zputin_own_1_25 b r)),((bm 10 31),(zputin_own_1_26 b r)),((bm 10 47),(zputin_own_1_27 b r)),((bm 10 59),(zputin_own_1_28 b r)),((bm 10 63),(zputin_own_1_29 b r)),((bm 10 127),(zputin_own_1_30 b r)),((bm 10 255),(zputin_own_1_31 b r)),((bm 10 511),(zputin_own_1_32 b r)),((bm 10 1023),(zputin_own_1_33 b r))] (st0 := (zputin_own_1_0 b r)) (st' := ⟨[(4,yq1)],[(.var 58 [(.own 2),(i6 0)]),(.var 55 [(dL 1 encLI [] ((readF b 0).1)),(LY ((readF b 0).2.1)),(i6 (tornF b)),(i6 ((endN b : Nat) : Int)),(dI .u64 ((readF b 0).2.2))]),(.arr 5 1 (encI .u8) 0 (b ++ encF (readF b 0).2.2 r))]⟩)
    (p := ((sE (zputin_own_1_1 b r) (eqRows [] (([] : List Int).map (encI .u8))))∧(sE (zputin_own_1_2 b r) (True))∧(sE (zputin_own_1_3 b r) (True))∧(sE (zputin_own_1_4 b r) (True))∧True)∧((sE (zputin_own_1_5 b r) (True))∧(sE (zputin_own_1_6 b r) (True))∧(sE (zputin_own_1_7 b r) (True))∧True)∧((sE (zputin_own_1_5 b r) (eqRows [] (([] : List Int).map (encI .u8))))∧(sE (zputin_own_1_8 b r) (True))∧(sE (zputin_own_1_9 b r) (True))∧True)∧((sE (zputin_own_1_6 b r) (eqRows [] (([] : List Int).map (encI .u8))))∧(sE (zputin_own_1_8 b r) (True))∧(sE (zputin_own_1_10 b r) (True))∧(sE (zputin_own_1_11 b r) (True))∧True)∧((sE (zputin_own_1_7 b r) (eqRows [] (([] : List Int).map (encI .u8))))∧(sE (zputin_own_1_9 b r) (True))∧(sE (zputin_own_1_11 b r) (True))∧True)∧((sE (zputin_own_1_12 b r) ((([] : List Int).length + (b.map (encI .u8)).length ≤ 137438953472∧([] : List Int).map (encI .u8) ++ b.map (encI .u8) = b.map (encI .u8))))∧(sE (zputin_own_1_13 b r) (True))∧(sE (zputin_own_1_14 b r) (True))∧True)∧((sE (zputin_own_1_13 b r) (True))∧(sE (zputin_own_1_15 b r) (True))∧(sE (zputin_own_1_16 b r) (True))∧True)∧((sE (zputin_own_1_14 b r) (True))∧(sE (zputin_own_1_16 b r) (True))∧True)∧((sE (zputin_own_1_13 b r) (eqRows [] (([] : List Int).map (encI .u8))))∧(sE (zputin_own_1_17 b r) (True))∧(sE (zputin_own_1_18 b r) (True))∧True)∧((sE (zputin_own_1_14 b r) (eqRows [] (([] : List Int).map (encI .u8))))∧(sE (zputin_own_1_18 b r) (True))∧True)∧((sE (zputin_own_1_15 b r) (eqRows [] (([] : List Int).map (encI .u8))))∧(sE (zputin_own_1_17 b r) (True))∧(sE (zputin_own_1_19 b r) (True))∧True)∧((sE (zputin_own_1_16 b r) (eqRows [] (([] : List Int).map (encI .u8))))∧(sE (zputin_own_1_18 b r) (True))∧(sE (zputin_own_1_19 b r) (True))∧True)∧((sE (zputin_own_1_20 b r) (True))∧(sE (zputin_own_1_21 b r) (True))∧True)∧((sE (zputin_own_1_20 b r) ((([] : List Int).length + (b.map (encI .u8)).length ≤ 137438953472∧([] : List Int).map (encI .u8) ++ b.map (encI .u8) = b.map (encI .u8))))∧(sE (zputin_own_1_22 b r) (True))∧(sE (zputin_own_1_23 b r) (True))∧True)∧((sE (zputin_own_1_21 b r) ((([] : List Int).length + (b.map (encI .u8)).length ≤ 137438953472∧([] : List Int).map (encI .u8) ++ b.map (encI .u8) = b.map (encI .u8))))∧(sE (zputin_own_1_23 b r) (True))∧True)∧((sE (zputin_own_1_22 b r) (True))∧(sE (zputin_own_1_24 b r) (True))∧True)∧((sE (zputin_own_1_23 b r) (True))∧(sE (zputin_own_1_24 b r) (True))∧True)∧((sE (zputin_own_1_22 b r) (eqRows [] (([] : List Int).map (encI .u8))))∧(sE (zputin_own_1_25 b r) (True))∧True)∧((sE (zputin_own_1_23 b r) (eqRows [] (([] : List Int).map (encI .u8))))∧(sE (zputin_own_1_25 b r) (True))∧True)∧((sE (zputin_own_1_24 b r) (eqRows [] (([] : List Int).map (encI .u8))))∧(sE (zputin_own_1_25 b r) (True))∧True)∧((sE (zputin_own_1_26 b r) (True))∧(sE (zputin_own_1_27 b r) (True))∧True)∧((sE (zputin_own_1_27 b r) (True))∧True)∧((sE (zputin_own_1_26 b r) ((([] : List Int).length + (b.map (encI .u8)).length ≤ 137438953472∧([] : List Int).map (encI .u8) ++ b.map (encI .u8) = b.map (encI .u8))))∧(sE (zputin_own_1_28 b r) (True))∧True)∧((sE (zputin_own_1_27 b r) ((([] : List Int).length + (b.map (encI .u8)).length ≤ 137438953472∧([] : List Int).map (encI .u8) ++ b.map (encI .u8) = b.map (encI .u8))))∧(sE (zputin_own_1_28 b r) (True))∧True)∧((sE (zputin_own_1_28 b r) (True))∧True)∧((sE (zputin_own_1_28 b r) (eqRows [] (([] : List Int).map (encI .u8))))∧True)∧((sE (zputin_own_1_29 b r) (True))∧True)∧((sE (zputin_own_1_29 b r) (True))∧True)∧((sE (zputin_own_1_29 b r) ((([] : List Int).length + (b.map (encI .u8)).length ≤ 137438953472∧([] : List Int).map (encI .u8) ++ b.map (encI .u8) = b.map (encI .u8))))∧True)∧((sE (zputin_own_1_30 b r) (callOb Try.prog 56 [yq0,(.var 55 [(dL 1 encLI [] ((readF b 0).1)),(LY ((readF b 0).2.1)),(i6 (tornF b)),(i6 ((endN b : Nat) : Int)),(dI .u64 ((readF b 0).2.2))]),(.arr 5 1 (encI .u8) 0 b)] [(dI .u64 ((readF b 0).2.2)),(LI r)] none true (LY (encF ((readF b 0).2.2) r))))∧True)∧((sE (zputin_own_1_31 b r) ((b.length + ((encF ((readF b 0).2.2) r).map (encI .u8)).length ≤ 137438953472∧b.map (encI .u8) ++ (encF ((readF b 0).2.2) r).map (encI .u8) = (b ++ encF (readF b 0).2.2 r).map (encI .u8))))∧True)∧((sE (zputin_own_1_32 b r) (True))∧True)∧((sE (zputin_own_1_33 b r) (True))∧True)∧True∧True) (by kernel_rfl) (by kernel_rfl) (by kernel_rfl) (by kernel_rfl) (by kernel_rfl) (by kernel_rfl)
    ⟨⟨⟨rfl,oK,oK⟩,⟨rfl,oK,oK⟩,⟨rfl,oK,oK⟩,⟨rfl,oK,oK⟩,oK⟩,⟨⟨rfl,oK,oK⟩,⟨rfl,oK,oK⟩,⟨rfl,oK,oK⟩,oK⟩,⟨⟨rfl,oK,oK⟩,⟨rfl,oK,oK⟩,⟨rfl,oK,oK⟩,oK⟩,⟨⟨rfl,oK,oK⟩,⟨rfl,oK,oK⟩,⟨rfl,oK,oK⟩,⟨rfl,oK,oK⟩,oK⟩,⟨⟨rfl,oK,oK⟩,⟨rfl,oK,oK⟩,⟨rfl,oK,oK⟩,oK⟩,⟨⟨rfl,⟨by simp; omega,by simp⟩,oK⟩,⟨rfl,oK,oK⟩,⟨rfl,oK,oK⟩,oK⟩,⟨⟨rfl,oK,oK⟩,⟨rfl,oK,oK⟩,⟨rfl,oK,oK⟩,oK⟩,⟨⟨rfl,oK,oK⟩,⟨rfl,oK,oK⟩,oK⟩,⟨⟨rfl,oK,oK⟩,⟨rfl,oK,oK⟩,⟨rfl,oK,oK⟩,oK⟩,⟨⟨rfl,oK,oK⟩,⟨rfl,oK,oK⟩,oK⟩,⟨⟨rfl,oK,oK⟩,⟨rfl,oK,oK⟩,⟨rfl,oK,oK⟩,oK⟩,⟨⟨rfl,oK,oK⟩,⟨rfl,oK,oK⟩,⟨rfl,oK,oK⟩,oK⟩,⟨⟨rfl,oK,oK⟩,⟨rfl,oK,oK⟩,oK⟩,⟨⟨rfl,⟨by simp; omega,by simp⟩,oK⟩,⟨rfl,oK,oK⟩,⟨rfl,oK,oK⟩,oK⟩,⟨⟨rfl,⟨by simp; omega,by simp⟩,oK⟩,⟨rfl,oK,oK⟩,oK⟩,⟨⟨rfl,oK,oK⟩,⟨rfl,oK,oK⟩,oK⟩,⟨⟨rfl,oK,oK⟩,⟨rfl,oK,oK⟩,oK⟩,⟨⟨rfl,oK,oK⟩,⟨rfl,oK,oK⟩,oK⟩,⟨⟨rfl,oK,oK⟩,⟨rfl,oK,oK⟩,oK⟩,⟨⟨rfl,oK,oK⟩,⟨rfl,oK,oK⟩,oK⟩,⟨⟨rfl,oK,oK⟩,⟨rfl,oK,oK⟩,oK⟩,⟨⟨rfl,oK,oK⟩,oK⟩,⟨⟨rfl,⟨by simp; omega,by simp⟩,oK⟩,⟨rfl,oK,oK⟩,oK⟩,⟨⟨rfl,⟨by simp; omega,by simp⟩,oK⟩,⟨rfl,oK,oK⟩,oK⟩,⟨⟨rfl,oK,oK⟩,oK⟩,⟨⟨rfl,oK,oK⟩,oK⟩,⟨⟨rfl,oK,oK⟩,oK⟩,⟨⟨rfl,oK,oK⟩,oK⟩,⟨⟨rfl,⟨by simp; omega,by simp⟩,oK⟩,oK⟩,⟨⟨rfl,(encoded_ok _ _ (by first | omega | (simp; first | done | omega))),oK⟩,oK⟩,⟨⟨rfl,⟨by simp only [List.length_map]; rw [encF_len]; omega,by simp⟩,oK⟩,oK⟩,⟨⟨rfl,oK,oK⟩,oK⟩,⟨⟨rfl,oK,oK⟩,oK⟩,oK,oK⟩ ?_
  refine Ev.ret ?_
  refine ⟨⟨oK,oK⟩,2,(congrArg (fun l => some (Box.arr 5 1 (encI .u8) 0 l)) (?_ : b ++ encF (readF b 0).2.2 r = jputJ b r)),⟨rfl,rfl,rfl,(by first | rfl | exact rfl | omega),oK⟩⟩
  exact (by unfold jputJ; rw [if_neg (by omega),if_neg (by rw [h0]; simp),if_neg (by omega)])

set_option maxRecDepth 100000 in
theorem rwhole_ok (b : List Int) (hb : Bytes8 b) (hbig : b.length ≤ 137438953472) : CallOk Try.prog 33 [(LY b)] [] true (LY (wholeF b)) [] := by
  refine CallOk.of_ev Try.func33 rfl rfl rfl ?_
  rintro ⟨_,W,S0,_,susp,_⟩ rfl rfl rfl
  have hE : endN b ≤ b.length := Nat.sub_le _ _
  refine Ev.seq ?_
  refine Ev.reg [] [0] (st' := ⟨[(0,(LY b))],[]⟩)
    (p := True∧True) (by kernel_rfl)
    ⟨oK,oK⟩ ?_
  refine Ev.seq ?_
  refine Ev.reg [(2,.call none true (.agg [(dL 1 encLI [] ((readF b 0).1)),(LY ((readF b 0).2.1)),(i6 (tornF b)),(i6 ((endN b : Nat) : Int)),(dI .u64 ((readF b 0).2.2))]))] [2] (st' := ⟨[(2,(LY ((b.take (endN b)).drop 0)))],[]⟩)
    (p := T2 (callOb Try.prog 27 [] [(LY b)] none true (.agg [(dL 1 encLI [] ((readF b 0).1)),(LY ((readF b 0).2.1)),(i6 (tornF b)),(i6 ((endN b : Nat) : Int)),(dI .u64 ((readF b 0).2.2))])∧True∧(0 ≤ (0 : Int)∧(0 : Int) ≤ ((endN b : Nat) : Int)∧((endN b : Nat) : Int) ≤ (b.length : Int))∧True∧True)) (by kernel_rfl)
    ⟨oK,oK,(readin_ok _ (by assumption) (by first | omega | (simp; first | done | omega))),oK,(by first | omega | (simp; first | done | omega)),oK,oK⟩ ?_
  refine Ev.ret ?_
  refine ⟨⟨oK,oK⟩,(?_ : ((b.take (endN b)).drop 0).map (encI .u8) = (wholeF b).map (encI .u8)),.inl rfl⟩
  rfl

set_option maxRecDepth 100000 in
theorem rcut_ok (b : List Int) (n : Int) (hbig : b.length ≤ 137438953472) : CallOk Try.prog 35 [(LY b),(i6 n)] [] true (LY (cutF b n)) [] := by
  refine CallOk.of_ev Try.func35 rfl rfl rfl ?_
  rintro ⟨_,W,S0,_,susp,_⟩ rfl rfl rfl
  refine Ev.seq ?_
  refine Ev.reg [] [0,1] (st' := ⟨[(0,(LY b)),(1,(i6 n))],[]⟩)
    (p := True∧True) (by kernel_rfl)
    ⟨oK,oK⟩ ?_
  refine Ev.seq ?_
  have hc := cutN_le b n
  refine Ev.reg [(5,.val (i6 ((cutN b n : Nat) : Int)))] [4] (st' := ⟨[(4,(LY ((b.take (cutN b n)).drop 0)))],[]⟩)
    (p := T5 ((True∧(maxI 0 (minI n ((b.length : Nat) : Int))) = ((cutN b n : Nat) : Int))∧(0 ≤ (0 : Int)∧(0 : Int) ≤ ((cutN b n : Nat) : Int)∧((cutN b n : Nat) : Int) ≤ (b.length : Int))∧True∧True)) (by kernel_rfl)
    ⟨oK,oK,oK,oK,oK,⟨oK,(by unfold cutN minI maxI; split <;> split <;> omega)⟩,(by first | omega | (simp; first | done | omega)),oK,oK⟩ ?_
  refine Ev.ret ?_
  refine ⟨⟨oK,oK⟩,(?_ : ((b.take (cutN b n)).drop 0).map (encI .u8) = (cutF b n).map (encI .u8)),.inl rfl⟩
  rfl

set_option maxRecDepth 100000 in
theorem journal_ok (l : List (List Int)) (hS : SmallOk l) : CallOk Try.prog 25 [(dL 1 encLI [] l)] [] false (.own 0) [(.arr 5 1 (encI .u8) 0 (jr l l.length))] := by
  refine CallOk.of_evO Try.func25 rfl rfl rfl ?_
  rintro ⟨_,W,S0,_,susp,_⟩ rfl rfl rfl
  have hAll := hS.all
  have hLR := hS.lenR
  have hl12 := hS.len
  have hl1 := hS.recs.1
  refine Ev.seq ?_
  refine Ev.reg [] [0] (st' := ⟨[(0,(dL 1 encLI [] l))],[]⟩)
    (p := True∧True) (by kernel_rfl)
    ⟨oK,oK⟩ ?_
  refine Ev.seq ?_
  refine Ev.reg [(0,.box 5 1 (encI .u8) 0 (jr l 0))] [0,3] (st' := ⟨[(0,(dL 1 encLI [] l)),(3,(.own 0))],[(.arr 5 1 (encI .u8) 0 (jr l 0))]⟩)
    (p := eqRows [] ((jr l 0).map (encI .u8))∧True∧True) (by kernel_rfl)
    ⟨oK,oK,oK⟩ ?_
  refine Ev.seq ?_
  refine Ev.seq ?_
  refine Ev.reg [] [0,3,4] (st' := ⟨[(0,(dL 1 encLI [] l)),(3,(.own 0)),(4,(i6 0))],[(.arr 5 1 (encI .u8) 0 (jr l 0))]⟩)
    (p := True∧True) (by kernel_rfl)
    ⟨oK,oK⟩ ?_
  refine Ev.block ?_
  refine Ev.loop [0,3,4] 1 (fun (k : Nat) => ⟨[(0,(dL 1 encLI [] l)),(3,(.own 0)),(4,(i6 ((k : Nat) : Int)))],[(.arr 5 1 (encI .u8) 0 (jr l k))]⟩) (fun (k : Nat) => k ≤ l.length) (fun (k : Nat) => l.length - k) 0 (by kernel_rfl) (by omega) ?_
  rintro k hinv
  have hinv : k ≤ l.length := hinv
  have hk := hinv
  refine Ev.seq ?_
  refine Ev.seq ?_
  refine Ev.reg [] [0,3,4,9] (st' := ⟨[(0,(dL 1 encLI [] l)),(3,(.own 0)),(4,(i6 ((k : Nat) : Int))),(9,(dB (decide (((k : Nat) : Int) < ((l.length : Nat) : Int)))))],[(.arr 5 1 (encI .u8) 0 (jr l k))]⟩)
    (p := T4 True) (by kernel_rfl)
    ⟨oK,oK,oK,oK,oK⟩ ?_
  refine Ev.cond _ rfl (fun hc9 => ?_) (fun hc9 => ?_)
  · try simp only [decide_eq_true_eq,decide_eq_false_iff_not,beq_iff_eq,bne_iff_ne,ne_eq,beq_eq_false_iff_ne,bne_eq_false_iff_eq,Bool.not_eq_true,Bool.not_eq_false,Bool.not_eq_true',Bool.not_eq_false',Bool.not_not,gt_iff_lt,ge_iff_le,Nat.not_lt,Int.not_lt,Int.not_le] at hc9
    refine Ev.skip ?_
    refine Ev.seq ?_
    refine Ev.block ?_
    have q1 := jr_8 l k
    have q0 := jr_length hAll (by omega) (show k ≤ l.length by omega)
    have q6 := lenR_take_le l k
    have q2 : (jr l k).length ≤ 1000000 := by omega
    have q7 : (l.getD k []).length ≤ 12 := hS.each _ (getD_mem (by omega))
    have q3 : (l.getD k []).length ≤ 256 := by omega
    have q4 : (readF (jr l k) 0).2.1 = [] := by rw [jr_encs hAll (by omega) k (by omega),read_all _ _ (hAll.take k)]
    have q5 : (jr l k).length + 24 + 8 * (l.getD k []).length ≤ 65536 := by omega
    refine Ev.reg [(5,.ownc (some [(LY (jr l k)),(LI (l.getD k []))]) (.agg [(.own 0),(i6 0)]) (.arr 5 1 (encI .u8) 0 (jputJ (jr l k) (l.getD k []))))] [0,3,4] (st' := ⟨[(0,(dL 1 encLI [] l)),(3,(.own 1)),(4,(i6 ((k : Nat) : Int)))],[(.arr 5 1 (encI .u8) 0 (jr l k)),(.arr 5 1 (encI .u8) 0 (jputJ (jr l k) (l.getD k [])))]⟩)
      (p := T3 ((0 ≤ ((k : Nat) : Int)∧((k : Nat) : Int) < (l.length : Int))∧True∧callObO Try.prog 29 [(.arr 5 1 (encI .u8) 0 (jr l k))] [(.own 0),(LI (l.getD k []))] (some [(LY (jr l k)),(LI (l.getD k []))]) (.agg [(.own 0),(i6 0)]) (.arr 5 1 (encI .u8) 0 (jputJ (jr l k) (l.getD k [])))∧T2 True)) (by kernel_rfl)
      ⟨oK,oK,oK,(by first | omega | (simp; first | done | omega)),oK,⟨flat_I,⟨rfl,rfl,oK⟩,(putin_own _ _ q1 q2 q3 q4 q5)⟩,oK,oK,oK⟩ ?_
    refine Ev.move 1 0 (st' := ⟨[(0,(dL 1 encLI [] l)),(3,(.own 0)),(4,(i6 ((k : Nat) : Int)))],[(.arr 5 1 (encI .u8) 0 (jputJ (jr l k) (l.getD k []))),.dead]⟩) (by kernel_rfl) ?_
    refine Ev.reg [(1,.val (i6 ((k + 1 : Nat) : Int)))] [0,3,4] (st' := ⟨[(0,(dL 1 encLI [] l)),(3,(.own 0)),(4,(i6 ((k + 1 : Nat) : Int)))],[(.arr 5 1 (encI .u8) 0 (jputJ (jr l k) (l.getD k []))),.dead]⟩)
      (p := True∧(True∧(IntKind.wrap .i64 (((k : Nat) : Int) + 1)) = ((k + 1 : Nat) : Int))∧True∧True) (by kernel_rfl)
      ⟨oK,⟨oK,(w64n (by first | rfl | simp | omega) (by first | omega | (simp; first | done | omega)))⟩,oK,oK⟩ ?_
    refine ⟨k + 1,by kernel_rfl,(?_ : (k + 1) ≤ l.length),(?_ : l.length - (k + 1) < l.length - k)⟩
    · omega
    · omega
  · try simp only [decide_eq_true_eq,decide_eq_false_iff_not,beq_iff_eq,bne_iff_ne,ne_eq,beq_eq_false_iff_ne,bne_eq_false_iff_eq,Bool.not_eq_true,Bool.not_eq_false,Bool.not_eq_true',Bool.not_eq_false',Bool.not_not,gt_iff_lt,ge_iff_le,Nat.not_lt,Int.not_lt,Int.not_le] at hc9
    refine Ev.exit ?_
    refine Ev.seq ?_
    refine Ev.reg [] [2] (st' := ⟨[(2,(.own 0))],[(.arr 5 1 (encI .u8) 0 (jr l k))]⟩)
      (p := T2 True) (by kernel_rfl)
      ⟨oK,oK,oK⟩ ?_
    refine Ev.ret ?_
    refine ⟨⟨oK,oK⟩,0,(congrArg (fun l => some (Box.arr 5 1 (encI .u8) 0 l)) (?_ : jr l k = jr l l.length)),⟨rfl,rfl⟩⟩
    rw [show k = l.length from by omega]

end Go.Proofs.Ytjmfaebimgnblaa
