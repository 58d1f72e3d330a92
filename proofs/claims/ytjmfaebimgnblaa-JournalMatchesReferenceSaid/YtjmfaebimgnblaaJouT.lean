/-
  JournalMatchesReference.
-/
import Derived.Test.YtjmfaebimgnblaaJouQ
import Derived.Test.YtjmfaebimgnblaaJouS
import Derived.Test.YtjmfaebimgnblaaJouG
namespace Go.Proofs.Ytjmfaebimgnblaa
open Go.RowKit
set_option linter.unusedVariables false
set_option linter.unusedSimpArgs false
abbrev yt2 (k0 k1 k2 k3 : Nat) : Box := (.var 49 [(dI .u16 ((k0 : Nat) : Int)),(dI .u16 ((k1 : Nat) : Int)),(dI .u16 ((k2 : Nat) : Int)),(dI .u16 ((k3 : Nat) : Int))])
abbrev yt6 (b : List Int) (l : List (List Int)) (k0 k1 k2 i : Nat) : List D := [(dL 1 encLI [] ((readF ([b,cutJ l k0 k1 k2].getD i []) 0).1)),(LY ((readF ([b,cutJ l k0 k1 k2].getD i []) 0).2.1)),(i6 (tornF ([b,cutJ l k0 k1 k2].getD i []))),(i6 0),(dI .u64 0)]
abbrev yt4 (b : List Int) (l : List (List Int)) (k0 k1 k2 i : Nat) : List D := [(dL 1 encLI [] ((readF ([b,cutJ l k0 k1 k2].getD i []) 0).1)),(LY ((readF ([b,cutJ l k0 k1 k2].getD i []) 0).2.1)),(i6 (tornF ([b,cutJ l k0 k1 k2].getD i []))),(i6 ((endN ([b,cutJ l k0 k1 k2].getD i []) : Nat) : Int)),(dI .u64 ((readF ([b,cutJ l k0 k1 k2].getD i []) 0).2.2))]
abbrev yt9 (b : List Int) (l : List (List Int)) (k0 k1 k2 i k3 j : Nat) : List D := [(LY (jputJ ([b,cutJ l k0 k1 k2].getD i []) (rJ k3 j))),(i6 (jputE ([b,cutJ l k0 k1 k2].getD i []) (rJ k3 j)))]
abbrev yt0 (k0 k1 k2 k3 : Nat) (b : List Int) (l : List (List Int)) (i j : Nat) : List Box := [(yt2 k0 k1 k2 k3),.dead,.dead,.dead,(.var 55 (yt6 b l k0 k1 k2 i)),(.var 55 (yt4 b l k0 k1 k2 i)),(.var 58 (yt9 b l k0 k1 k2 i k3 j)),(.var 58 (yt9 b l k0 k1 k2 i k3 j))]
abbrev yt5 (b : List Int) (l : List (List Int)) (i : Nat) : List D := [(dL 1 encLI [] ((readF ([b,jr l l.length].getD i []) 0).1)),(LY ((readF ([b,jr l l.length].getD i []) 0).2.1)),(i6 (tornF ([b,jr l l.length].getD i []))),(i6 0),(dI .u64 0)]
abbrev yt3 (b : List Int) (l : List (List Int)) (i : Nat) : List D := [(dL 1 encLI [] ((readF ([b,jr l l.length].getD i []) 0).1)),(LY ((readF ([b,jr l l.length].getD i []) 0).2.1)),(i6 (tornF ([b,jr l l.length].getD i []))),(i6 ((endN ([b,jr l l.length].getD i []) : Nat) : Int)),(dI .u64 ((readF ([b,jr l l.length].getD i []) 0).2.2))]
abbrev yt8 (b : List Int) (l : List (List Int)) (i k3 j : Nat) : List D := [(LY (jputJ ([b,jr l l.length].getD i []) (rJ k3 j))),(i6 (jputE ([b,jr l l.length].getD i []) (rJ k3 j)))]
abbrev yt1 (k0 k1 k2 k3 : Nat) (b : List Int) (l : List (List Int)) (i j : Nat) : List Box := [(yt2 k0 k1 k2 k3),.dead,.dead,.dead,(.var 55 (yt5 b l i)),(.var 55 (yt3 b l i)),(.var 58 (yt8 b l i k3 j)),(.var 58 (yt8 b l i k3 j))]
abbrev yt7 : D := (.ptr 0 0 0 0)
abbrev yt10 (k0 k1 k2 k3 j : Nat) : List Box := [(yt2 k0 k1 k2 k3),.dead,(.arr 3 1 (encI .i64) 0 (rJ k3 (j + 1))),(.arr 3 1 (encI .i64) 0 [((7 * j : Nat) : Int) - ((k3 : Nat) : Int)])]
abbrev yt11 (k0 k1 k2 k3 : Nat) : List Box := [(yt2 k0 k1 k2 k3),.dead,.dead,.dead]
abbrev yt12 (b : List Int) (l : List (List Int)) (i k0 : Nat) : D := (LY (cutF ([b,jr l l.length].getD i []) (((k0 : Nat) : Int) - 9)))
abbrev yt13 (b : List Int) (l : List (List Int)) (k0 k1 k2 i : Nat) : D := (LY (cutF ([b,cutJ l k0 k1 k2].getD i []) (((k0 : Nat) : Int) - 9)))
abbrev yt14 (b : List Int) (l : List (List Int)) : D := (dL 1 encLY [] [b,jr l l.length])
abbrev yt15 (i : Nat) : D := (i6 ((i : Nat) : Int))
abbrev yt16 (k0 : Nat) : D := (i6 (((k0 : Nat) : Int) - 9))
abbrev yt17 (b : List Int) (l : List (List Int)) (i : Nat) : D := (LY (wholeF ([b,jr l l.length].getD i [])))
abbrev yt18 (b : List Int) (l : List (List Int)) (i : Nat) : D := (LY ([b,jr l l.length].getD i []))

set_option maxRecDepth 100000 in
theorem jmatch_law (b : List Int) (l : List (List Int)) (k0 k1 k2 k3 : Nat) (hb8 : Bytes8 b) (hbl : b.length ≤ 9223372036854775807) (hl : RecsBig l) (hi : ∀ r ∈ l,Ints64 r) (hk0 : k0 ≤ 65535) (hk1 : k1 ≤ 65535) (hk2 : k2 ≤ 65535) (hk3 : k3 ≤ 65535) : CallOk Try.prog 7 [(LY b),(dL 1 encLI [] l),(.agg [(dI .u16 ((k0 : Nat) : Int)),(dI .u16 ((k1 : Nat) : Int)),(dI .u16 ((k2 : Nat) : Int)),(dI .u16 ((k3 : Nat) : Int))])] [] false (dB true) [] := by
  refine CallOk.of_ev Try.func7 rfl rfl rfl ?_
  rintro ⟨_,W,S0,_,susp,_⟩ rfl rfl rfl
  refine Ev.seq ?_
  refine Ev.reg [] [0,1,5] (st' := ⟨[(0,(LY b)),(1,(dL 1 encLI [] l)),(5,yt7)],[(yt2 k0 k1 k2 k3)]⟩)
    (p := T2 True) (by kernel_rfl)
    ⟨oK,oK,oK⟩ ?_
  refine Ev.seq ?_
  refine Ev.reg [(0,.call none false (dB true))] [0,1,5,7] (st' := ⟨[(0,(LY b)),(1,(dL 1 encLI [] l)),(5,yt7),(7,(dB true))],[(yt2 k0 k1 k2 k3)]⟩)
    (p := callOb Try.prog 23 [(yt2 k0 k1 k2 k3)] [] none false (dB true)∧True∧True) (by kernel_rfl)
    ⟨examples_ok,oK,oK⟩ ?_
  refine Ev.seq ?_
  refine Ev.seq ?_
  refine Ev.reg [] [0,1,5,7,19] (st' := ⟨[(0,(LY b)),(1,(dL 1 encLI [] l)),(5,yt7),(7,(dB true)),(19,(dB false))],[(yt2 k0 k1 k2 k3)]⟩)
    (p := T2 True) (by kernel_rfl)
    ⟨oK,oK,oK⟩ ?_
  refine Ev.cond false rfl (fun h => (by cases h)) (fun _ => ?_)
  refine Ev.skip ?_
  refine Ev.seq ?_
  refine Ev.seq ?_
  rcases Nat.lt_or_ge 2000 b.length with hbb | hbb
  · skip
    refine Ev.reg [(2,.val (dB true))] [0,1,5,7,27] (st' := ⟨[(0,(LY b)),(1,(dL 1 encLI [] l)),(5,yt7),(7,(dB true)),(27,(dB true))],[(yt2 k0 k1 k2 k3)]⟩)
      (p := T2 ((True∧(decide (((b.length : Nat) : Int) > 2000)) = true)∧T5 True)) (by kernel_rfl)
      ⟨oK,oK,⟨oK,(by exact decide_eq_true (by omega))⟩,oK,oK,oK,oK,oK,oK⟩ ?_
    refine Ev.cond true rfl (fun _ => ?_) (fun h => (by cases h))
    refine Ev.seq ?_
    refine Ev.reg [] [6] (st' := ⟨[(6,(dB true))],[(yt2 k0 k1 k2 k3)]⟩)
      (p := T2 True) (by kernel_rfl)
      ⟨oK,oK,oK⟩ ?_
    refine Ev.ret ?_
    refine ⟨⟨oK,oK⟩,(?_ : true = true),.inr trivial⟩
    rfl
  · skip
    refine Ev.reg [(2,.val (dB false)),(5,.call none false (dB (smallF l)))] [0,1,5,7,27] (st' := ⟨[(0,(LY b)),(1,(dL 1 encLI [] l)),(5,yt7),(7,(dB true)),(27,(dB (!(smallF l))))],[(yt2 k0 k1 k2 k3)]⟩)
      (p := T2 ((True∧(decide (((b.length : Nat) : Int) > 2000)) = false)∧T2 (callOb Try.prog 24 [(yt2 k0 k1 k2 k3)] [(dL 1 encLI [] l)] none false (dB (smallF l))∧T2 True))) (by kernel_rfl)
      ⟨oK,oK,⟨oK,(by exact decide_eq_false (by omega))⟩,oK,oK,(small_ok _ (by first | exact recs_read hE | assumption)),oK,oK,oK⟩ ?_
    refine Ev.cond _ rfl (fun hc27 => ?_) (fun hc27 => ?_)
    · try simp only [decide_eq_true_eq,decide_eq_false_iff_not,beq_iff_eq,bne_iff_ne,ne_eq,beq_eq_false_iff_ne,bne_eq_false_iff_eq,Bool.not_eq_true,Bool.not_eq_false,Bool.not_eq_true',Bool.not_eq_false',Bool.not_not,gt_iff_lt,ge_iff_le,Nat.not_lt,Int.not_lt,Int.not_le] at hc27
      refine Ev.seq ?_
      refine Ev.reg [] [6] (st' := ⟨[(6,(dB true))],[(yt2 k0 k1 k2 k3)]⟩)
        (p := T2 True) (by kernel_rfl)
        ⟨oK,oK,oK⟩ ?_
      refine Ev.ret ?_
      refine ⟨⟨oK,oK⟩,(?_ : true = true),.inr trivial⟩
      rfl
    · try simp only [decide_eq_true_eq,decide_eq_false_iff_not,beq_iff_eq,bne_iff_ne,ne_eq,beq_eq_false_iff_ne,bne_eq_false_iff_eq,Bool.not_eq_true,Bool.not_eq_false,Bool.not_eq_true',Bool.not_eq_false',Bool.not_not,gt_iff_lt,ge_iff_le,Nat.not_lt,Int.not_lt,Int.not_le] at hc27
      refine Ev.skip ?_
      refine Ev.seq ?_
      have hS : SmallOk l := smallF_ok (by simpa using hc27) hi
      have hJ := okJ hS
      refine Ev.reg [(1,.ownc none (.own 0) (.arr 5 1 (encI .u8) 0 (jr l l.length)))] [0,5,7,8] (st' := ⟨[(0,(LY b)),(5,yt7),(7,(dB true)),(8,(.own 1))],[(yt2 k0 k1 k2 k3),(.arr 5 1 (encI .u8) 0 (jr l l.length))]⟩)
        (p := True∧callObO Try.prog 25 [(yt2 k0 k1 k2 k3)] [(dL 1 encLI [] l)] none (.own 0) (.arr 5 1 (encI .u8) 0 (jr l l.length))∧True∧True) (by kernel_rfl)
        ⟨oK,⟨flat_I,(journal_ok _ hS)⟩,oK,oK⟩ ?_
      refine Ev.seq ?_
      refine Ev.seq ?_
      refine Ev.reg [] [0,5,7,8,33] (st' := ⟨[(0,(LY b)),(5,yt7),(7,(dB true)),(8,(.own 1)),(33,(dB (decide ((((jr l l.length).length : Nat) : Int) > 0))))],[(yt2 k0 k1 k2 k3),(.arr 5 1 (encI .u8) 0 (jr l l.length))]⟩)
        (p := T3 True) (by kernel_rfl)
        ⟨oK,oK,oK,oK⟩ ?_
      refine Ev.cond _ rfl (fun hc33 => ?_) (fun hc33 => ?_)
      · try simp only [decide_eq_true_eq,decide_eq_false_iff_not,beq_iff_eq,bne_iff_ne,ne_eq,beq_eq_false_iff_ne,bne_eq_false_iff_eq,Bool.not_eq_true,Bool.not_eq_false,Bool.not_eq_true',Bool.not_eq_false',Bool.not_not,gt_iff_lt,ge_iff_le,Nat.not_lt,Int.not_lt,Int.not_le] at hc33
        refine Ev.seq ?_
        have hm0 : k0 % (jr l l.length).length < (jr l l.length).length := Nat.mod_lt k0 (by simpa using hc33)
        refine Ev.draw 21 [false,false,false,false,false,false,false,false,false,false,false,false,false,false,false,false,false,false,false,false,false] [(3,.val (i6 ((k0 : Nat) : Int))),(6,.val (i6 ((k0 % (jr l l.length).length : Nat) : Int))),(10,.val (i6 ((k0 : Nat) : Int))),(13,.val (i6 ((k0 % (jr l l.length).length : Nat) : Int))),(19,.val (dI .u8 (xorB ((jr l l.length).getD (k0 % (jr l l.length).length) 0) (IntKind.u8.wrap (k1 : Int))))),(21,.box 5 1 (encI .u8) 0 (chgJ l k0 k1))] [0,5,7,8] (st' := ⟨[(0,(LY b)),(5,yt7),(7,(dB true)),(8,(.own 1))],[(yt2 k0 k1 k2 k3),(.arr 5 1 (encI .u8) 0 (chgJ l k0 k1))]⟩)
          (p := (True∧((0 ≤ (0 : Int)∧0 < (4 : Int))∧True)∧True∧(True∧(IntKind.wrap .i64 ((k0 : Nat) : Int)) = ((k0 : Nat) : Int))∧T2 (((((jr l l.length).length : Nat) : Int) ≠ 0∧(Int.tmod ((k0 : Nat) : Int) (((jr l l.length).length : Nat) : Int)) = ((k0 % (jr l l.length).length : Nat) : Int))∧True∧((0 ≤ (0 : Int)∧0 < (4 : Int))∧True)∧True∧(True∧(IntKind.wrap .i64 ((k0 : Nat) : Int)) = ((k0 : Nat) : Int))∧T2 (((((jr l l.length).length : Nat) : Int) ≠ 0∧(Int.tmod ((k0 : Nat) : Int) (((jr l l.length).length : Nat) : Int)) = ((k0 % (jr l l.length).length : Nat) : Int))∧(0 ≤ ((k0 % (jr l l.length).length : Nat) : Int)∧((k0 % (jr l l.length).length : Nat) : Int) < ((jr l l.length).length : Int))∧(k0 % (jr l l.length).length < (jr l l.length).length∧True)∧((0 ≤ (1 : Int)∧1 < (4 : Int))∧True)∧T2 ((True∧(IntKind.wrap .u8 (BitVec.ofInt (IntKind.u8).bits ((jr l l.length).getD (k0 % (jr l l.length).length) 0) ^^^ BitVec.ofInt (IntKind.u8).bits (IntKind.wrap .u8 ((k1 : Nat) : Int))).toNat) = (xorB ((jr l l.length).getD (k0 % (jr l l.length).length) 0) (IntKind.u8.wrap (k1 : Int))))∧(0 ≤ ((k0 % (jr l l.length).length : Nat) : Int)∧((k0 % (jr l l.length).length : Nat) : Int) < ((jr l l.length).length : Int))∧True))))∧((k0 % (jr l l.length).length < (jr l l.length).length∧((jr l l.length).map (encI .u8)).set (k0 % (jr l l.length).length) (((encI .u8) ((jr l l.length).getD (k0 % (jr l l.length).length) 0)).take 0 ++ [(.int .u8 (xorB ((jr l l.length).getD (k0 % (jr l l.length).length) 0) (IntKind.u8.wrap (k1 : Int))))] ++ ((encI .u8) ((jr l l.length).getD (k0 % (jr l l.length).length) 0)).drop (0 + 1)) = (chgJ l k0 k1).map (encI .u8))∧True)) (by kernel_rfl) (by kernel_rfl)
          ⟨⟨oK,⟨by omega,oK⟩,oK,⟨oK,(w64 rfl (by first | omega | (simp; first | done | omega) | (have := hE.2; omega) | (rw [rJ_len]; omega)) (by first | omega | (simp; first | done | omega) | (have := hE.2; omega) | (rw [rJ_len]; omega)))⟩,oK,oK,⟨(by first | omega | (simp; first | done | omega) | (have := hE.2; omega) | (rw [rJ_len]; omega)),(tmodN _ _)⟩,oK,⟨by omega,oK⟩,oK,⟨oK,(w64 rfl (by first | omega | (simp; first | done | omega) | (have := hE.2; omega) | (rw [rJ_len]; omega)) (by first | omega | (simp; first | done | omega) | (have := hE.2; omega) | (rw [rJ_len]; omega)))⟩,oK,oK,⟨(by first | omega | (simp; first | done | omega) | (have := hE.2; omega) | (rw [rJ_len]; omega)),(tmodN _ _)⟩,(by first | omega | (simp; first | done | omega) | (have := hE.2; omega) | (rw [rJ_len]; omega)),⟨(by first | omega | (simp; first | done | omega) | (have := hE.2; omega) | (rw [rJ_len]; omega)),oK⟩,⟨by omega,oK⟩,oK,oK,⟨oK,rfl⟩,(by first | omega | (simp; first | done | omega) | (have := hE.2; omega) | (rw [rJ_len]; omega)),oK⟩,⟨⟨hm0,by unfold chgJ; rw [List.map_set]; rfl⟩,oK⟩⟩ ?_
        have hcl := chgJ_len l k0 k1
        have hm2 : k2 % (chgJ l k0 k1).length < (chgJ l k0 k1).length := Nat.mod_lt k2 (by omega)
        refine Ev.freeze 1 (st' := ⟨[(0,(LY b)),(5,yt7),(7,(dB true)),(8,(LY (chgJ l k0 k1)))],[(yt2 k0 k1 k2 k3),.dead]⟩) (by kernel_rfl) ?_
        refine Ev.reg [(2,.val (i6 (((chgJ l k0 k1).length : Nat) : Int))),(5,.val (i6 ((k2 : Nat) : Int))),(8,.val (i6 ((k2 % (chgJ l k0 k1).length : Nat) : Int))),(9,.val (i6 (((chgJ l k0 k1).length - k2 % (chgJ l k0 k1).length : Nat) : Int))),(10,.val (LY (cutJ l k0 k1 k2)))] [0,5,7,8] (st' := ⟨[(0,(LY b)),(5,yt7),(7,(dB true)),(8,(LY (cutJ l k0 k1 k2)))],[(yt2 k0 k1 k2 k3),.dead]⟩)
          (p := T2 ((True∧(((chgJ l k0 k1).length : Nat) : Int) = (((chgJ l k0 k1).length : Nat) : Int))∧((0 ≤ (2 : Int)∧2 < (4 : Int))∧True)∧True∧(True∧(IntKind.wrap .i64 ((k2 : Nat) : Int)) = ((k2 : Nat) : Int))∧T2 (((((chgJ l k0 k1).length : Nat) : Int) ≠ 0∧(Int.tmod ((k2 : Nat) : Int) (((chgJ l k0 k1).length : Nat) : Int)) = ((k2 % (chgJ l k0 k1).length : Nat) : Int))∧(True∧(IntKind.wrap .i64 ((((chgJ l k0 k1).length : Nat) : Int) - ((k2 % (chgJ l k0 k1).length : Nat) : Int))) = (((chgJ l k0 k1).length - k2 % (chgJ l k0 k1).length : Nat) : Int))∧((0 ≤ (0 : Int)∧(0 : Int) ≤ (((chgJ l k0 k1).length - k2 % (chgJ l k0 k1).length : Nat) : Int)∧(((chgJ l k0 k1).length - k2 % (chgJ l k0 k1).length : Nat) : Int) ≤ ((chgJ l k0 k1).length : Int))∧(((chgJ l k0 k1).take ((chgJ l k0 k1).length - k2 % (chgJ l k0 k1).length)).drop 0).map (encI .u8) = (cutJ l k0 k1 k2).map (encI .u8))∧True∧True))) (by kernel_rfl)
          ⟨oK,oK,⟨oK,rfl⟩,⟨by omega,oK⟩,oK,⟨oK,(w64 rfl (by first | omega | (simp; first | done | omega) | (have := hE.2; omega) | (rw [rJ_len]; omega)) (by first | omega | (simp; first | done | omega) | (have := hE.2; omega) | (rw [rJ_len]; omega)))⟩,oK,oK,⟨(by first | omega | (simp; first | done | omega) | (have := hE.2; omega) | (rw [rJ_len]; omega)),(tmodN _ _)⟩,⟨oK,(w64n (by omega) (by omega))⟩,⟨(by first | omega | (simp; first | done | omega) | (have := hE.2; omega) | (rw [rJ_len]; omega)),(by rw [List.drop_zero]; rfl)⟩,oK,oK⟩ ?_
        refine Ev.seq ?_
        refine Ev.reg [(0,.box 3 1 (encI .i64) 0 (rJ k3 0))] [0,5,7,8,9] (st' := ⟨[(0,(LY b)),(5,yt7),(7,(dB true)),(8,(LY (cutJ l k0 k1 k2))),(9,(.own 2))],[(yt2 k0 k1 k2 k3),.dead,(.arr 3 1 (encI .i64) 0 (rJ k3 0))]⟩)
          (p := eqRows [] ((rJ k3 0).map (encI .i64))∧True∧True) (by kernel_rfl)
          ⟨oK,oK,oK⟩ ?_
        refine Ev.seq ?_
        refine Ev.seq ?_
        refine Ev.reg [] [0,5,7,8,9,10] (st' := ⟨[(0,(LY b)),(5,yt7),(7,(dB true)),(8,(LY (cutJ l k0 k1 k2))),(9,(.own 2)),(10,(i6 0))],[(yt2 k0 k1 k2 k3),.dead,(.arr 3 1 (encI .i64) 0 (rJ k3 0))]⟩)
          (p := True∧True) (by kernel_rfl)
          ⟨oK,oK⟩ ?_
        refine Ev.block ?_
        refine Ev.loop [0,5,7,8,9,10] 3 (fun (j : Nat) => ⟨[(0,(LY b)),(5,yt7),(7,(dB true)),(8,(LY (cutJ l k0 k1 k2))),(9,(.own 2)),(10,(i6 ((j : Nat) : Int)))],[(yt2 k0 k1 k2 k3),.dead,(.arr 3 1 (encI .i64) 0 (rJ k3 j))]⟩) (fun (j : Nat) => j ≤ k3 % 300) (fun (j : Nat) => k3 % 300 - j) 0 (by kernel_rfl) (by omega) ?_
        rintro j hinv
        have hinv : j ≤ k3 % 300 := hinv
        have hri := hinv
        refine Ev.seq ?_
        refine Ev.seq ?_
        refine Ev.reg [(3,.val (dI .u16 ((k3 % 300 : Nat) : Int))),(4,.val (i6 ((k3 % 300 : Nat) : Int)))] [0,5,7,8,9,10,72] (st' := ⟨[(0,(LY b)),(5,yt7),(7,(dB true)),(8,(LY (cutJ l k0 k1 k2))),(9,(.own 2)),(10,(i6 ((j : Nat) : Int))),(72,(dB (decide (((j : Nat) : Int) < ((k3 % 300 : Nat) : Int)))))],[(yt2 k0 k1 k2 k3),.dead,(.arr 3 1 (encI .i64) 0 (rJ k3 j))]⟩)
          (p := True∧((0 ≤ (3 : Int)∧3 < (4 : Int))∧True)∧True∧((300 : Int) ≠ 0∧(Int.tmod ((k3 : Nat) : Int) 300) = ((k3 % 300 : Nat) : Int))∧(True∧(IntKind.wrap .i64 ((k3 % 300 : Nat) : Int)) = ((k3 % 300 : Nat) : Int))∧True∧True) (by kernel_rfl)
          ⟨oK,⟨by omega,oK⟩,oK,⟨(by first | omega | (simp; first | done | omega) | (have := hE.2; omega) | (rw [rJ_len]; omega)),(tmodN _ 300)⟩,⟨oK,(w64 rfl (by first | omega | (simp; first | done | omega) | (have := hE.2; omega) | (rw [rJ_len]; omega)) (by first | omega | (simp; first | done | omega) | (have := hE.2; omega) | (rw [rJ_len]; omega)))⟩,oK,oK⟩ ?_
        refine Ev.cond _ rfl (fun hc72 => ?_) (fun hc72 => ?_)
        · try simp only [decide_eq_true_eq,decide_eq_false_iff_not,beq_iff_eq,bne_iff_ne,ne_eq,beq_eq_false_iff_ne,bne_eq_false_iff_eq,Bool.not_eq_true,Bool.not_eq_false,Bool.not_eq_true',Bool.not_eq_false',Bool.not_not,gt_iff_lt,ge_iff_le,Nat.not_lt,Int.not_lt,Int.not_le] at hc72
          refine Ev.skip ?_
          refine Ev.seq ?_
          refine Ev.block ?_
          refine Ev.reg [(2,.val (i6 ((7 * j : Nat) : Int))),(5,.val (i6 ((k3 : Nat) : Int))),(6,.val (i6 (((7 * j : Nat) : Int) - ((k3 : Nat) : Int)))),(7,.box 3 1 (encI .i64) 0 [((7 * j : Nat) : Int) - ((k3 : Nat) : Int)]),(8,.box 3 1 (encI .i64) 0 (rJ k3 (j + 1)))] [0,5,7,8,9,10] (st' := ⟨[(0,(LY b)),(5,yt7),(7,(dB true)),(8,(LY (cutJ l k0 k1 k2))),(9,(.own 2)),(10,(i6 ((j : Nat) : Int)))],(yt10 k0 k1 k2 k3 j)⟩)
            (p := T2 ((True∧(IntKind.wrap .i64 (7 * ((j : Nat) : Int))) = ((7 * j : Nat) : Int))∧((0 ≤ (3 : Int)∧3 < (4 : Int))∧True)∧True∧(True∧(IntKind.wrap .i64 ((k3 : Nat) : Int)) = ((k3 : Nat) : Int))∧(True∧(IntKind.wrap .i64 (((7 * j : Nat) : Int) - ((k3 : Nat) : Int))) = (((7 * j : Nat) : Int) - ((k3 : Nat) : Int)))∧eqRows [[(i6 (((7 * j : Nat) : Int) - ((k3 : Nat) : Int)))]] ([((7 * j : Nat) : Int) - ((k3 : Nat) : Int)].map (encI .i64))∧((rJ k3 j).length + ([((7 * j : Nat) : Int) - ((k3 : Nat) : Int)].map (encI .i64)).length ≤ 137438953472∧(rJ k3 j).map (encI .i64) ++ [((7 * j : Nat) : Int) - ((k3 : Nat) : Int)].map (encI .i64) = (rJ k3 (j + 1)).map (encI .i64))∧True∧True)) (by kernel_rfl)
            ⟨oK,oK,⟨oK,(w64n (by first | rfl | simp | omega) (by first | omega | (simp; first | done | omega) | (have := hE.2; omega) | (rw [rJ_len]; omega)))⟩,⟨by omega,oK⟩,oK,⟨oK,(w64 rfl (by first | omega | (simp; first | done | omega) | (have := hE.2; omega) | (rw [rJ_len]; omega)) (by first | omega | (simp; first | done | omega) | (have := hE.2; omega) | (rw [rJ_len]; omega)))⟩,⟨oK,(w64 rfl (by first | omega | (simp; first | done | omega) | (have := hE.2; omega) | (rw [rJ_len]; omega)) (by first | omega | (simp; first | done | omega) | (have := hE.2; omega) | (rw [rJ_len]; omega)))⟩,⟨⟨rfl,oK⟩,oK⟩,⟨by simp only [List.length_map,List.length_cons,List.length_nil]; rw [rJ_len]; omega,by rw [rJ_succ,List.map_append]⟩,oK,oK⟩ ?_
          refine Ev.reg [(1,.val (i6 ((j + 1 : Nat) : Int)))] [0,5,7,8,9,10] (st' := ⟨[(0,(LY b)),(5,yt7),(7,(dB true)),(8,(LY (cutJ l k0 k1 k2))),(9,(.own 2)),(10,(i6 ((j + 1 : Nat) : Int)))],(yt10 k0 k1 k2 k3 j)⟩)
            (p := True∧(True∧(IntKind.wrap .i64 (((j : Nat) : Int) + 1)) = ((j + 1 : Nat) : Int))∧True∧True) (by kernel_rfl)
            ⟨oK,⟨oK,(w64n (by first | rfl | simp | omega) (by first | omega | (simp; first | done | omega) | (have := hE.2; omega) | (rw [rJ_len]; omega)))⟩,oK,oK⟩ ?_
          refine ⟨j + 1,by kernel_rfl,(?_ : (j + 1) ≤ k3 % 300),(?_ : k3 % 300 - (j + 1) < k3 % 300 - j)⟩
          · omega
          · omega
        · try simp only [decide_eq_true_eq,decide_eq_false_iff_not,beq_iff_eq,bne_iff_ne,ne_eq,beq_eq_false_iff_ne,bne_eq_false_iff_eq,Bool.not_eq_true,Bool.not_eq_false,Bool.not_eq_true',Bool.not_eq_false',Bool.not_not,gt_iff_lt,ge_iff_le,Nat.not_lt,Int.not_lt,Int.not_le] at hc72
          refine Ev.exit ?_
          refine Ev.seq ?_
          refine Ev.freeze 2 (st' := ⟨[(0,(LY b)),(5,yt7),(7,(dB true)),(8,(LY (cutJ l k0 k1 k2))),(9,(LI (rJ k3 j))),(10,(i6 ((j : Nat) : Int))),(72,(dB (decide (((j : Nat) : Int) < ((k3 % 300 : Nat) : Int)))))],[(yt2 k0 k1 k2 k3),.dead,.dead]⟩) (by kernel_rfl) ?_
          refine Ev.reg [(2,.box 47 1 encLY [] [b,cutJ l k0 k1 k2])] [5,7,9,11] (st' := ⟨[(5,yt7),(7,(dB true)),(9,(LI (rJ k3 j))),(11,(.own 3))],[(yt2 k0 k1 k2 k3),.dead,.dead,(.arr 47 1 encLY [] [b,cutJ l k0 k1 k2])]⟩)
            (p := T2 (eqRows [[(LY b)],[(LY (cutJ l k0 k1 k2))]] ([b,cutJ l k0 k1 k2].map encLY)∧True∧True)) (by kernel_rfl)
            ⟨oK,oK,⟨⟨rfl,oK⟩,⟨rfl,oK⟩,oK⟩,oK,oK⟩ ?_
          refine Ev.seq ?_
          refine Ev.seq ?_
          refine Ev.freeze 3 (st' := ⟨[(5,yt7),(7,(dB true)),(9,(LI (rJ k3 j))),(11,(dL 1 encLY [] [b,cutJ l k0 k1 k2]))],(yt11 k0 k1 k2 k3)⟩) (by kernel_rfl) ?_
          refine Ev.reg [] [5,7,9,11,12] (st' := ⟨[(5,yt7),(7,(dB true)),(9,(LI (rJ k3 j))),(11,(dL 1 encLY [] [b,cutJ l k0 k1 k2])),(12,(i6 0))],(yt11 k0 k1 k2 k3)⟩)
            (p := True∧True) (by kernel_rfl)
            ⟨oK,oK⟩ ?_
          refine Ev.block ?_
          refine Ev.loop [5,7,9,11,12] 4 (fun (i : Nat) => ⟨[(5,yt7),(7,(dB true)),(9,(LI (rJ k3 j))),(11,(dL 1 encLY [] [b,cutJ l k0 k1 k2])),(12,(yt15 i))],(yt11 k0 k1 k2 k3)⟩) (fun (i : Nat) => i ≤ 2) (fun (i : Nat) => 2 - i) 0 (by kernel_rfl) (by omega) ?_
          rintro i hinv
          have hinv : i ≤ 2 := hinv
          have hai := hinv
          refine Ev.seq ?_
          refine Ev.seq ?_
          refine Ev.reg [(2,.val (i6 2))] [5,7,9,11,12,90] (st' := ⟨[(5,yt7),(7,(dB true)),(9,(LI (rJ k3 j))),(11,(dL 1 encLY [] [b,cutJ l k0 k1 k2])),(12,(yt15 i)),(90,(dB (decide (((i : Nat) : Int) < 2))))],(yt11 k0 k1 k2 k3)⟩)
            (p := T2 ((True∧(([b,cutJ l k0 k1 k2].length : Nat) : Int) = 2)∧True∧True)) (by kernel_rfl)
            ⟨oK,oK,⟨oK,rfl⟩,oK,oK⟩ ?_
          refine Ev.cond _ rfl (fun hc90 => ?_) (fun hc90 => ?_)
          · try simp only [decide_eq_true_eq,decide_eq_false_iff_not,beq_iff_eq,bne_iff_ne,ne_eq,beq_eq_false_iff_ne,bne_eq_false_iff_eq,Bool.not_eq_true,Bool.not_eq_false,Bool.not_eq_true',Bool.not_eq_false',Bool.not_not,gt_iff_lt,ge_iff_le,Nat.not_lt,Int.not_lt,Int.not_le] at hc90
            refine Ev.skip ?_
            refine Ev.seq ?_
            refine Ev.block ?_
            refine Ev.seq ?_
            have hE := all2 (b := b) (o := cutJ l k0 k1 k2) ⟨hb8,by omega⟩ (okC hS k0 k1 k2) (show i < 2 by omega)
            refine Ev.draw 12 [false,false,false,false,false,false,false,false,false,false,false,false] [(4,.call none true (.agg (yt6 b l k0 k1 k2 i))),(9,.call none true (.agg (yt4 b l k0 k1 k2 i)))] [5,7,9,11,12,13,14] (st' := ⟨[(5,yt7),(7,(dB true)),(9,(LI (rJ k3 j))),(11,(dL 1 encLY [] [b,cutJ l k0 k1 k2])),(12,(yt15 i)),(13,(.ptr 4 0 0 0)),(14,(.ptr 5 0 0 0))],[(yt2 k0 k1 k2 k3),.dead,.dead,.dead,(.var 55 (yt6 b l k0 k1 k2 i)),(.var 55 (yt4 b l k0 k1 k2 i))]⟩)
              (p := (T2 ((0 ≤ ((i : Nat) : Int)∧((i : Nat) : Int) < ([b,cutJ l k0 k1 k2].length : Int))∧True∧callOb Try.prog 26 (yt11 k0 k1 k2 k3) [(LY ([b,cutJ l k0 k1 k2].getD i []))] none true (.agg (yt6 b l k0 k1 k2 i))∧T2 ((0 ≤ ((i : Nat) : Int)∧((i : Nat) : Int) < ([b,cutJ l k0 k1 k2].length : Int))∧True∧callOb Try.prog 27 (yt11 k0 k1 k2 k3) [(LY ([b,cutJ l k0 k1 k2].getD i []))] none true (.agg (yt4 b l k0 k1 k2 i))∧T2 True)))∧(T2 True)) (by kernel_rfl) (by kernel_rfl)
              ⟨⟨oK,oK,(by first | omega | (simp; first | done | omega) | (have := hE.2; omega) | (rw [rJ_len]; omega)),oK,(lread_ok _ (by first | exact hE.1 | assumption) (by first | omega | (simp; first | done | omega) | (have := hE.2; omega) | (rw [rJ_len]; omega))),oK,oK,(by first | omega | (simp; first | done | omega) | (have := hE.2; omega) | (rw [rJ_len]; omega)),oK,(readin_ok _ (by first | exact hE.1 | assumption) (by first | omega | (simp; first | done | omega) | (have := hE.2; omega) | (rw [rJ_len]; omega))),oK,oK,oK⟩,⟨oK,oK,oK⟩⟩ ?_
            refine Ev.seq ?_
            refine Ev.draw 14 [false,false,false,false,false,false,false,false,false,false,false,false,false,false] [(5,.call none true (.agg (yt9 b l k0 k1 k2 i k3 j))),(11,.call none true (.agg (yt9 b l k0 k1 k2 i k3 j)))] [5,7,9,11,12,13,14,15,16] (st' := ⟨[(5,yt7),(7,(dB true)),(9,(LI (rJ k3 j))),(11,(dL 1 encLY [] [b,cutJ l k0 k1 k2])),(12,(yt15 i)),(13,(.ptr 4 0 0 0)),(14,(.ptr 5 0 0 0)),(15,(.ptr 6 0 0 0)),(16,(.ptr 7 0 0 0))],(yt0 k0 k1 k2 k3 b l i j)⟩)
              (p := (T2 ((0 ≤ ((i : Nat) : Int)∧((i : Nat) : Int) < ([b,cutJ l k0 k1 k2].length : Int))∧T2 (callOb Try.prog 28 [(yt2 k0 k1 k2 k3),.dead,.dead,.dead,(.var 55 (yt6 b l k0 k1 k2 i)),(.var 55 (yt4 b l k0 k1 k2 i))] [(LY ([b,cutJ l k0 k1 k2].getD i [])),(LI (rJ k3 j))] none true (.agg (yt9 b l k0 k1 k2 i k3 j))∧T2 ((0 ≤ ((i : Nat) : Int)∧((i : Nat) : Int) < ([b,cutJ l k0 k1 k2].length : Int))∧T2 (callOb Try.prog 29 [(yt2 k0 k1 k2 k3),.dead,.dead,.dead,(.var 55 (yt6 b l k0 k1 k2 i)),(.var 55 (yt4 b l k0 k1 k2 i))] [(LY ([b,cutJ l k0 k1 k2].getD i [])),(LI (rJ k3 j))] none true (.agg (yt9 b l k0 k1 k2 i k3 j))∧T2 True)))))∧(T2 True)) (by kernel_rfl) (by kernel_rfl)
              ⟨⟨oK,oK,(by first | omega | (simp; first | done | omega) | (have := hE.2; omega) | (rw [rJ_len]; omega)),oK,oK,(lput_ok _ _ (by first | exact hE.1 | assumption) (by have := hE.2; omega) (by rw [rJ_len]; omega)),oK,oK,(by first | omega | (simp; first | done | omega) | (have := hE.2; omega) | (rw [rJ_len]; omega)),oK,oK,(putin_ok _ _ (by first | exact hE.1 | assumption) (by first | omega | (simp; first | done | omega) | (have := hE.2; omega) | (rw [rJ_len]; omega)) (by rw [rJ_len]; omega)),oK,oK,oK⟩,⟨oK,oK,oK⟩⟩ ?_
            refine Ev.seq ?_
            refine Ev.seq ?_
            refine Ev.draw 50 [false,false,false,false,false,false,false,false,false,false,false,false,false,false,false,false,false,false,false,false,false,false,false,false,false,false,false,false,false,false,false,false,false,false,false,false,false,false,false,false,false,false,false,false,false,false,false,false,false,false] [(4,.val (dB false)),(10,.call none false (dB (decide ((readF ([b,cutJ l k0 k1 k2].getD i []) 0).1 = (readF ([b,cutJ l k0 k1 k2].getD i []) 0).1)))),(11,.val (dB false)),(18,.call none false (dB (decide (((readF ([b,cutJ l k0 k1 k2].getD i []) 0).2.1) = ((readF ([b,cutJ l k0 k1 k2].getD i []) 0).2.1))))),(19,.val (dB false)),(26,.val (dB false)),(33,.call none false (dB (decide ((jputJ ([b,cutJ l k0 k1 k2].getD i []) (rJ k3 j)) = (jputJ ([b,cutJ l k0 k1 k2].getD i []) (rJ k3 j)))))),(34,.val (dB false)),(41,.call none true (LY (wholeF ([b,cutJ l k0 k1 k2].getD i [])))),(46,.call none true (LY (wholeF ([b,cutJ l k0 k1 k2].getD i [])))),(47,.call none false (dB (decide ((wholeF ([b,cutJ l k0 k1 k2].getD i [])) = (wholeF ([b,cutJ l k0 k1 k2].getD i [])))))),(48,.val (dB false))] [5,7,9,11,12,164] (st' := ⟨[(5,yt7),(7,(dB true)),(9,(LI (rJ k3 j))),(11,(dL 1 encLY [] [b,cutJ l k0 k1 k2])),(12,(yt15 i)),(164,(dB false))],(yt0 k0 k1 k2 k3 b l i j)⟩)
              (p := (T4 ((True∧((tornF ([b,cutJ l k0 k1 k2].getD i [])) != (tornF ([b,cutJ l k0 k1 k2].getD i []))) = false)∧T5 (callOb Try.prog 30 (yt0 k0 k1 k2 k3 b l i j) [(dL 1 encLI [] ((readF ([b,cutJ l k0 k1 k2].getD i []) 0).1)),(dL 1 encLI [] ((readF ([b,cutJ l k0 k1 k2].getD i []) 0).1))] none false (dB (decide ((readF ([b,cutJ l k0 k1 k2].getD i []) 0).1 = (readF ([b,cutJ l k0 k1 k2].getD i []) 0).1)))∧(True∧(!(decide ((readF ([b,cutJ l k0 k1 k2].getD i []) 0).1 = (readF ([b,cutJ l k0 k1 k2].getD i []) 0).1))) = false)∧T6 (callOb Try.prog 31 (yt0 k0 k1 k2 k3 b l i j) [(LY ((readF ([b,cutJ l k0 k1 k2].getD i []) 0).2.1)),(LY ((readF ([b,cutJ l k0 k1 k2].getD i []) 0).2.1))] none false (dB (decide (((readF ([b,cutJ l k0 k1 k2].getD i []) 0).2.1) = ((readF ([b,cutJ l k0 k1 k2].getD i []) 0).2.1))))∧(True∧(!(decide (((readF ([b,cutJ l k0 k1 k2].getD i []) 0).2.1) = ((readF ([b,cutJ l k0 k1 k2].getD i []) 0).2.1)))) = false)∧T6 ((True∧((jputE ([b,cutJ l k0 k1 k2].getD i []) (rJ k3 j)) != (jputE ([b,cutJ l k0 k1 k2].getD i []) (rJ k3 j))) = false)∧T6 (callOb Try.prog 31 (yt0 k0 k1 k2 k3 b l i j) [(LY (jputJ ([b,cutJ l k0 k1 k2].getD i []) (rJ k3 j))),(LY (jputJ ([b,cutJ l k0 k1 k2].getD i []) (rJ k3 j)))] none false (dB (decide ((jputJ ([b,cutJ l k0 k1 k2].getD i []) (rJ k3 j)) = (jputJ ([b,cutJ l k0 k1 k2].getD i []) (rJ k3 j)))))∧(True∧(!(decide ((jputJ ([b,cutJ l k0 k1 k2].getD i []) (rJ k3 j)) = (jputJ ([b,cutJ l k0 k1 k2].getD i []) (rJ k3 j))))) = false)∧T4 ((0 ≤ ((i : Nat) : Int)∧((i : Nat) : Int) < ([b,cutJ l k0 k1 k2].length : Int))∧True∧callOb Try.prog 32 (yt0 k0 k1 k2 k3 b l i j) [(LY ([b,cutJ l k0 k1 k2].getD i []))] none true (LY (wholeF ([b,cutJ l k0 k1 k2].getD i [])))∧T2 ((0 ≤ ((i : Nat) : Int)∧((i : Nat) : Int) < ([b,cutJ l k0 k1 k2].length : Int))∧True∧callOb Try.prog 33 (yt0 k0 k1 k2 k3 b l i j) [(LY ([b,cutJ l k0 k1 k2].getD i []))] none true (LY (wholeF ([b,cutJ l k0 k1 k2].getD i [])))∧callOb Try.prog 31 (yt0 k0 k1 k2 k3 b l i j) [(LY (wholeF ([b,cutJ l k0 k1 k2].getD i []))),(LY (wholeF ([b,cutJ l k0 k1 k2].getD i [])))] none false (dB (decide ((wholeF ([b,cutJ l k0 k1 k2].getD i [])) = (wholeF ([b,cutJ l k0 k1 k2].getD i [])))))∧(True∧(!(decide ((wholeF ([b,cutJ l k0 k1 k2].getD i [])) = (wholeF ([b,cutJ l k0 k1 k2].getD i []))))) = false)∧True∧True))))))))∧True) (by kernel_rfl) (by kernel_rfl)
              ⟨⟨oK,oK,oK,oK,⟨oK,(by simp)⟩,oK,oK,oK,oK,oK,(records_ok _ _ (by first | exact recs_read hE | assumption) (by first | exact recs_read hE | assumption)),⟨oK,(by simp)⟩,oK,oK,oK,oK,oK,oK,(sameB_ok _ _ (by first | exact len_rest hE | exact len_put _ _ | exact len_whole hE | exact len_cut hE _ | omega) (by first | exact len_rest hE | exact len_put _ _ | exact len_whole hE | exact len_cut hE _ | omega)),⟨oK,(by simp)⟩,oK,oK,oK,oK,oK,oK,⟨oK,(by simp)⟩,oK,oK,oK,oK,oK,oK,(sameB_ok _ _ (by first | exact len_rest hE | exact len_put _ _ | exact len_whole hE | exact len_cut hE _ | omega) (by first | exact len_rest hE | exact len_put _ _ | exact len_whole hE | exact len_cut hE _ | omega)),⟨oK,(by simp)⟩,oK,oK,oK,oK,(by first | omega | (simp; first | done | omega) | (have := hE.2; omega) | (rw [rJ_len]; omega)),oK,(whole_ok _ (by first | exact hE.1 | assumption) (by first | omega | (simp; first | done | omega) | (have := hE.2; omega) | (rw [rJ_len]; omega))),oK,oK,(by first | omega | (simp; first | done | omega) | (have := hE.2; omega) | (rw [rJ_len]; omega)),oK,(rwhole_ok _ (by first | exact hE.1 | assumption) (by first | omega | (simp; first | done | omega) | (have := hE.2; omega) | (rw [rJ_len]; omega))),(sameB_ok _ _ (by first | exact len_rest hE | exact len_put _ _ | exact len_whole hE | exact len_cut hE _ | omega) (by first | exact len_rest hE | exact len_put _ _ | exact len_whole hE | exact len_cut hE _ | omega)),⟨oK,(by simp)⟩,oK,oK⟩,oK⟩ ?_
            refine Ev.cond false rfl (fun h => (by cases h)) (fun _ => ?_)
            refine Ev.skip ?_
            refine Ev.seq ?_
            refine Ev.draw 20 [false,false,false,false,false,false,false,false,false,false,false,false,false,false,false,false,false,false,false,false] [(6,.val (i6 ((k0 : Nat) : Int))),(7,.val (yt16 k0)),(8,.call none true (yt13 b l k0 k1 k2 i)),(15,.val (i6 ((k0 : Nat) : Int))),(16,.val (yt16 k0)),(17,.call none true (yt13 b l k0 k1 k2 i)),(18,.call none false (dB (decide ((cutF ([b,cutJ l k0 k1 k2].getD i []) (((k0 : Nat) : Int) - 9)) = (cutF ([b,cutJ l k0 k1 k2].getD i []) (((k0 : Nat) : Int) - 9)))))),(19,.val (dB false))] [5,7,9,11,12,184] (st' := ⟨[(5,yt7),(7,(dB true)),(9,(LI (rJ k3 j))),(11,(dL 1 encLY [] [b,cutJ l k0 k1 k2])),(12,(yt15 i)),(184,(dB false))],(yt0 k0 k1 k2 k3 b l i j)⟩)
              (p := (T2 ((0 ≤ ((i : Nat) : Int)∧((i : Nat) : Int) < ([b,cutJ l k0 k1 k2].length : Int))∧True∧((0 ≤ (0 : Int)∧0 < (4 : Int))∧True)∧True∧(True∧(IntKind.wrap .i64 ((k0 : Nat) : Int)) = ((k0 : Nat) : Int))∧(True∧(IntKind.wrap .i64 (((k0 : Nat) : Int) - 9)) = (((k0 : Nat) : Int) - 9))∧callOb Try.prog 34 (yt0 k0 k1 k2 k3 b l i j) [(LY ([b,cutJ l k0 k1 k2].getD i [])),(yt16 k0)] none true (yt13 b l k0 k1 k2 i)∧T2 ((0 ≤ ((i : Nat) : Int)∧((i : Nat) : Int) < ([b,cutJ l k0 k1 k2].length : Int))∧True∧((0 ≤ (0 : Int)∧0 < (4 : Int))∧True)∧True∧(True∧(IntKind.wrap .i64 ((k0 : Nat) : Int)) = ((k0 : Nat) : Int))∧(True∧(IntKind.wrap .i64 (((k0 : Nat) : Int) - 9)) = (((k0 : Nat) : Int) - 9))∧callOb Try.prog 35 (yt0 k0 k1 k2 k3 b l i j) [(LY ([b,cutJ l k0 k1 k2].getD i [])),(yt16 k0)] none true (yt13 b l k0 k1 k2 i)∧callOb Try.prog 31 (yt0 k0 k1 k2 k3 b l i j) [(yt13 b l k0 k1 k2 i),(yt13 b l k0 k1 k2 i)] none false (dB (decide ((cutF ([b,cutJ l k0 k1 k2].getD i []) (((k0 : Nat) : Int) - 9)) = (cutF ([b,cutJ l k0 k1 k2].getD i []) (((k0 : Nat) : Int) - 9)))))∧(True∧(!(decide ((cutF ([b,cutJ l k0 k1 k2].getD i []) (((k0 : Nat) : Int) - 9)) = (cutF ([b,cutJ l k0 k1 k2].getD i []) (((k0 : Nat) : Int) - 9))))) = false)∧True)))∧True) (by kernel_rfl) (by kernel_rfl)
              ⟨⟨oK,oK,(by first | omega | (simp; first | done | omega) | (have := hE.2; omega) | (rw [rJ_len]; omega)),oK,⟨by omega,oK⟩,oK,⟨oK,(w64 rfl (by first | omega | (simp; first | done | omega) | (have := hE.2; omega) | (rw [rJ_len]; omega)) (by first | omega | (simp; first | done | omega) | (have := hE.2; omega) | (rw [rJ_len]; omega)))⟩,⟨oK,(w64 rfl (by first | omega | (simp; first | done | omega) | (have := hE.2; omega) | (rw [rJ_len]; omega)) (by first | omega | (simp; first | done | omega) | (have := hE.2; omega) | (rw [rJ_len]; omega)))⟩,(cut_ok _ _ (by first | omega | (simp; first | done | omega) | (have := hE.2; omega) | (rw [rJ_len]; omega))),oK,oK,(by first | omega | (simp; first | done | omega) | (have := hE.2; omega) | (rw [rJ_len]; omega)),oK,⟨by omega,oK⟩,oK,⟨oK,(w64 rfl (by first | omega | (simp; first | done | omega) | (have := hE.2; omega) | (rw [rJ_len]; omega)) (by first | omega | (simp; first | done | omega) | (have := hE.2; omega) | (rw [rJ_len]; omega)))⟩,⟨oK,(w64 rfl (by first | omega | (simp; first | done | omega) | (have := hE.2; omega) | (rw [rJ_len]; omega)) (by first | omega | (simp; first | done | omega) | (have := hE.2; omega) | (rw [rJ_len]; omega)))⟩,(rcut_ok _ _ (by first | omega | (simp; first | done | omega) | (have := hE.2; omega) | (rw [rJ_len]; omega))),(sameB_ok _ _ (by first | exact len_rest hE | exact len_put _ _ | exact len_whole hE | exact len_cut hE _ | omega) (by first | exact len_rest hE | exact len_put _ _ | exact len_whole hE | exact len_cut hE _ | omega)),⟨oK,(by simp)⟩,oK⟩,oK⟩ ?_
            refine Ev.cond false rfl (fun h => (by cases h)) (fun _ => ?_)
            refine Ev.skip ?_
            refine Ev.reg [(1,.val (i6 ((i + 1 : Nat) : Int)))] [5,7,9,11,12] (st' := ⟨[(5,yt7),(7,(dB true)),(9,(LI (rJ k3 j))),(11,(dL 1 encLY [] [b,cutJ l k0 k1 k2])),(12,(i6 ((i + 1 : Nat) : Int)))],(yt0 k0 k1 k2 k3 b l i j)⟩)
              (p := True∧(True∧(IntKind.wrap .i64 (((i : Nat) : Int) + 1)) = ((i + 1 : Nat) : Int))∧True∧True) (by kernel_rfl)
              ⟨oK,⟨oK,(w64n (by first | rfl | simp | omega) (by first | omega | (simp; first | done | omega) | (have := hE.2; omega) | (rw [rJ_len]; omega)))⟩,oK,oK⟩ ?_
            refine ⟨i + 1,by kernel_rfl,(?_ : (i + 1) ≤ 2),(?_ : 2 - (i + 1) < 2 - i)⟩
            · omega
            · omega
          · try simp only [decide_eq_true_eq,decide_eq_false_iff_not,beq_iff_eq,bne_iff_ne,ne_eq,beq_eq_false_iff_ne,bne_eq_false_iff_eq,Bool.not_eq_true,Bool.not_eq_false,Bool.not_eq_true',Bool.not_eq_false',Bool.not_not,gt_iff_lt,ge_iff_le,Nat.not_lt,Int.not_lt,Int.not_le] at hc90
            refine Ev.exit ?_
            refine Ev.seq ?_
            refine Ev.reg [] [6] (st' := ⟨[(6,(dB true))],(yt11 k0 k1 k2 k3)⟩)
              (p := T2 True) (by kernel_rfl)
              ⟨oK,oK,oK⟩ ?_
            refine Ev.ret ?_
            refine ⟨⟨oK,oK⟩,(?_ : true = true),.inr trivial⟩
            rfl
      · try simp only [decide_eq_true_eq,decide_eq_false_iff_not,beq_iff_eq,bne_iff_ne,ne_eq,beq_eq_false_iff_ne,bne_eq_false_iff_eq,Bool.not_eq_true,Bool.not_eq_false,Bool.not_eq_true',Bool.not_eq_false',Bool.not_not,gt_iff_lt,ge_iff_le,Nat.not_lt,Int.not_lt,Int.not_le] at hc33
        refine Ev.skip ?_
        refine Ev.seq ?_
        refine Ev.freeze 1 (st' := ⟨[(0,(LY b)),(5,yt7),(7,(dB true)),(8,(LY (jr l l.length))),(33,(dB (decide ((((jr l l.length).length : Nat) : Int) > 0))))],[(yt2 k0 k1 k2 k3),.dead]⟩) (by kernel_rfl) ?_
        refine Ev.reg [(0,.box 3 1 (encI .i64) 0 (rJ k3 0))] [0,5,7,8,9] (st' := ⟨[(0,(LY b)),(5,yt7),(7,(dB true)),(8,(LY (jr l l.length))),(9,(.own 2))],[(yt2 k0 k1 k2 k3),.dead,(.arr 3 1 (encI .i64) 0 (rJ k3 0))]⟩)
          (p := eqRows [] ((rJ k3 0).map (encI .i64))∧True∧True) (by kernel_rfl)
          ⟨oK,oK,oK⟩ ?_
        refine Ev.seq ?_
        refine Ev.seq ?_
        refine Ev.reg [] [0,5,7,8,9,10] (st' := ⟨[(0,(LY b)),(5,yt7),(7,(dB true)),(8,(LY (jr l l.length))),(9,(.own 2)),(10,(i6 0))],[(yt2 k0 k1 k2 k3),.dead,(.arr 3 1 (encI .i64) 0 (rJ k3 0))]⟩)
          (p := True∧True) (by kernel_rfl)
          ⟨oK,oK⟩ ?_
        refine Ev.block ?_
        refine Ev.loop [0,5,7,8,9,10] 3 (fun (j : Nat) => ⟨[(0,(LY b)),(5,yt7),(7,(dB true)),(8,(LY (jr l l.length))),(9,(.own 2)),(10,(i6 ((j : Nat) : Int)))],[(yt2 k0 k1 k2 k3),.dead,(.arr 3 1 (encI .i64) 0 (rJ k3 j))]⟩) (fun (j : Nat) => j ≤ k3 % 300) (fun (j : Nat) => k3 % 300 - j) 0 (by kernel_rfl) (by omega) ?_
        rintro j hinv
        have hinv : j ≤ k3 % 300 := hinv
        have hri := hinv
        refine Ev.seq ?_
        refine Ev.seq ?_
        refine Ev.reg [(3,.val (dI .u16 ((k3 % 300 : Nat) : Int))),(4,.val (i6 ((k3 % 300 : Nat) : Int)))] [0,5,7,8,9,10,72] (st' := ⟨[(0,(LY b)),(5,yt7),(7,(dB true)),(8,(LY (jr l l.length))),(9,(.own 2)),(10,(i6 ((j : Nat) : Int))),(72,(dB (decide (((j : Nat) : Int) < ((k3 % 300 : Nat) : Int)))))],[(yt2 k0 k1 k2 k3),.dead,(.arr 3 1 (encI .i64) 0 (rJ k3 j))]⟩)
          (p := True∧((0 ≤ (3 : Int)∧3 < (4 : Int))∧True)∧True∧((300 : Int) ≠ 0∧(Int.tmod ((k3 : Nat) : Int) 300) = ((k3 % 300 : Nat) : Int))∧(True∧(IntKind.wrap .i64 ((k3 % 300 : Nat) : Int)) = ((k3 % 300 : Nat) : Int))∧True∧True) (by kernel_rfl)
          ⟨oK,⟨by omega,oK⟩,oK,⟨(by first | omega | (simp; first | done | omega) | (have := hE.2; omega) | (rw [rJ_len]; omega)),(tmodN _ 300)⟩,⟨oK,(w64 rfl (by first | omega | (simp; first | done | omega) | (have := hE.2; omega) | (rw [rJ_len]; omega)) (by first | omega | (simp; first | done | omega) | (have := hE.2; omega) | (rw [rJ_len]; omega)))⟩,oK,oK⟩ ?_
        refine Ev.cond _ rfl (fun hc72 => ?_) (fun hc72 => ?_)
        · try simp only [decide_eq_true_eq,decide_eq_false_iff_not,beq_iff_eq,bne_iff_ne,ne_eq,beq_eq_false_iff_ne,bne_eq_false_iff_eq,Bool.not_eq_true,Bool.not_eq_false,Bool.not_eq_true',Bool.not_eq_false',Bool.not_not,gt_iff_lt,ge_iff_le,Nat.not_lt,Int.not_lt,Int.not_le] at hc72
          refine Ev.skip ?_
          refine Ev.seq ?_
          refine Ev.block ?_
          refine Ev.reg [(2,.val (i6 ((7 * j : Nat) : Int))),(5,.val (i6 ((k3 : Nat) : Int))),(6,.val (i6 (((7 * j : Nat) : Int) - ((k3 : Nat) : Int)))),(7,.box 3 1 (encI .i64) 0 [((7 * j : Nat) : Int) - ((k3 : Nat) : Int)]),(8,.box 3 1 (encI .i64) 0 (rJ k3 (j + 1)))] [0,5,7,8,9,10] (st' := ⟨[(0,(LY b)),(5,yt7),(7,(dB true)),(8,(LY (jr l l.length))),(9,(.own 2)),(10,(i6 ((j : Nat) : Int)))],(yt10 k0 k1 k2 k3 j)⟩)
            (p := T2 ((True∧(IntKind.wrap .i64 (7 * ((j : Nat) : Int))) = ((7 * j : Nat) : Int))∧((0 ≤ (3 : Int)∧3 < (4 : Int))∧True)∧True∧(True∧(IntKind.wrap .i64 ((k3 : Nat) : Int)) = ((k3 : Nat) : Int))∧(True∧(IntKind.wrap .i64 (((7 * j : Nat) : Int) - ((k3 : Nat) : Int))) = (((7 * j : Nat) : Int) - ((k3 : Nat) : Int)))∧eqRows [[(i6 (((7 * j : Nat) : Int) - ((k3 : Nat) : Int)))]] ([((7 * j : Nat) : Int) - ((k3 : Nat) : Int)].map (encI .i64))∧((rJ k3 j).length + ([((7 * j : Nat) : Int) - ((k3 : Nat) : Int)].map (encI .i64)).length ≤ 137438953472∧(rJ k3 j).map (encI .i64) ++ [((7 * j : Nat) : Int) - ((k3 : Nat) : Int)].map (encI .i64) = (rJ k3 (j + 1)).map (encI .i64))∧True∧True)) (by kernel_rfl)
            ⟨oK,oK,⟨oK,(w64n (by first | rfl | simp | omega) (by first | omega | (simp; first | done | omega) | (have := hE.2; omega) | (rw [rJ_len]; omega)))⟩,⟨by omega,oK⟩,oK,⟨oK,(w64 rfl (by first | omega | (simp; first | done | omega) | (have := hE.2; omega) | (rw [rJ_len]; omega)) (by first | omega | (simp; first | done | omega) | (have := hE.2; omega) | (rw [rJ_len]; omega)))⟩,⟨oK,(w64 rfl (by first | omega | (simp; first | done | omega) | (have := hE.2; omega) | (rw [rJ_len]; omega)) (by first | omega | (simp; first | done | omega) | (have := hE.2; omega) | (rw [rJ_len]; omega)))⟩,⟨⟨rfl,oK⟩,oK⟩,⟨by simp only [List.length_map,List.length_cons,List.length_nil]; rw [rJ_len]; omega,by rw [rJ_succ,List.map_append]⟩,oK,oK⟩ ?_
          refine Ev.reg [(1,.val (i6 ((j + 1 : Nat) : Int)))] [0,5,7,8,9,10] (st' := ⟨[(0,(LY b)),(5,yt7),(7,(dB true)),(8,(LY (jr l l.length))),(9,(.own 2)),(10,(i6 ((j + 1 : Nat) : Int)))],(yt10 k0 k1 k2 k3 j)⟩)
            (p := True∧(True∧(IntKind.wrap .i64 (((j : Nat) : Int) + 1)) = ((j + 1 : Nat) : Int))∧True∧True) (by kernel_rfl)
            ⟨oK,⟨oK,(w64n (by first | rfl | simp | omega) (by first | omega | (simp; first | done | omega) | (have := hE.2; omega) | (rw [rJ_len]; omega)))⟩,oK,oK⟩ ?_
          refine ⟨j + 1,by kernel_rfl,(?_ : (j + 1) ≤ k3 % 300),(?_ : k3 % 300 - (j + 1) < k3 % 300 - j)⟩
          · omega
          · omega
        · try simp only [decide_eq_true_eq,decide_eq_false_iff_not,beq_iff_eq,bne_iff_ne,ne_eq,beq_eq_false_iff_ne,bne_eq_false_iff_eq,Bool.not_eq_true,Bool.not_eq_false,Bool.not_eq_true',Bool.not_eq_false',Bool.not_not,gt_iff_lt,ge_iff_le,Nat.not_lt,Int.not_lt,Int.not_le] at hc72
          refine Ev.exit ?_
          refine Ev.seq ?_
          refine Ev.freeze 2 (st' := ⟨[(0,(LY b)),(5,yt7),(7,(dB true)),(8,(LY (jr l l.length))),(9,(LI (rJ k3 j))),(10,(i6 ((j : Nat) : Int))),(72,(dB (decide (((j : Nat) : Int) < ((k3 % 300 : Nat) : Int)))))],[(yt2 k0 k1 k2 k3),.dead,.dead]⟩) (by kernel_rfl) ?_
          refine Ev.reg [(2,.box 47 1 encLY [] [b,jr l l.length])] [5,7,9,11] (st' := ⟨[(5,yt7),(7,(dB true)),(9,(LI (rJ k3 j))),(11,(.own 3))],[(yt2 k0 k1 k2 k3),.dead,.dead,(.arr 47 1 encLY [] [b,jr l l.length])]⟩)
            (p := T2 (eqRows [[(LY b)],[(LY (jr l l.length))]] ([b,jr l l.length].map encLY)∧True∧True)) (by kernel_rfl)
            ⟨oK,oK,⟨⟨rfl,oK⟩,⟨rfl,oK⟩,oK⟩,oK,oK⟩ ?_
          refine Ev.seq ?_
          refine Ev.seq ?_
          refine Ev.freeze 3 (st' := ⟨[(5,yt7),(7,(dB true)),(9,(LI (rJ k3 j))),(11,(yt14 b l))],(yt11 k0 k1 k2 k3)⟩) (by kernel_rfl) ?_
          refine Ev.reg [] [5,7,9,11,12] (st' := ⟨[(5,yt7),(7,(dB true)),(9,(LI (rJ k3 j))),(11,(yt14 b l)),(12,(i6 0))],(yt11 k0 k1 k2 k3)⟩)
            (p := True∧True) (by kernel_rfl)
            ⟨oK,oK⟩ ?_
          refine Ev.block ?_
          refine Ev.loop [5,7,9,11,12] 4 (fun (i : Nat) => ⟨[(5,yt7),(7,(dB true)),(9,(LI (rJ k3 j))),(11,(yt14 b l)),(12,(yt15 i))],(yt11 k0 k1 k2 k3)⟩) (fun (i : Nat) => i ≤ 2) (fun (i : Nat) => 2 - i) 0 (by kernel_rfl) (by omega) ?_
          rintro i hinv
          have hinv : i ≤ 2 := hinv
          have hai := hinv
          refine Ev.seq ?_
          refine Ev.seq ?_
          refine Ev.reg [(2,.val (i6 2))] [5,7,9,11,12,90] (st' := ⟨[(5,yt7),(7,(dB true)),(9,(LI (rJ k3 j))),(11,(yt14 b l)),(12,(yt15 i)),(90,(dB (decide (((i : Nat) : Int) < 2))))],(yt11 k0 k1 k2 k3)⟩)
            (p := T2 ((True∧(([b,jr l l.length].length : Nat) : Int) = 2)∧True∧True)) (by kernel_rfl)
            ⟨oK,oK,⟨oK,rfl⟩,oK,oK⟩ ?_
          refine Ev.cond _ rfl (fun hc90 => ?_) (fun hc90 => ?_)
          · try simp only [decide_eq_true_eq,decide_eq_false_iff_not,beq_iff_eq,bne_iff_ne,ne_eq,beq_eq_false_iff_ne,bne_eq_false_iff_eq,Bool.not_eq_true,Bool.not_eq_false,Bool.not_eq_true',Bool.not_eq_false',Bool.not_not,gt_iff_lt,ge_iff_le,Nat.not_lt,Int.not_lt,Int.not_le] at hc90
            refine Ev.skip ?_
            refine Ev.seq ?_
            refine Ev.block ?_
            refine Ev.seq ?_
            have hE := all2 (b := b) (o := jr l l.length) ⟨hb8,by omega⟩ hJ (show i < 2 by omega)
            refine Ev.draw 12 [false,false,false,false,false,false,false,false,false,false,false,false] [(4,.call none true (.agg (yt5 b l i))),(9,.call none true (.agg (yt3 b l i)))] [5,7,9,11,12,13,14] (st' := ⟨[(5,yt7),(7,(dB true)),(9,(LI (rJ k3 j))),(11,(yt14 b l)),(12,(yt15 i)),(13,(.ptr 4 0 0 0)),(14,(.ptr 5 0 0 0))],[(yt2 k0 k1 k2 k3),.dead,.dead,.dead,(.var 55 (yt5 b l i)),(.var 55 (yt3 b l i))]⟩)
              (p := (T2 ((0 ≤ ((i : Nat) : Int)∧((i : Nat) : Int) < ([b,jr l l.length].length : Int))∧True∧callOb Try.prog 26 (yt11 k0 k1 k2 k3) [(yt18 b l i)] none true (.agg (yt5 b l i))∧T2 ((0 ≤ ((i : Nat) : Int)∧((i : Nat) : Int) < ([b,jr l l.length].length : Int))∧True∧callOb Try.prog 27 (yt11 k0 k1 k2 k3) [(yt18 b l i)] none true (.agg (yt3 b l i))∧T2 True)))∧(T2 True)) (by kernel_rfl) (by kernel_rfl)
              ⟨⟨oK,oK,(by first | omega | (simp; first | done | omega) | (have := hE.2; omega) | (rw [rJ_len]; omega)),oK,(lread_ok _ (by first | exact hE.1 | assumption) (by first | omega | (simp; first | done | omega) | (have := hE.2; omega) | (rw [rJ_len]; omega))),oK,oK,(by first | omega | (simp; first | done | omega) | (have := hE.2; omega) | (rw [rJ_len]; omega)),oK,(readin_ok _ (by first | exact hE.1 | assumption) (by first | omega | (simp; first | done | omega) | (have := hE.2; omega) | (rw [rJ_len]; omega))),oK,oK,oK⟩,⟨oK,oK,oK⟩⟩ ?_
            refine Ev.seq ?_
            refine Ev.draw 14 [false,false,false,false,false,false,false,false,false,false,false,false,false,false] [(5,.call none true (.agg (yt8 b l i k3 j))),(11,.call none true (.agg (yt8 b l i k3 j)))] [5,7,9,11,12,13,14,15,16] (st' := ⟨[(5,yt7),(7,(dB true)),(9,(LI (rJ k3 j))),(11,(yt14 b l)),(12,(yt15 i)),(13,(.ptr 4 0 0 0)),(14,(.ptr 5 0 0 0)),(15,(.ptr 6 0 0 0)),(16,(.ptr 7 0 0 0))],(yt1 k0 k1 k2 k3 b l i j)⟩)
              (p := (T2 ((0 ≤ ((i : Nat) : Int)∧((i : Nat) : Int) < ([b,jr l l.length].length : Int))∧T2 (callOb Try.prog 28 [(yt2 k0 k1 k2 k3),.dead,.dead,.dead,(.var 55 (yt5 b l i)),(.var 55 (yt3 b l i))] [(yt18 b l i),(LI (rJ k3 j))] none true (.agg (yt8 b l i k3 j))∧T2 ((0 ≤ ((i : Nat) : Int)∧((i : Nat) : Int) < ([b,jr l l.length].length : Int))∧T2 (callOb Try.prog 29 [(yt2 k0 k1 k2 k3),.dead,.dead,.dead,(.var 55 (yt5 b l i)),(.var 55 (yt3 b l i))] [(yt18 b l i),(LI (rJ k3 j))] none true (.agg (yt8 b l i k3 j))∧T2 True)))))∧(T2 True)) (by kernel_rfl) (by kernel_rfl)
              ⟨⟨oK,oK,(by first | omega | (simp; first | done | omega) | (have := hE.2; omega) | (rw [rJ_len]; omega)),oK,oK,(lput_ok _ _ (by first | exact hE.1 | assumption) (by have := hE.2; omega) (by rw [rJ_len]; omega)),oK,oK,(by first | omega | (simp; first | done | omega) | (have := hE.2; omega) | (rw [rJ_len]; omega)),oK,oK,(putin_ok _ _ (by first | exact hE.1 | assumption) (by first | omega | (simp; first | done | omega) | (have := hE.2; omega) | (rw [rJ_len]; omega)) (by rw [rJ_len]; omega)),oK,oK,oK⟩,⟨oK,oK,oK⟩⟩ ?_
            refine Ev.seq ?_
            refine Ev.seq ?_
            refine Ev.draw 50 [false,false,false,false,false,false,false,false,false,false,false,false,false,false,false,false,false,false,false,false,false,false,false,false,false,false,false,false,false,false,false,false,false,false,false,false,false,false,false,false,false,false,false,false,false,false,false,false,false,false] [(4,.val (dB false)),(10,.call none false (dB (decide ((readF ([b,jr l l.length].getD i []) 0).1 = (readF ([b,jr l l.length].getD i []) 0).1)))),(11,.val (dB false)),(18,.call none false (dB (decide (((readF ([b,jr l l.length].getD i []) 0).2.1) = ((readF ([b,jr l l.length].getD i []) 0).2.1))))),(19,.val (dB false)),(26,.val (dB false)),(33,.call none false (dB (decide ((jputJ ([b,jr l l.length].getD i []) (rJ k3 j)) = (jputJ ([b,jr l l.length].getD i []) (rJ k3 j)))))),(34,.val (dB false)),(41,.call none true (yt17 b l i)),(46,.call none true (yt17 b l i)),(47,.call none false (dB (decide ((wholeF ([b,jr l l.length].getD i [])) = (wholeF ([b,jr l l.length].getD i [])))))),(48,.val (dB false))] [5,7,9,11,12,164] (st' := ⟨[(5,yt7),(7,(dB true)),(9,(LI (rJ k3 j))),(11,(yt14 b l)),(12,(yt15 i)),(164,(dB false))],(yt1 k0 k1 k2 k3 b l i j)⟩)
              (p := (T4 ((True∧((tornF ([b,jr l l.length].getD i [])) != (tornF ([b,jr l l.length].getD i []))) = false)∧T5 (callOb Try.prog 30 (yt1 k0 k1 k2 k3 b l i j) [(dL 1 encLI [] ((readF ([b,jr l l.length].getD i []) 0).1)),(dL 1 encLI [] ((readF ([b,jr l l.length].getD i []) 0).1))] none false (dB (decide ((readF ([b,jr l l.length].getD i []) 0).1 = (readF ([b,jr l l.length].getD i []) 0).1)))∧(True∧(!(decide ((readF ([b,jr l l.length].getD i []) 0).1 = (readF ([b,jr l l.length].getD i []) 0).1))) = false)∧T6 (callOb Try.prog 31 (yt1 k0 k1 k2 k3 b l i j) [(LY ((readF ([b,jr l l.length].getD i []) 0).2.1)),(LY ((readF ([b,jr l l.length].getD i []) 0).2.1))] none false (dB (decide (((readF ([b,jr l l.length].getD i []) 0).2.1) = ((readF ([b,jr l l.length].getD i []) 0).2.1))))∧(True∧(!(decide (((readF ([b,jr l l.length].getD i []) 0).2.1) = ((readF ([b,jr l l.length].getD i []) 0).2.1)))) = false)∧T6 ((True∧((jputE ([b,jr l l.length].getD i []) (rJ k3 j)) != (jputE ([b,jr l l.length].getD i []) (rJ k3 j))) = false)∧T6 (callOb Try.prog 31 (yt1 k0 k1 k2 k3 b l i j) [(LY (jputJ ([b,jr l l.length].getD i []) (rJ k3 j))),(LY (jputJ ([b,jr l l.length].getD i []) (rJ k3 j)))] none false (dB (decide ((jputJ ([b,jr l l.length].getD i []) (rJ k3 j)) = (jputJ ([b,jr l l.length].getD i []) (rJ k3 j)))))∧(True∧(!(decide ((jputJ ([b,jr l l.length].getD i []) (rJ k3 j)) = (jputJ ([b,jr l l.length].getD i []) (rJ k3 j))))) = false)∧T4 ((0 ≤ ((i : Nat) : Int)∧((i : Nat) : Int) < ([b,jr l l.length].length : Int))∧True∧callOb Try.prog 32 (yt1 k0 k1 k2 k3 b l i j) [(yt18 b l i)] none true (yt17 b l i)∧T2 ((0 ≤ ((i : Nat) : Int)∧((i : Nat) : Int) < ([b,jr l l.length].length : Int))∧True∧callOb Try.prog 33 (yt1 k0 k1 k2 k3 b l i j) [(yt18 b l i)] none true (yt17 b l i)∧callOb Try.prog 31 (yt1 k0 k1 k2 k3 b l i j) [(yt17 b l i),(yt17 b l i)] none false (dB (decide ((wholeF ([b,jr l l.length].getD i [])) = (wholeF ([b,jr l l.length].getD i [])))))∧(True∧(!(decide ((wholeF ([b,jr l l.length].getD i [])) = (wholeF ([b,jr l l.length].getD i []))))) = false)∧True∧True))))))))∧True) (by kernel_rfl) (by kernel_rfl)
              ⟨⟨oK,oK,oK,oK,⟨oK,(by simp)⟩,oK,oK,oK,oK,oK,(records_ok _ _ (by first | exact recs_read hE | assumption) (by first | exact recs_read hE | assumption)),⟨oK,(by simp)⟩,oK,oK,oK,oK,oK,oK,(sameB_ok _ _ (by first | exact len_rest hE | exact len_put _ _ | exact len_whole hE | exact len_cut hE _ | omega) (by first | exact len_rest hE | exact len_put _ _ | exact len_whole hE | exact len_cut hE _ | omega)),⟨oK,(by simp)⟩,oK,oK,oK,oK,oK,oK,⟨oK,(by simp)⟩,oK,oK,oK,oK,oK,oK,(sameB_ok _ _ (by first | exact len_rest hE | exact len_put _ _ | exact len_whole hE | exact len_cut hE _ | omega) (by first | exact len_rest hE | exact len_put _ _ | exact len_whole hE | exact len_cut hE _ | omega)),⟨oK,(by simp)⟩,oK,oK,oK,oK,(by first | omega | (simp; first | done | omega) | (have := hE.2; omega) | (rw [rJ_len]; omega)),oK,(whole_ok _ (by first | exact hE.1 | assumption) (by first | omega | (simp; first | done | omega) | (have := hE.2; omega) | (rw [rJ_len]; omega))),oK,oK,(by first | omega | (simp; first | done | omega) | (have := hE.2; omega) | (rw [rJ_len]; omega)),oK,(rwhole_ok _ (by first | exact hE.1 | assumption) (by first | omega | (simp; first | done | omega) | (have := hE.2; omega) | (rw [rJ_len]; omega))),(sameB_ok _ _ (by first | exact len_rest hE | exact len_put _ _ | exact len_whole hE | exact len_cut hE _ | omega) (by first | exact len_rest hE | exact len_put _ _ | exact len_whole hE | exact len_cut hE _ | omega)),⟨oK,(by simp)⟩,oK,oK⟩,oK⟩ ?_
            refine Ev.cond false rfl (fun h => (by cases h)) (fun _ => ?_)
            refine Ev.skip ?_
            refine Ev.seq ?_
            refine Ev.draw 20 [false,false,false,false,false,false,false,false,false,false,false,false,false,false,false,false,false,false,false,false] [(6,.val (i6 ((k0 : Nat) : Int))),(7,.val (yt16 k0)),(8,.call none true (yt12 b l i k0)),(15,.val (i6 ((k0 : Nat) : Int))),(16,.val (yt16 k0)),(17,.call none true (yt12 b l i k0)),(18,.call none false (dB (decide ((cutF ([b,jr l l.length].getD i []) (((k0 : Nat) : Int) - 9)) = (cutF ([b,jr l l.length].getD i []) (((k0 : Nat) : Int) - 9)))))),(19,.val (dB false))] [5,7,9,11,12,184] (st' := ⟨[(5,yt7),(7,(dB true)),(9,(LI (rJ k3 j))),(11,(yt14 b l)),(12,(yt15 i)),(184,(dB false))],(yt1 k0 k1 k2 k3 b l i j)⟩)
              (p := (T2 ((0 ≤ ((i : Nat) : Int)∧((i : Nat) : Int) < ([b,jr l l.length].length : Int))∧True∧((0 ≤ (0 : Int)∧0 < (4 : Int))∧True)∧True∧(True∧(IntKind.wrap .i64 ((k0 : Nat) : Int)) = ((k0 : Nat) : Int))∧(True∧(IntKind.wrap .i64 (((k0 : Nat) : Int) - 9)) = (((k0 : Nat) : Int) - 9))∧callOb Try.prog 34 (yt1 k0 k1 k2 k3 b l i j) [(yt18 b l i),(yt16 k0)] none true (yt12 b l i k0)∧T2 ((0 ≤ ((i : Nat) : Int)∧((i : Nat) : Int) < ([b,jr l l.length].length : Int))∧True∧((0 ≤ (0 : Int)∧0 < (4 : Int))∧True)∧True∧(True∧(IntKind.wrap .i64 ((k0 : Nat) : Int)) = ((k0 : Nat) : Int))∧(True∧(IntKind.wrap .i64 (((k0 : Nat) : Int) - 9)) = (((k0 : Nat) : Int) - 9))∧callOb Try.prog 35 (yt1 k0 k1 k2 k3 b l i j) [(yt18 b l i),(yt16 k0)] none true (yt12 b l i k0)∧callOb Try.prog 31 (yt1 k0 k1 k2 k3 b l i j) [(yt12 b l i k0),(yt12 b l i k0)] none false (dB (decide ((cutF ([b,jr l l.length].getD i []) (((k0 : Nat) : Int) - 9)) = (cutF ([b,jr l l.length].getD i []) (((k0 : Nat) : Int) - 9)))))∧(True∧(!(decide ((cutF ([b,jr l l.length].getD i []) (((k0 : Nat) : Int) - 9)) = (cutF ([b,jr l l.length].getD i []) (((k0 : Nat) : Int) - 9))))) = false)∧True)))∧True) (by kernel_rfl) (by kernel_rfl)
              ⟨⟨oK,oK,(by first | omega | (simp; first | done | omega) | (have := hE.2; omega) | (rw [rJ_len]; omega)),oK,⟨by omega,oK⟩,oK,⟨oK,(w64 rfl (by first | omega | (simp; first | done | omega) | (have := hE.2; omega) | (rw [rJ_len]; omega)) (by first | omega | (simp; first | done | omega) | (have := hE.2; omega) | (rw [rJ_len]; omega)))⟩,⟨oK,(w64 rfl (by first | omega | (simp; first | done | omega) | (have := hE.2; omega) | (rw [rJ_len]; omega)) (by first | omega | (simp; first | done | omega) | (have := hE.2; omega) | (rw [rJ_len]; omega)))⟩,(cut_ok _ _ (by first | omega | (simp; first | done | omega) | (have := hE.2; omega) | (rw [rJ_len]; omega))),oK,oK,(by first | omega | (simp; first | done | omega) | (have := hE.2; omega) | (rw [rJ_len]; omega)),oK,⟨by omega,oK⟩,oK,⟨oK,(w64 rfl (by first | omega | (simp; first | done | omega) | (have := hE.2; omega) | (rw [rJ_len]; omega)) (by first | omega | (simp; first | done | omega) | (have := hE.2; omega) | (rw [rJ_len]; omega)))⟩,⟨oK,(w64 rfl (by first | omega | (simp; first | done | omega) | (have := hE.2; omega) | (rw [rJ_len]; omega)) (by first | omega | (simp; first | done | omega) | (have := hE.2; omega) | (rw [rJ_len]; omega)))⟩,(rcut_ok _ _ (by first | omega | (simp; first | done | omega) | (have := hE.2; omega) | (rw [rJ_len]; omega))),(sameB_ok _ _ (by first | exact len_rest hE | exact len_put _ _ | exact len_whole hE | exact len_cut hE _ | omega) (by first | exact len_rest hE | exact len_put _ _ | exact len_whole hE | exact len_cut hE _ | omega)),⟨oK,(by simp)⟩,oK⟩,oK⟩ ?_
            refine Ev.cond false rfl (fun h => (by cases h)) (fun _ => ?_)
            refine Ev.skip ?_
            refine Ev.reg [(1,.val (i6 ((i + 1 : Nat) : Int)))] [5,7,9,11,12] (st' := ⟨[(5,yt7),(7,(dB true)),(9,(LI (rJ k3 j))),(11,(yt14 b l)),(12,(i6 ((i + 1 : Nat) : Int)))],(yt1 k0 k1 k2 k3 b l i j)⟩)
              (p := True∧(True∧(IntKind.wrap .i64 (((i : Nat) : Int) + 1)) = ((i + 1 : Nat) : Int))∧True∧True) (by kernel_rfl)
              ⟨oK,⟨oK,(w64n (by first | rfl | simp | omega) (by first | omega | (simp; first | done | omega) | (have := hE.2; omega) | (rw [rJ_len]; omega)))⟩,oK,oK⟩ ?_
            refine ⟨i + 1,by kernel_rfl,(?_ : (i + 1) ≤ 2),(?_ : 2 - (i + 1) < 2 - i)⟩
            · omega
            · omega
          · try simp only [decide_eq_true_eq,decide_eq_false_iff_not,beq_iff_eq,bne_iff_ne,ne_eq,beq_eq_false_iff_ne,bne_eq_false_iff_eq,Bool.not_eq_true,Bool.not_eq_false,Bool.not_eq_true',Bool.not_eq_false',Bool.not_not,gt_iff_lt,ge_iff_le,Nat.not_lt,Int.not_lt,Int.not_le] at hc90
            refine Ev.exit ?_
            refine Ev.seq ?_
            refine Ev.reg [] [6] (st' := ⟨[(6,(dB true))],(yt11 k0 k1 k2 k3)⟩)
              (p := T2 True) (by kernel_rfl)
              ⟨oK,oK,oK⟩ ?_
            refine Ev.ret ?_
            refine ⟨⟨oK,oK⟩,(?_ : true = true),.inr trivial⟩
            rfl

end Go.Proofs.Ytjmfaebimgnblaa
