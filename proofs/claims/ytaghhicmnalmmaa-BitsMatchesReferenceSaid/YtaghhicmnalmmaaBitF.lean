/-
  Package bits: widths of operations.
-/
import Derived.Test.YtaghhicmnalmmaaBitD
namespace Go.Proofs.Ytaghhicmnalmmaa
open Go.RowKit
set_option linter.unusedVariables false
set_option linter.unusedSimpArgs false
abbrev yf0 : Box := (.var 57 [(i6 0),(.v .nilf),(.v .nilf)])
abbrev yf1 (ws xs : List Int) (k w : Int) : Box := (.var 61 [(LI ws),(LI xs),(i6 k),(i6 w)])
abbrev yf40 : D := (.fn (.func 49) [] [])
abbrev yf2 : List D := [(i6 2),yf40,(.fn (.func 50) [] [])]
abbrev yf3 : List D := [(i6 2),yf40,(.fn (.func 51) [] [])]
abbrev yf4 : List D := [(i6 3),(.fn (.func 54) [] []),(.fn (.func 55) [] [])]
abbrev yf5 : List D := [(i6 2),(.fn (.func 56) [] []),(.fn (.func 57) [] [])]
abbrev yf6 : List D := [(i6 1),(.fn (.func 58) [] []),(.fn (.func 59) [] [])]
abbrev yf7 : List D := [(i6 1),(.fn (.func 60) [] []),(.fn (.func 61) [] [])]
abbrev yf8 : D := (.ptr 1 0 0 0)
abbrev yf9 : D := (.ptr 2 0 0 0)
abbrev yf10 : D := (.ptr 0 0 0 0)
abbrev yf11 (ws xs : List Int) (k w : Int) : List Box := [(yf1 ws xs k w),yf0,(.var 57 yf2)]
abbrev yf12 (ws xs : List Int) (k w : Int) : List Box := [(yf1 ws xs k w),yf0,(.var 57 yf3)]
abbrev yf13 (ws xs : List Int) (k w : Int) : List Box := [(yf1 ws xs k w),yf0,(.var 57 yf4)]
abbrev yf14 (ws xs : List Int) (k w : Int) : List Box := [(yf1 ws xs k w),yf0,(.var 57 yf5)]
abbrev yf15 (ws xs : List Int) (k w : Int) : List Box := [(yf1 ws xs k w),yf0,(.var 57 yf6)]
abbrev yf16 (ws xs : List Int) (k w : Int) : List Box := [(yf1 ws xs k w),yf0,(.var 57 yf7)]
abbrev yf17 (ws xs : List Int) (k w : Int) : D := (.agg [(LI ws),(LI xs),(i6 k),(i6 w)])
abbrev yf18 (ws : List Int) (k w : Int) : D := (i6 (wvF 10 ws k w))
abbrev yf19 (ws : List Int) (k w : Int) : D := (i6 (wvF 11 ws k w))
abbrev yf20 (ws : List Int) (k w : Int) : D := (i6 (wvF 12 ws k w))
abbrev yf21 (ws : List Int) (k w : Int) : D := (i6 (wvF 13 ws k w))
abbrev yf22 (ws : List Int) (k w : Int) : D := (i6 (wvF 8 ws k w))
abbrev yf23 (ws : List Int) (k w : Int) : D := (i6 (wvF 9 ws k w))
abbrev yf24 (ws : List Int) : D := (dB (!(ws.all fitsF)))
abbrev yf25 (ws : List Int) : List D := [(LI ws),(.fn (.func 36) [] [])]
abbrev yf26 : D := (.tup [(.agg [(i6 0),(.v .nilf),(.v .nilf)]),(i6 0),(dB false)])
abbrev yf27 (ws xs : List Int) (k w : Int) : List Box := [(yf1 ws xs k w),yf0,yf0]
abbrev yf28 (ws : List Int) (k w : Int) : D := (dB (fitsF (wvF 10 ws k w)))
abbrev yf29 (ws : List Int) (k w : Int) : D := (dB (fitsF (wvF 11 ws k w)))
abbrev yf30 (ws : List Int) (k w : Int) : D := (dB (fitsF (wvF 12 ws k w)))
abbrev yf31 (ws : List Int) (k w : Int) : D := (dB (fitsF (wvF 13 ws k w)))
abbrev yf32 (ws : List Int) (k w : Int) : D := (dB (fitsF (wvF 8 ws k w)))
abbrev yf33 (ws : List Int) (k w : Int) : D := (dB (fitsF (wvF 9 ws k w)))
abbrev yf34 (ws xs : List Int) (k w : Int) : List Box := [(yf1 ws xs k w),(.var 57 yf2),(.var 57 yf2)]
abbrev yf35 (ws xs : List Int) (k w : Int) : List Box := [(yf1 ws xs k w),(.var 57 yf3),(.var 57 yf3)]
abbrev yf36 (ws xs : List Int) (k w : Int) : List Box := [(yf1 ws xs k w),(.var 57 yf4),(.var 57 yf4)]
abbrev yf37 (ws xs : List Int) (k w : Int) : List Box := [(yf1 ws xs k w),(.var 57 yf5),(.var 57 yf5)]
abbrev yf38 (ws xs : List Int) (k w : Int) : List Box := [(yf1 ws xs k w),(.var 57 yf6),(.var 57 yf6)]
abbrev yf39 (ws xs : List Int) (k w : Int) : List Box := [(yf1 ws xs k w),(.var 57 yf7),(.var 57 yf7)]
abbrev yf41 : List (Nat × D) := [(0,(i6 10)),(3,yf10),(4,yf8),(7,yf9),(8,(dB false)),(17,(dB true))]
abbrev yf42 : List (Nat × D) := [(0,(i6 11)),(3,yf10),(4,yf8),(7,yf9),(8,(dB false)),(17,(dB true))]
abbrev yf43 : List (Nat × D) := [(0,(i6 12)),(3,yf10),(4,yf8),(7,yf9),(8,(dB false)),(17,(dB true))]
abbrev yf44 : List (Nat × D) := [(0,(i6 13)),(3,yf10),(4,yf8),(7,yf9),(8,(dB false)),(17,(dB true))]
abbrev yf45 : List (Nat × D) := [(0,(i6 8)),(3,yf10),(4,yf8),(7,yf9),(8,(dB true)),(17,(dB false))]
abbrev yf46 : List (Nat × D) := [(0,(i6 9)),(3,yf10),(4,yf8),(7,yf9),(8,(dB true)),(17,(dB false))]
abbrev yf47 (ws xs : List Int) (k w : Int) : List Box := [(yf1 ws xs k w),yf0]
abbrev yf48 : List (Nat × D) := [(0,(i6 10)),(3,yf10),(4,yf8),(7,yf9),(8,(dB false))]
abbrev yf49 : List (Nat × D) := [(0,(i6 11)),(3,yf10),(4,yf8),(7,yf9),(8,(dB false))]
abbrev yf50 : List (Nat × D) := [(0,(i6 12)),(3,yf10),(4,yf8),(7,yf9),(8,(dB false))]
abbrev yf51 : List (Nat × D) := [(0,(i6 13)),(3,yf10),(4,yf8),(7,yf9),(8,(dB false))]

def zg_8_1_0 (ws xs : List Int) (k w : Int) : St := ⟨[(4,yf8),(7,yf9),(9,(yf22 ws k w))],(yf11 ws xs k w)⟩
def zg_8_1_1 (ws xs : List Int) (k w : Int) : St := ⟨[(4,yf8),(7,yf9),(9,(yf22 ws k w)),(44,(.agg yf2))],(yf11 ws xs k w)⟩
def zg_8_1_2 (ws xs : List Int) (k w : Int) : St := ⟨[(4,yf8),(7,yf9),(9,(yf22 ws k w)),(45,(yf22 ws k w))],(yf11 ws xs k w)⟩
def zg_8_1_3 (ws xs : List Int) (k w : Int) : St := ⟨[(4,yf8),(7,yf9),(9,(yf22 ws k w)),(46,(yf22 ws k w))],(yf11 ws xs k w)⟩
def zg_8_1_4 (ws xs : List Int) (k w : Int) : St := ⟨[(4,yf8),(7,yf9),(9,(yf22 ws k w)),(44,(.agg yf2)),(45,(yf22 ws k w))],(yf11 ws xs k w)⟩
def zg_8_1_5 (ws xs : List Int) (k w : Int) : St := ⟨[(4,yf8),(7,yf9),(9,(yf22 ws k w)),(44,(.agg yf2)),(46,(yf22 ws k w))],(yf11 ws xs k w)⟩
def zg_8_1_6 (ws xs : List Int) (k w : Int) : St := ⟨[(4,yf8),(7,yf9),(9,(yf22 ws k w)),(45,(yf22 ws k w)),(46,(yf22 ws k w))],(yf11 ws xs k w)⟩
def zg_8_1_7 (ws xs : List Int) (k w : Int) : St := ⟨[(4,yf8),(7,yf9),(9,(yf22 ws k w)),(46,(yf22 ws k w)),(47,(yf32 ws k w))],(yf11 ws xs k w)⟩
def zg_8_1_8 (ws xs : List Int) (k w : Int) : St := ⟨[(4,yf8),(7,yf9),(9,(yf22 ws k w)),(44,(.agg yf2)),(45,(yf22 ws k w)),(46,(yf22 ws k w))],(yf11 ws xs k w)⟩
def zg_8_1_9 (ws xs : List Int) (k w : Int) : St := ⟨[(4,yf8),(7,yf9),(9,(yf22 ws k w)),(44,(.agg yf2)),(46,(yf22 ws k w)),(47,(yf32 ws k w))],(yf11 ws xs k w)⟩
def zg_8_1_10 (ws xs : List Int) (k w : Int) : St := ⟨[(4,yf8),(7,yf9),(9,(yf22 ws k w)),(45,(yf22 ws k w)),(46,(yf22 ws k w)),(47,(yf32 ws k w))],(yf11 ws xs k w)⟩
def zg_8_1_11 (ws xs : List Int) (k w : Int) : St := ⟨[(4,yf8),(7,yf9),(9,(yf22 ws k w)),(44,(.agg yf2)),(45,(yf22 ws k w)),(46,(yf22 ws k w)),(47,(yf32 ws k w))],(yf11 ws xs k w)⟩
def zg_8_1_12 (ws xs : List Int) (k w : Int) : St := ⟨[(4,yf8),(7,yf9),(9,(yf22 ws k w)),(44,(.agg yf2)),(46,(yf22 ws k w)),(47,(yf32 ws k w))],(yf34 ws xs k w)⟩
def zg_8_1_13 (ws xs : List Int) (k w : Int) : St := ⟨[(4,yf8),(7,yf9),(9,(yf22 ws k w)),(44,(.agg yf2)),(45,(yf22 ws k w)),(46,(yf22 ws k w)),(47,(yf32 ws k w))],(yf34 ws xs k w)⟩
def zg_8_1_14 (ws xs : List Int) (k w : Int) : St := ⟨[(4,yf8),(5,(yf22 ws k w)),(7,yf9),(9,(yf22 ws k w)),(44,(.agg yf2)),(45,(yf22 ws k w)),(46,(yf22 ws k w)),(47,(yf32 ws k w))],(yf34 ws xs k w)⟩
def zg_8_1_15 (ws xs : List Int) (k w : Int) : St := ⟨[(4,yf8),(5,(yf22 ws k w)),(6,(dB true))],(yf34 ws xs k w)⟩
set_option maxRecDepth 100000 in
theorem width_good_8 (ws xs : List Int) (k w : Int) (hw : ws.length ≤ 9223372036854775807) (h : okF 8 ws k w = true) : CallOk Try.prog 27 [(i6 8),(yf17 ws xs k w)] [] true (.tup [(.agg yf2),(yf22 ws k w),(dB true)]) [] := by
  refine CallOk.of_ev Try.func27 rfl rfl rfl ?_
  rintro ⟨_,W,S0,_,susp,_⟩ rfl rfl rfl
  obtain ⟨h1,h2,h3⟩ := ok_yes h
  have hA : arityF 8 = 2 := by decide
  rw [hA] at h1
  refine Ev.seq ?_
  refine Ev.reg [] [0,3,4] (st' := ⟨[(0,(i6 8)),(3,yf10),(4,yf8)],(yf47 ws xs k w)⟩)
    (p := T4 True) (by kernel_rfl)
    ⟨oK,oK,oK,oK,oK⟩ ?_
  refine Ev.seq ?_
  refine Ev.reg [(0,.call none false (.v (.mp simpleM))),(2,.idx (some 6))] [0,3,4,7,8] (st' := ⟨[(0,(i6 8)),(3,yf10),(4,yf8),(7,yf9),(8,(dB true))],(yf11 ws xs k w)⟩)
    (p := callOb Try.prog 33 (yf47 ws xs k w) [] none false (.v (.mp simpleM))∧True∧((8 : Int) = 8∧∀ e' ∈ simpleM.take 6,(8 : Int) ≠ e'.1)∧True∧True∧True∧True∧True∧True∧True) (by kernel_rfl)
    ⟨simple_ok,oK,(by decide),oK,oK,oK,oK,oK,oK,oK⟩ ?_
  refine Ev.seq ?_
  refine Ev.seq ?_
  refine Ev.reg [] [0,3,4,7,8,17] (st' := ⟨yf45,(yf11 ws xs k w)⟩)
    (p := T2 True) (by kernel_rfl)
    ⟨oK,oK,oK⟩ ?_
  refine Ev.cond false rfl (fun h => (by cases h)) (fun _ => ?_)
  refine Ev.skip ?_
  refine Ev.seq ?_
  refine Ev.seq ?_
  refine Ev.reg [(8,.val (dB false)),(13,.call none false (yf24 ws)),(14,.val (dB false))] [3,4,7,38] (st' := ⟨[(3,yf10),(4,yf8),(7,yf9),(38,(dB false))],(yf11 ws xs k w)⟩)
    (p := T8 ((True∧(((ws.length : Nat) : Int) != 2) = false)∧T4 (callOb Try.prog 35 (yf11 ws xs k w) (yf25 ws) none false (yf24 ws)∧(True∧(!(ws.all fitsF)) = false)∧True))) (by kernel_rfl)
    ⟨oK,oK,oK,oK,oK,oK,oK,oK,⟨oK,(by rw [h1]; rfl)⟩,oK,oK,oK,oK,(contains_ok _ (by first | omega | (simp; first | done | omega))),⟨oK,(by rw [h2]; rfl)⟩,oK⟩ ?_
  refine Ev.cond false rfl (fun h => (by cases h)) (fun _ => ?_)
  refine Ev.skip ?_
  refine Ev.seq ?_
  refine Ev.reg [(3,.call none false (i6 (min (alikeF ws) 1))),(4,.val (yf22 ws k w))] [4,7,9] (st' := ⟨[(4,yf8),(7,yf9),(9,(yf22 ws k w))],(yf11 ws xs k w)⟩)
    (p := T3 (callOb Try.prog 49 (yf11 ws xs k w) [(yf17 ws xs k w)] none false (i6 (min (alikeF ws) 1))∧(True∧(min (alikeF ws) 1) = (wvF 8 ws k w))∧True)) (by kernel_rfl)
    ⟨oK,oK,oK,(one_ok _ _ _ _ (by omega) (by assumption)),⟨oK,(by first | rfl | simp [wvF])⟩,oK⟩ ?_
  refine Ev.seq ?_
  refine Ev.any [(3,.call none false (yf32 ws k w)),(6,.val (dB true))] [((bm 7 0),(zg_8_1_0 ws xs k w)),((bm 7 1),(zg_8_1_1 ws xs k w)),((bm 7 2),(zg_8_1_2 ws xs k w)),((bm 7 4),(zg_8_1_3 ws xs k w)),((bm 7 3),(zg_8_1_4 ws xs k w)),((bm 7 5),(zg_8_1_5 ws xs k w)),((bm 7 6),(zg_8_1_6 ws xs k w)),((bm 7 12),(zg_8_1_7 ws xs k w)),((bm 7 7),(zg_8_1_8 ws xs k w)),((bm 7 13),(zg_8_1_9 ws xs k w)),((bm 7 14),(zg_8_1_10 ws xs k w)),((bm 7 15),(zg_8_1_11 ws xs k w)),((bm 7 29),(zg_8_1_12 ws xs k w)),((bm 7 31),(zg_8_1_13 ws xs k w)),((bm 7 63),(zg_8_1_14 ws xs k w)),((bm 7 127),(zg_8_1_15 ws xs k w))] (st0 := (zg_8_1_0 ws xs k w)) (st' := ⟨[(4,yf8),(5,(yf22 ws k w)),(6,(dB true))],(yf34 ws xs k w)⟩)
    (p := ((sE (zg_8_1_1 ws xs k w) (True))∧(sE (zg_8_1_2 ws xs k w) (True))∧(sE (zg_8_1_3 ws xs k w) (True))∧True)∧((sE (zg_8_1_4 ws xs k w) (True))∧(sE (zg_8_1_5 ws xs k w) (True))∧True)∧((sE (zg_8_1_4 ws xs k w) (True))∧(sE (zg_8_1_6 ws xs k w) (True))∧True)∧((sE (zg_8_1_5 ws xs k w) (True))∧(sE (zg_8_1_6 ws xs k w) (True))∧(sE (zg_8_1_7 ws xs k w) (callOb Try.prog 37 (yf11 ws xs k w) [(yf22 ws k w)] none false (yf32 ws k w)))∧True)∧((sE (zg_8_1_8 ws xs k w) (True))∧True)∧((sE (zg_8_1_8 ws xs k w) (True))∧(sE (zg_8_1_9 ws xs k w) (callOb Try.prog 37 (yf11 ws xs k w) [(yf22 ws k w)] none false (yf32 ws k w)))∧True)∧((sE (zg_8_1_8 ws xs k w) (True))∧(sE (zg_8_1_10 ws xs k w) (callOb Try.prog 37 (yf11 ws xs k w) [(yf22 ws k w)] none false (yf32 ws k w)))∧True)∧((sE (zg_8_1_9 ws xs k w) (True))∧(sE (zg_8_1_10 ws xs k w) (True))∧True)∧((sE (zg_8_1_11 ws xs k w) (callOb Try.prog 37 (yf11 ws xs k w) [(yf22 ws k w)] none false (yf32 ws k w)))∧True)∧((sE (zg_8_1_11 ws xs k w) (True))∧(sE (zg_8_1_12 ws xs k w) (True))∧True)∧((sE (zg_8_1_11 ws xs k w) (True))∧True)∧((sE (zg_8_1_13 ws xs k w) (True))∧True)∧((sE (zg_8_1_13 ws xs k w) (True))∧True)∧((sE (zg_8_1_14 ws xs k w) (True))∧True)∧((sE (zg_8_1_15 ws xs k w) ((True∧(fitsF (wvF 8 ws k w)) = true)))∧True)∧True∧True) (by kernel_rfl) (by kernel_rfl) (by kernel_rfl) (by kernel_rfl) (by kernel_rfl) (by kernel_rfl)
    ⟨⟨⟨rfl,oK,oK⟩,⟨rfl,oK,oK⟩,⟨rfl,oK,oK⟩,oK⟩,⟨⟨rfl,oK,oK⟩,⟨rfl,oK,oK⟩,oK⟩,⟨⟨rfl,oK,oK⟩,⟨rfl,oK,oK⟩,oK⟩,⟨⟨rfl,oK,oK⟩,⟨rfl,oK,oK⟩,⟨rfl,(fits_ok _),oK⟩,oK⟩,⟨⟨rfl,oK,oK⟩,oK⟩,⟨⟨rfl,oK,oK⟩,⟨rfl,(fits_ok _),oK⟩,oK⟩,⟨⟨rfl,oK,oK⟩,⟨rfl,(fits_ok _),oK⟩,oK⟩,⟨⟨rfl,oK,oK⟩,⟨rfl,oK,oK⟩,oK⟩,⟨⟨rfl,(fits_ok _),oK⟩,oK⟩,⟨⟨rfl,oK,oK⟩,⟨rfl,oK,oK⟩,oK⟩,⟨⟨rfl,oK,oK⟩,oK⟩,⟨⟨rfl,oK,oK⟩,oK⟩,⟨⟨rfl,oK,oK⟩,oK⟩,⟨⟨rfl,oK,oK⟩,oK⟩,⟨⟨rfl,⟨oK,(by first | exact h3 | simpa [wvF] using h3)⟩,oK⟩,oK⟩,oK,oK⟩ ?_
  refine Ev.ret ?_
  refine ⟨⟨oK,oK,oK,oK⟩,(?_ : ((2 : Int) = 2∧(yf40 : D) = yf40∧((.fn (.func 50) [] []) : D) = (.fn (.func 50) [] [])∧True)∧(wvF 8 ws k w) = (wvF 8 ws k w)∧true = true∧True),.inl rfl⟩
  exact ⟨⟨rfl,rfl,rfl,oK⟩,rfl,rfl,oK⟩

set_option maxRecDepth 100000 in
theorem width_bad_8 (ws xs : List Int) (k w : Int) (hw : ws.length ≤ 9223372036854775807) (h : okB 8 ws = false) : CallOk Try.prog 27 [(i6 8),(yf17 ws xs k w)] [] true yf26 [] := by
  refine CallOk.of_ev Try.func27 rfl rfl rfl ?_
  rintro ⟨_,W,S0,_,susp,_⟩ rfl rfl rfl
  refine Ev.seq ?_
  refine Ev.reg [] [0,3,4] (st' := ⟨[(0,(i6 8)),(3,yf10),(4,yf8)],(yf47 ws xs k w)⟩)
    (p := T4 True) (by kernel_rfl)
    ⟨oK,oK,oK,oK,oK⟩ ?_
  refine Ev.seq ?_
  refine Ev.reg [(0,.call none false (.v (.mp simpleM))),(2,.idx (some 6))] [0,3,4,7,8] (st' := ⟨[(0,(i6 8)),(3,yf10),(4,yf8),(7,yf9),(8,(dB true))],(yf11 ws xs k w)⟩)
    (p := callOb Try.prog 33 (yf47 ws xs k w) [] none false (.v (.mp simpleM))∧True∧((8 : Int) = 8∧∀ e' ∈ simpleM.take 6,(8 : Int) ≠ e'.1)∧True∧True∧True∧True∧True∧True∧True) (by kernel_rfl)
    ⟨simple_ok,oK,(by decide),oK,oK,oK,oK,oK,oK,oK⟩ ?_
  refine Ev.seq ?_
  refine Ev.seq ?_
  refine Ev.reg [] [0,3,4,7,8,17] (st' := ⟨yf45,(yf11 ws xs k w)⟩)
    (p := T2 True) (by kernel_rfl)
    ⟨oK,oK,oK⟩ ?_
  refine Ev.cond false rfl (fun h => (by cases h)) (fun _ => ?_)
  refine Ev.skip ?_
  refine Ev.seq ?_
  refine Ev.seq ?_
  rcases okB_no h with h1 | ⟨h1,h2⟩
  · skip
    have hA : arityF 8 = 2 := by decide
    rw [hA] at h1
    refine Ev.reg [(8,.val (dB true))] [3,4,7,38] (st' := ⟨[(3,yf10),(4,yf8),(7,yf9),(38,(dB true))],(yf11 ws xs k w)⟩)
      (p := T8 ((True∧(((ws.length : Nat) : Int) != 2) = true)∧T6 True)) (by kernel_rfl)
      ⟨oK,oK,oK,oK,oK,oK,oK,oK,⟨oK,(by exact bne_iff_ne.2 (by omega))⟩,oK,oK,oK,oK,oK,oK,oK⟩ ?_
    refine Ev.cond true rfl (fun _ => ?_) (fun h => (by cases h))
    refine Ev.seq ?_
    refine Ev.reg [] [4,5,6] (st' := ⟨[(4,yf8),(5,(i6 0)),(6,(dB false))],(yf11 ws xs k w)⟩)
      (p := T4 True) (by kernel_rfl)
      ⟨oK,oK,oK,oK,oK⟩ ?_
    refine Ev.ret ?_
    refine ⟨⟨oK,oK,oK,oK⟩,(?_ : ((0 : Int) = 0∧True∧True∧True)∧(0 : Int) = 0∧false = false∧True),.inl rfl⟩
    exact ⟨⟨rfl,oK,oK,oK⟩,rfl,rfl,oK⟩
  · skip
    have hA : arityF 8 = 2 := by decide
    rw [hA] at h1
    refine Ev.reg [(8,.val (dB false)),(13,.call none false (yf24 ws)),(14,.val (dB true))] [3,4,7,38] (st' := ⟨[(3,yf10),(4,yf8),(7,yf9),(38,(dB true))],(yf11 ws xs k w)⟩)
      (p := T8 ((True∧(((ws.length : Nat) : Int) != 2) = false)∧T4 (callOb Try.prog 35 (yf11 ws xs k w) (yf25 ws) none false (yf24 ws)∧(True∧(!(ws.all fitsF)) = true)∧True))) (by kernel_rfl)
      ⟨oK,oK,oK,oK,oK,oK,oK,oK,⟨oK,(by rw [h1]; rfl)⟩,oK,oK,oK,oK,(contains_ok _ (by first | omega | (simp; first | done | omega))),⟨oK,(by rw [h2]; rfl)⟩,oK⟩ ?_
    refine Ev.cond true rfl (fun _ => ?_) (fun h => (by cases h))
    refine Ev.seq ?_
    refine Ev.reg [] [4,5,6] (st' := ⟨[(4,yf8),(5,(i6 0)),(6,(dB false))],(yf11 ws xs k w)⟩)
      (p := T4 True) (by kernel_rfl)
      ⟨oK,oK,oK,oK,oK⟩ ?_
    refine Ev.ret ?_
    refine ⟨⟨oK,oK,oK,oK⟩,(?_ : ((0 : Int) = 0∧True∧True∧True)∧(0 : Int) = 0∧false = false∧True),.inl rfl⟩
    exact ⟨⟨rfl,oK,oK,oK⟩,rfl,rfl,oK⟩

def zwv_8_1_0 (ws xs : List Int) (k w : Int) : St := ⟨[(4,yf8),(7,yf9),(9,(yf22 ws k w))],(yf11 ws xs k w)⟩
def zwv_8_1_1 (ws xs : List Int) (k w : Int) : St := ⟨[(4,yf8),(7,yf9),(9,(yf22 ws k w)),(44,(.agg yf2))],(yf11 ws xs k w)⟩
def zwv_8_1_2 (ws xs : List Int) (k w : Int) : St := ⟨[(4,yf8),(7,yf9),(9,(yf22 ws k w)),(45,(yf22 ws k w))],(yf11 ws xs k w)⟩
def zwv_8_1_3 (ws xs : List Int) (k w : Int) : St := ⟨[(4,yf8),(7,yf9),(9,(yf22 ws k w)),(46,(yf22 ws k w))],(yf11 ws xs k w)⟩
def zwv_8_1_4 (ws xs : List Int) (k w : Int) : St := ⟨[(4,yf8),(7,yf9),(9,(yf22 ws k w)),(44,(.agg yf2)),(45,(yf22 ws k w))],(yf11 ws xs k w)⟩
def zwv_8_1_5 (ws xs : List Int) (k w : Int) : St := ⟨[(4,yf8),(7,yf9),(9,(yf22 ws k w)),(44,(.agg yf2)),(46,(yf22 ws k w))],(yf11 ws xs k w)⟩
def zwv_8_1_6 (ws xs : List Int) (k w : Int) : St := ⟨[(4,yf8),(7,yf9),(9,(yf22 ws k w)),(45,(yf22 ws k w)),(46,(yf22 ws k w))],(yf11 ws xs k w)⟩
def zwv_8_1_7 (ws xs : List Int) (k w : Int) : St := ⟨[(4,yf8),(7,yf9),(9,(yf22 ws k w)),(46,(yf22 ws k w)),(47,(yf32 ws k w))],(yf11 ws xs k w)⟩
def zwv_8_1_8 (ws xs : List Int) (k w : Int) : St := ⟨[(4,yf8),(7,yf9),(9,(yf22 ws k w)),(44,(.agg yf2)),(45,(yf22 ws k w)),(46,(yf22 ws k w))],(yf11 ws xs k w)⟩
def zwv_8_1_9 (ws xs : List Int) (k w : Int) : St := ⟨[(4,yf8),(7,yf9),(9,(yf22 ws k w)),(44,(.agg yf2)),(46,(yf22 ws k w)),(47,(yf32 ws k w))],(yf11 ws xs k w)⟩
def zwv_8_1_10 (ws xs : List Int) (k w : Int) : St := ⟨[(4,yf8),(7,yf9),(9,(yf22 ws k w)),(45,(yf22 ws k w)),(46,(yf22 ws k w)),(47,(yf32 ws k w))],(yf11 ws xs k w)⟩
def zwv_8_1_11 (ws xs : List Int) (k w : Int) : St := ⟨[(4,yf8),(7,yf9),(9,(yf22 ws k w)),(44,(.agg yf2)),(45,(yf22 ws k w)),(46,(yf22 ws k w)),(47,(yf32 ws k w))],(yf11 ws xs k w)⟩
def zwv_8_1_12 (ws xs : List Int) (k w : Int) : St := ⟨[(4,yf8),(7,yf9),(9,(yf22 ws k w)),(44,(.agg yf2)),(46,(yf22 ws k w)),(47,(yf32 ws k w))],(yf34 ws xs k w)⟩
def zwv_8_1_13 (ws xs : List Int) (k w : Int) : St := ⟨[(4,yf8),(7,yf9),(9,(yf22 ws k w)),(44,(.agg yf2)),(45,(yf22 ws k w)),(46,(yf22 ws k w)),(47,(yf32 ws k w))],(yf34 ws xs k w)⟩
def zwv_8_1_14 (ws xs : List Int) (k w : Int) : St := ⟨[(4,yf8),(5,(yf22 ws k w)),(7,yf9),(9,(yf22 ws k w)),(44,(.agg yf2)),(45,(yf22 ws k w)),(46,(yf22 ws k w)),(47,(yf32 ws k w))],(yf34 ws xs k w)⟩
def zwv_8_1_15 (ws xs : List Int) (k w : Int) : St := ⟨[(4,yf8),(5,(yf22 ws k w)),(6,(dB false))],(yf34 ws xs k w)⟩
set_option maxRecDepth 100000 in
theorem width_wv_8 (ws xs : List Int) (k w : Int) (hw : ws.length ≤ 9223372036854775807) (h : okB 8 ws = true) (h3 : fitsF (wvF 8 ws k w) = false) : CallOk Try.prog 27 [(i6 8),(yf17 ws xs k w)] [] true (.tup [(.agg yf2),(yf22 ws k w),(dB false)]) [] := by
  refine CallOk.of_ev Try.func27 rfl rfl rfl ?_
  rintro ⟨_,W,S0,_,susp,_⟩ rfl rfl rfl
  obtain ⟨h1,h2⟩ := okB_yes h
  have hA : arityF 8 = 2 := by decide
  rw [hA] at h1
  refine Ev.seq ?_
  refine Ev.reg [] [0,3,4] (st' := ⟨[(0,(i6 8)),(3,yf10),(4,yf8)],(yf47 ws xs k w)⟩)
    (p := T4 True) (by kernel_rfl)
    ⟨oK,oK,oK,oK,oK⟩ ?_
  refine Ev.seq ?_
  refine Ev.reg [(0,.call none false (.v (.mp simpleM))),(2,.idx (some 6))] [0,3,4,7,8] (st' := ⟨[(0,(i6 8)),(3,yf10),(4,yf8),(7,yf9),(8,(dB true))],(yf11 ws xs k w)⟩)
    (p := callOb Try.prog 33 (yf47 ws xs k w) [] none false (.v (.mp simpleM))∧True∧((8 : Int) = 8∧∀ e' ∈ simpleM.take 6,(8 : Int) ≠ e'.1)∧True∧True∧True∧True∧True∧True∧True) (by kernel_rfl)
    ⟨simple_ok,oK,(by decide),oK,oK,oK,oK,oK,oK,oK⟩ ?_
  refine Ev.seq ?_
  refine Ev.seq ?_
  refine Ev.reg [] [0,3,4,7,8,17] (st' := ⟨yf45,(yf11 ws xs k w)⟩)
    (p := T2 True) (by kernel_rfl)
    ⟨oK,oK,oK⟩ ?_
  refine Ev.cond false rfl (fun h => (by cases h)) (fun _ => ?_)
  refine Ev.skip ?_
  refine Ev.seq ?_
  refine Ev.seq ?_
  refine Ev.reg [(8,.val (dB false)),(13,.call none false (yf24 ws)),(14,.val (dB false))] [3,4,7,38] (st' := ⟨[(3,yf10),(4,yf8),(7,yf9),(38,(dB false))],(yf11 ws xs k w)⟩)
    (p := T8 ((True∧(((ws.length : Nat) : Int) != 2) = false)∧T4 (callOb Try.prog 35 (yf11 ws xs k w) (yf25 ws) none false (yf24 ws)∧(True∧(!(ws.all fitsF)) = false)∧True))) (by kernel_rfl)
    ⟨oK,oK,oK,oK,oK,oK,oK,oK,⟨oK,(by rw [h1]; rfl)⟩,oK,oK,oK,oK,(contains_ok _ (by first | omega | (simp; first | done | omega))),⟨oK,(by rw [h2]; rfl)⟩,oK⟩ ?_
  refine Ev.cond false rfl (fun h => (by cases h)) (fun _ => ?_)
  refine Ev.skip ?_
  refine Ev.seq ?_
  refine Ev.reg [(3,.call none false (i6 (min (alikeF ws) 1))),(4,.val (yf22 ws k w))] [4,7,9] (st' := ⟨[(4,yf8),(7,yf9),(9,(yf22 ws k w))],(yf11 ws xs k w)⟩)
    (p := T3 (callOb Try.prog 49 (yf11 ws xs k w) [(yf17 ws xs k w)] none false (i6 (min (alikeF ws) 1))∧(True∧(min (alikeF ws) 1) = (wvF 8 ws k w))∧True)) (by kernel_rfl)
    ⟨oK,oK,oK,(one_ok _ _ _ _ (by omega) (by assumption)),⟨oK,(by first | rfl | simp [wvF])⟩,oK⟩ ?_
  refine Ev.seq ?_
  refine Ev.any [(3,.call none false (yf32 ws k w)),(6,.val (dB false))] [((bm 7 0),(zwv_8_1_0 ws xs k w)),((bm 7 1),(zwv_8_1_1 ws xs k w)),((bm 7 2),(zwv_8_1_2 ws xs k w)),((bm 7 4),(zwv_8_1_3 ws xs k w)),((bm 7 3),(zwv_8_1_4 ws xs k w)),((bm 7 5),(zwv_8_1_5 ws xs k w)),((bm 7 6),(zwv_8_1_6 ws xs k w)),((bm 7 12),(zwv_8_1_7 ws xs k w)),((bm 7 7),(zwv_8_1_8 ws xs k w)),((bm 7 13),(zwv_8_1_9 ws xs k w)),((bm 7 14),(zwv_8_1_10 ws xs k w)),((bm 7 15),(zwv_8_1_11 ws xs k w)),((bm 7 29),(zwv_8_1_12 ws xs k w)),((bm 7 31),(zwv_8_1_13 ws xs k w)),((bm 7 63),(zwv_8_1_14 ws xs k w)),((bm 7 127),(zwv_8_1_15 ws xs k w))] (st0 := (zwv_8_1_0 ws xs k w)) (st' := ⟨[(4,yf8),(5,(yf22 ws k w)),(6,(dB false))],(yf34 ws xs k w)⟩)
    (p := ((sE (zwv_8_1_1 ws xs k w) (True))∧(sE (zwv_8_1_2 ws xs k w) (True))∧(sE (zwv_8_1_3 ws xs k w) (True))∧True)∧((sE (zwv_8_1_4 ws xs k w) (True))∧(sE (zwv_8_1_5 ws xs k w) (True))∧True)∧((sE (zwv_8_1_4 ws xs k w) (True))∧(sE (zwv_8_1_6 ws xs k w) (True))∧True)∧((sE (zwv_8_1_5 ws xs k w) (True))∧(sE (zwv_8_1_6 ws xs k w) (True))∧(sE (zwv_8_1_7 ws xs k w) (callOb Try.prog 37 (yf11 ws xs k w) [(yf22 ws k w)] none false (yf32 ws k w)))∧True)∧((sE (zwv_8_1_8 ws xs k w) (True))∧True)∧((sE (zwv_8_1_8 ws xs k w) (True))∧(sE (zwv_8_1_9 ws xs k w) (callOb Try.prog 37 (yf11 ws xs k w) [(yf22 ws k w)] none false (yf32 ws k w)))∧True)∧((sE (zwv_8_1_8 ws xs k w) (True))∧(sE (zwv_8_1_10 ws xs k w) (callOb Try.prog 37 (yf11 ws xs k w) [(yf22 ws k w)] none false (yf32 ws k w)))∧True)∧((sE (zwv_8_1_9 ws xs k w) (True))∧(sE (zwv_8_1_10 ws xs k w) (True))∧True)∧((sE (zwv_8_1_11 ws xs k w) (callOb Try.prog 37 (yf11 ws xs k w) [(yf22 ws k w)] none false (yf32 ws k w)))∧True)∧((sE (zwv_8_1_11 ws xs k w) (True))∧(sE (zwv_8_1_12 ws xs k w) (True))∧True)∧((sE (zwv_8_1_11 ws xs k w) (True))∧True)∧((sE (zwv_8_1_13 ws xs k w) (True))∧True)∧((sE (zwv_8_1_13 ws xs k w) (True))∧True)∧((sE (zwv_8_1_14 ws xs k w) (True))∧True)∧((sE (zwv_8_1_15 ws xs k w) ((True∧(fitsF (wvF 8 ws k w)) = false)))∧True)∧True∧True) (by kernel_rfl) (by kernel_rfl) (by kernel_rfl) (by kernel_rfl) (by kernel_rfl) (by kernel_rfl)
    ⟨⟨⟨rfl,oK,oK⟩,⟨rfl,oK,oK⟩,⟨rfl,oK,oK⟩,oK⟩,⟨⟨rfl,oK,oK⟩,⟨rfl,oK,oK⟩,oK⟩,⟨⟨rfl,oK,oK⟩,⟨rfl,oK,oK⟩,oK⟩,⟨⟨rfl,oK,oK⟩,⟨rfl,oK,oK⟩,⟨rfl,(fits_ok _),oK⟩,oK⟩,⟨⟨rfl,oK,oK⟩,oK⟩,⟨⟨rfl,oK,oK⟩,⟨rfl,(fits_ok _),oK⟩,oK⟩,⟨⟨rfl,oK,oK⟩,⟨rfl,(fits_ok _),oK⟩,oK⟩,⟨⟨rfl,oK,oK⟩,⟨rfl,oK,oK⟩,oK⟩,⟨⟨rfl,(fits_ok _),oK⟩,oK⟩,⟨⟨rfl,oK,oK⟩,⟨rfl,oK,oK⟩,oK⟩,⟨⟨rfl,oK,oK⟩,oK⟩,⟨⟨rfl,oK,oK⟩,oK⟩,⟨⟨rfl,oK,oK⟩,oK⟩,⟨⟨rfl,oK,oK⟩,oK⟩,⟨⟨rfl,⟨oK,(by first | exact h3 | simpa [wvF] using h3)⟩,oK⟩,oK⟩,oK,oK⟩ ?_
  refine Ev.ret ?_
  refine ⟨⟨oK,oK,oK,oK⟩,(?_ : ((2 : Int) = 2∧(yf40 : D) = yf40∧((.fn (.func 50) [] []) : D) = (.fn (.func 50) [] [])∧True)∧(wvF 8 ws k w) = (wvF 8 ws k w)∧false = false∧True),.inl rfl⟩
  exact ⟨⟨rfl,rfl,rfl,oK⟩,rfl,rfl,oK⟩

def zg_9_1_0 (ws xs : List Int) (k w : Int) : St := ⟨[(4,yf8),(7,yf9),(9,(yf23 ws k w))],(yf12 ws xs k w)⟩
def zg_9_1_1 (ws xs : List Int) (k w : Int) : St := ⟨[(4,yf8),(7,yf9),(9,(yf23 ws k w)),(44,(.agg yf3))],(yf12 ws xs k w)⟩
def zg_9_1_2 (ws xs : List Int) (k w : Int) : St := ⟨[(4,yf8),(7,yf9),(9,(yf23 ws k w)),(45,(yf23 ws k w))],(yf12 ws xs k w)⟩
def zg_9_1_3 (ws xs : List Int) (k w : Int) : St := ⟨[(4,yf8),(7,yf9),(9,(yf23 ws k w)),(46,(yf23 ws k w))],(yf12 ws xs k w)⟩
def zg_9_1_4 (ws xs : List Int) (k w : Int) : St := ⟨[(4,yf8),(7,yf9),(9,(yf23 ws k w)),(44,(.agg yf3)),(45,(yf23 ws k w))],(yf12 ws xs k w)⟩
def zg_9_1_5 (ws xs : List Int) (k w : Int) : St := ⟨[(4,yf8),(7,yf9),(9,(yf23 ws k w)),(44,(.agg yf3)),(46,(yf23 ws k w))],(yf12 ws xs k w)⟩
def zg_9_1_6 (ws xs : List Int) (k w : Int) : St := ⟨[(4,yf8),(7,yf9),(9,(yf23 ws k w)),(45,(yf23 ws k w)),(46,(yf23 ws k w))],(yf12 ws xs k w)⟩
def zg_9_1_7 (ws xs : List Int) (k w : Int) : St := ⟨[(4,yf8),(7,yf9),(9,(yf23 ws k w)),(46,(yf23 ws k w)),(47,(yf33 ws k w))],(yf12 ws xs k w)⟩
def zg_9_1_8 (ws xs : List Int) (k w : Int) : St := ⟨[(4,yf8),(7,yf9),(9,(yf23 ws k w)),(44,(.agg yf3)),(45,(yf23 ws k w)),(46,(yf23 ws k w))],(yf12 ws xs k w)⟩
def zg_9_1_9 (ws xs : List Int) (k w : Int) : St := ⟨[(4,yf8),(7,yf9),(9,(yf23 ws k w)),(44,(.agg yf3)),(46,(yf23 ws k w)),(47,(yf33 ws k w))],(yf12 ws xs k w)⟩
def zg_9_1_10 (ws xs : List Int) (k w : Int) : St := ⟨[(4,yf8),(7,yf9),(9,(yf23 ws k w)),(45,(yf23 ws k w)),(46,(yf23 ws k w)),(47,(yf33 ws k w))],(yf12 ws xs k w)⟩
def zg_9_1_11 (ws xs : List Int) (k w : Int) : St := ⟨[(4,yf8),(7,yf9),(9,(yf23 ws k w)),(44,(.agg yf3)),(45,(yf23 ws k w)),(46,(yf23 ws k w)),(47,(yf33 ws k w))],(yf12 ws xs k w)⟩
def zg_9_1_12 (ws xs : List Int) (k w : Int) : St := ⟨[(4,yf8),(7,yf9),(9,(yf23 ws k w)),(44,(.agg yf3)),(46,(yf23 ws k w)),(47,(yf33 ws k w))],(yf35 ws xs k w)⟩
def zg_9_1_13 (ws xs : List Int) (k w : Int) : St := ⟨[(4,yf8),(7,yf9),(9,(yf23 ws k w)),(44,(.agg yf3)),(45,(yf23 ws k w)),(46,(yf23 ws k w)),(47,(yf33 ws k w))],(yf35 ws xs k w)⟩
def zg_9_1_14 (ws xs : List Int) (k w : Int) : St := ⟨[(4,yf8),(5,(yf23 ws k w)),(7,yf9),(9,(yf23 ws k w)),(44,(.agg yf3)),(45,(yf23 ws k w)),(46,(yf23 ws k w)),(47,(yf33 ws k w))],(yf35 ws xs k w)⟩
def zg_9_1_15 (ws xs : List Int) (k w : Int) : St := ⟨[(4,yf8),(5,(yf23 ws k w)),(6,(dB true))],(yf35 ws xs k w)⟩
set_option maxRecDepth 100000 in
theorem width_good_9 (ws xs : List Int) (k w : Int) (hw : ws.length ≤ 9223372036854775807) (h : okF 9 ws k w = true) : CallOk Try.prog 27 [(i6 9),(yf17 ws xs k w)] [] true (.tup [(.agg yf3),(yf23 ws k w),(dB true)]) [] := by
  refine CallOk.of_ev Try.func27 rfl rfl rfl ?_
  rintro ⟨_,W,S0,_,susp,_⟩ rfl rfl rfl
  obtain ⟨h1,h2,h3⟩ := ok_yes h
  have hA : arityF 9 = 2 := by decide
  rw [hA] at h1
  refine Ev.seq ?_
  refine Ev.reg [] [0,3,4] (st' := ⟨[(0,(i6 9)),(3,yf10),(4,yf8)],(yf47 ws xs k w)⟩)
    (p := T4 True) (by kernel_rfl)
    ⟨oK,oK,oK,oK,oK⟩ ?_
  refine Ev.seq ?_
  refine Ev.reg [(0,.call none false (.v (.mp simpleM))),(2,.idx (some 7))] [0,3,4,7,8] (st' := ⟨[(0,(i6 9)),(3,yf10),(4,yf8),(7,yf9),(8,(dB true))],(yf12 ws xs k w)⟩)
    (p := callOb Try.prog 33 (yf47 ws xs k w) [] none false (.v (.mp simpleM))∧True∧((9 : Int) = 9∧∀ e' ∈ simpleM.take 7,(9 : Int) ≠ e'.1)∧True∧True∧True∧True∧True∧True∧True) (by kernel_rfl)
    ⟨simple_ok,oK,(by decide),oK,oK,oK,oK,oK,oK,oK⟩ ?_
  refine Ev.seq ?_
  refine Ev.seq ?_
  refine Ev.reg [] [0,3,4,7,8,17] (st' := ⟨yf46,(yf12 ws xs k w)⟩)
    (p := T2 True) (by kernel_rfl)
    ⟨oK,oK,oK⟩ ?_
  refine Ev.cond false rfl (fun h => (by cases h)) (fun _ => ?_)
  refine Ev.skip ?_
  refine Ev.seq ?_
  refine Ev.seq ?_
  refine Ev.reg [(8,.val (dB false)),(13,.call none false (yf24 ws)),(14,.val (dB false))] [3,4,7,38] (st' := ⟨[(3,yf10),(4,yf8),(7,yf9),(38,(dB false))],(yf12 ws xs k w)⟩)
    (p := T8 ((True∧(((ws.length : Nat) : Int) != 2) = false)∧T4 (callOb Try.prog 35 (yf12 ws xs k w) (yf25 ws) none false (yf24 ws)∧(True∧(!(ws.all fitsF)) = false)∧True))) (by kernel_rfl)
    ⟨oK,oK,oK,oK,oK,oK,oK,oK,⟨oK,(by rw [h1]; rfl)⟩,oK,oK,oK,oK,(contains_ok _ (by first | omega | (simp; first | done | omega))),⟨oK,(by rw [h2]; rfl)⟩,oK⟩ ?_
  refine Ev.cond false rfl (fun h => (by cases h)) (fun _ => ?_)
  refine Ev.skip ?_
  refine Ev.seq ?_
  refine Ev.reg [(3,.call none false (i6 (min (alikeF ws) 1))),(4,.val (yf23 ws k w))] [4,7,9] (st' := ⟨[(4,yf8),(7,yf9),(9,(yf23 ws k w))],(yf12 ws xs k w)⟩)
    (p := T3 (callOb Try.prog 49 (yf12 ws xs k w) [(yf17 ws xs k w)] none false (i6 (min (alikeF ws) 1))∧(True∧(min (alikeF ws) 1) = (wvF 9 ws k w))∧True)) (by kernel_rfl)
    ⟨oK,oK,oK,(one_ok _ _ _ _ (by omega) (by assumption)),⟨oK,(by first | rfl | simp [wvF])⟩,oK⟩ ?_
  refine Ev.seq ?_
  refine Ev.any [(3,.call none false (yf33 ws k w)),(6,.val (dB true))] [((bm 7 0),(zg_9_1_0 ws xs k w)),((bm 7 1),(zg_9_1_1 ws xs k w)),((bm 7 2),(zg_9_1_2 ws xs k w)),((bm 7 4),(zg_9_1_3 ws xs k w)),((bm 7 3),(zg_9_1_4 ws xs k w)),((bm 7 5),(zg_9_1_5 ws xs k w)),((bm 7 6),(zg_9_1_6 ws xs k w)),((bm 7 12),(zg_9_1_7 ws xs k w)),((bm 7 7),(zg_9_1_8 ws xs k w)),((bm 7 13),(zg_9_1_9 ws xs k w)),((bm 7 14),(zg_9_1_10 ws xs k w)),((bm 7 15),(zg_9_1_11 ws xs k w)),((bm 7 29),(zg_9_1_12 ws xs k w)),((bm 7 31),(zg_9_1_13 ws xs k w)),((bm 7 63),(zg_9_1_14 ws xs k w)),((bm 7 127),(zg_9_1_15 ws xs k w))] (st0 := (zg_9_1_0 ws xs k w)) (st' := ⟨[(4,yf8),(5,(yf23 ws k w)),(6,(dB true))],(yf35 ws xs k w)⟩)
    (p := ((sE (zg_9_1_1 ws xs k w) (True))∧(sE (zg_9_1_2 ws xs k w) (True))∧(sE (zg_9_1_3 ws xs k w) (True))∧True)∧((sE (zg_9_1_4 ws xs k w) (True))∧(sE (zg_9_1_5 ws xs k w) (True))∧True)∧((sE (zg_9_1_4 ws xs k w) (True))∧(sE (zg_9_1_6 ws xs k w) (True))∧True)∧((sE (zg_9_1_5 ws xs k w) (True))∧(sE (zg_9_1_6 ws xs k w) (True))∧(sE (zg_9_1_7 ws xs k w) (callOb Try.prog 37 (yf12 ws xs k w) [(yf23 ws k w)] none false (yf33 ws k w)))∧True)∧((sE (zg_9_1_8 ws xs k w) (True))∧True)∧((sE (zg_9_1_8 ws xs k w) (True))∧(sE (zg_9_1_9 ws xs k w) (callOb Try.prog 37 (yf12 ws xs k w) [(yf23 ws k w)] none false (yf33 ws k w)))∧True)∧((sE (zg_9_1_8 ws xs k w) (True))∧(sE (zg_9_1_10 ws xs k w) (callOb Try.prog 37 (yf12 ws xs k w) [(yf23 ws k w)] none false (yf33 ws k w)))∧True)∧((sE (zg_9_1_9 ws xs k w) (True))∧(sE (zg_9_1_10 ws xs k w) (True))∧True)∧((sE (zg_9_1_11 ws xs k w) (callOb Try.prog 37 (yf12 ws xs k w) [(yf23 ws k w)] none false (yf33 ws k w)))∧True)∧((sE (zg_9_1_11 ws xs k w) (True))∧(sE (zg_9_1_12 ws xs k w) (True))∧True)∧((sE (zg_9_1_11 ws xs k w) (True))∧True)∧((sE (zg_9_1_13 ws xs k w) (True))∧True)∧((sE (zg_9_1_13 ws xs k w) (True))∧True)∧((sE (zg_9_1_14 ws xs k w) (True))∧True)∧((sE (zg_9_1_15 ws xs k w) ((True∧(fitsF (wvF 9 ws k w)) = true)))∧True)∧True∧True) (by kernel_rfl) (by kernel_rfl) (by kernel_rfl) (by kernel_rfl) (by kernel_rfl) (by kernel_rfl)
    ⟨⟨⟨rfl,oK,oK⟩,⟨rfl,oK,oK⟩,⟨rfl,oK,oK⟩,oK⟩,⟨⟨rfl,oK,oK⟩,⟨rfl,oK,oK⟩,oK⟩,⟨⟨rfl,oK,oK⟩,⟨rfl,oK,oK⟩,oK⟩,⟨⟨rfl,oK,oK⟩,⟨rfl,oK,oK⟩,⟨rfl,(fits_ok _),oK⟩,oK⟩,⟨⟨rfl,oK,oK⟩,oK⟩,⟨⟨rfl,oK,oK⟩,⟨rfl,(fits_ok _),oK⟩,oK⟩,⟨⟨rfl,oK,oK⟩,⟨rfl,(fits_ok _),oK⟩,oK⟩,⟨⟨rfl,oK,oK⟩,⟨rfl,oK,oK⟩,oK⟩,⟨⟨rfl,(fits_ok _),oK⟩,oK⟩,⟨⟨rfl,oK,oK⟩,⟨rfl,oK,oK⟩,oK⟩,⟨⟨rfl,oK,oK⟩,oK⟩,⟨⟨rfl,oK,oK⟩,oK⟩,⟨⟨rfl,oK,oK⟩,oK⟩,⟨⟨rfl,oK,oK⟩,oK⟩,⟨⟨rfl,⟨oK,(by first | exact h3 | simpa [wvF] using h3)⟩,oK⟩,oK⟩,oK,oK⟩ ?_
  refine Ev.ret ?_
  refine ⟨⟨oK,oK,oK,oK⟩,(?_ : ((2 : Int) = 2∧(yf40 : D) = yf40∧((.fn (.func 51) [] []) : D) = (.fn (.func 51) [] [])∧True)∧(wvF 9 ws k w) = (wvF 9 ws k w)∧true = true∧True),.inl rfl⟩
  exact ⟨⟨rfl,rfl,rfl,oK⟩,rfl,rfl,oK⟩

set_option maxRecDepth 100000 in
theorem width_bad_9 (ws xs : List Int) (k w : Int) (hw : ws.length ≤ 9223372036854775807) (h : okB 9 ws = false) : CallOk Try.prog 27 [(i6 9),(yf17 ws xs k w)] [] true yf26 [] := by
  refine CallOk.of_ev Try.func27 rfl rfl rfl ?_
  rintro ⟨_,W,S0,_,susp,_⟩ rfl rfl rfl
  refine Ev.seq ?_
  refine Ev.reg [] [0,3,4] (st' := ⟨[(0,(i6 9)),(3,yf10),(4,yf8)],(yf47 ws xs k w)⟩)
    (p := T4 True) (by kernel_rfl)
    ⟨oK,oK,oK,oK,oK⟩ ?_
  refine Ev.seq ?_
  refine Ev.reg [(0,.call none false (.v (.mp simpleM))),(2,.idx (some 7))] [0,3,4,7,8] (st' := ⟨[(0,(i6 9)),(3,yf10),(4,yf8),(7,yf9),(8,(dB true))],(yf12 ws xs k w)⟩)
    (p := callOb Try.prog 33 (yf47 ws xs k w) [] none false (.v (.mp simpleM))∧True∧((9 : Int) = 9∧∀ e' ∈ simpleM.take 7,(9 : Int) ≠ e'.1)∧True∧True∧True∧True∧True∧True∧True) (by kernel_rfl)
    ⟨simple_ok,oK,(by decide),oK,oK,oK,oK,oK,oK,oK⟩ ?_
  refine Ev.seq ?_
  refine Ev.seq ?_
  refine Ev.reg [] [0,3,4,7,8,17] (st' := ⟨yf46,(yf12 ws xs k w)⟩)
    (p := T2 True) (by kernel_rfl)
    ⟨oK,oK,oK⟩ ?_
  refine Ev.cond false rfl (fun h => (by cases h)) (fun _ => ?_)
  refine Ev.skip ?_
  refine Ev.seq ?_
  refine Ev.seq ?_
  rcases okB_no h with h1 | ⟨h1,h2⟩
  · skip
    have hA : arityF 9 = 2 := by decide
    rw [hA] at h1
    refine Ev.reg [(8,.val (dB true))] [3,4,7,38] (st' := ⟨[(3,yf10),(4,yf8),(7,yf9),(38,(dB true))],(yf12 ws xs k w)⟩)
      (p := T8 ((True∧(((ws.length : Nat) : Int) != 2) = true)∧T6 True)) (by kernel_rfl)
      ⟨oK,oK,oK,oK,oK,oK,oK,oK,⟨oK,(by exact bne_iff_ne.2 (by omega))⟩,oK,oK,oK,oK,oK,oK,oK⟩ ?_
    refine Ev.cond true rfl (fun _ => ?_) (fun h => (by cases h))
    refine Ev.seq ?_
    refine Ev.reg [] [4,5,6] (st' := ⟨[(4,yf8),(5,(i6 0)),(6,(dB false))],(yf12 ws xs k w)⟩)
      (p := T4 True) (by kernel_rfl)
      ⟨oK,oK,oK,oK,oK⟩ ?_
    refine Ev.ret ?_
    refine ⟨⟨oK,oK,oK,oK⟩,(?_ : ((0 : Int) = 0∧True∧True∧True)∧(0 : Int) = 0∧false = false∧True),.inl rfl⟩
    exact ⟨⟨rfl,oK,oK,oK⟩,rfl,rfl,oK⟩
  · skip
    have hA : arityF 9 = 2 := by decide
    rw [hA] at h1
    refine Ev.reg [(8,.val (dB false)),(13,.call none false (yf24 ws)),(14,.val (dB true))] [3,4,7,38] (st' := ⟨[(3,yf10),(4,yf8),(7,yf9),(38,(dB true))],(yf12 ws xs k w)⟩)
      (p := T8 ((True∧(((ws.length : Nat) : Int) != 2) = false)∧T4 (callOb Try.prog 35 (yf12 ws xs k w) (yf25 ws) none false (yf24 ws)∧(True∧(!(ws.all fitsF)) = true)∧True))) (by kernel_rfl)
      ⟨oK,oK,oK,oK,oK,oK,oK,oK,⟨oK,(by rw [h1]; rfl)⟩,oK,oK,oK,oK,(contains_ok _ (by first | omega | (simp; first | done | omega))),⟨oK,(by rw [h2]; rfl)⟩,oK⟩ ?_
    refine Ev.cond true rfl (fun _ => ?_) (fun h => (by cases h))
    refine Ev.seq ?_
    refine Ev.reg [] [4,5,6] (st' := ⟨[(4,yf8),(5,(i6 0)),(6,(dB false))],(yf12 ws xs k w)⟩)
      (p := T4 True) (by kernel_rfl)
      ⟨oK,oK,oK,oK,oK⟩ ?_
    refine Ev.ret ?_
    refine ⟨⟨oK,oK,oK,oK⟩,(?_ : ((0 : Int) = 0∧True∧True∧True)∧(0 : Int) = 0∧false = false∧True),.inl rfl⟩
    exact ⟨⟨rfl,oK,oK,oK⟩,rfl,rfl,oK⟩

def zwv_9_1_0 (ws xs : List Int) (k w : Int) : St := ⟨[(4,yf8),(7,yf9),(9,(yf23 ws k w))],(yf12 ws xs k w)⟩
def zwv_9_1_1 (ws xs : List Int) (k w : Int) : St := ⟨[(4,yf8),(7,yf9),(9,(yf23 ws k w)),(44,(.agg yf3))],(yf12 ws xs k w)⟩
def zwv_9_1_2 (ws xs : List Int) (k w : Int) : St := ⟨[(4,yf8),(7,yf9),(9,(yf23 ws k w)),(45,(yf23 ws k w))],(yf12 ws xs k w)⟩
def zwv_9_1_3 (ws xs : List Int) (k w : Int) : St := ⟨[(4,yf8),(7,yf9),(9,(yf23 ws k w)),(46,(yf23 ws k w))],(yf12 ws xs k w)⟩
def zwv_9_1_4 (ws xs : List Int) (k w : Int) : St := ⟨[(4,yf8),(7,yf9),(9,(yf23 ws k w)),(44,(.agg yf3)),(45,(yf23 ws k w))],(yf12 ws xs k w)⟩
def zwv_9_1_5 (ws xs : List Int) (k w : Int) : St := ⟨[(4,yf8),(7,yf9),(9,(yf23 ws k w)),(44,(.agg yf3)),(46,(yf23 ws k w))],(yf12 ws xs k w)⟩
def zwv_9_1_6 (ws xs : List Int) (k w : Int) : St := ⟨[(4,yf8),(7,yf9),(9,(yf23 ws k w)),(45,(yf23 ws k w)),(46,(yf23 ws k w))],(yf12 ws xs k w)⟩
def zwv_9_1_7 (ws xs : List Int) (k w : Int) : St := ⟨[(4,yf8),(7,yf9),(9,(yf23 ws k w)),(46,(yf23 ws k w)),(47,(yf33 ws k w))],(yf12 ws xs k w)⟩
def zwv_9_1_8 (ws xs : List Int) (k w : Int) : St := ⟨[(4,yf8),(7,yf9),(9,(yf23 ws k w)),(44,(.agg yf3)),(45,(yf23 ws k w)),(46,(yf23 ws k w))],(yf12 ws xs k w)⟩
def zwv_9_1_9 (ws xs : List Int) (k w : Int) : St := ⟨[(4,yf8),(7,yf9),(9,(yf23 ws k w)),(44,(.agg yf3)),(46,(yf23 ws k w)),(47,(yf33 ws k w))],(yf12 ws xs k w)⟩
def zwv_9_1_10 (ws xs : List Int) (k w : Int) : St := ⟨[(4,yf8),(7,yf9),(9,(yf23 ws k w)),(45,(yf23 ws k w)),(46,(yf23 ws k w)),(47,(yf33 ws k w))],(yf12 ws xs k w)⟩
def zwv_9_1_11 (ws xs : List Int) (k w : Int) : St := ⟨[(4,yf8),(7,yf9),(9,(yf23 ws k w)),(44,(.agg yf3)),(45,(yf23 ws k w)),(46,(yf23 ws k w)),(47,(yf33 ws k w))],(yf12 ws xs k w)⟩
def zwv_9_1_12 (ws xs : List Int) (k w : Int) : St := ⟨[(4,yf8),(7,yf9),(9,(yf23 ws k w)),(44,(.agg yf3)),(46,(yf23 ws k w)),(47,(yf33 ws k w))],(yf35 ws xs k w)⟩
def zwv_9_1_13 (ws xs : List Int) (k w : Int) : St := ⟨[(4,yf8),(7,yf9),(9,(yf23 ws k w)),(44,(.agg yf3)),(45,(yf23 ws k w)),(46,(yf23 ws k w)),(47,(yf33 ws k w))],(yf35 ws xs k w)⟩
def zwv_9_1_14 (ws xs : List Int) (k w : Int) : St := ⟨[(4,yf8),(5,(yf23 ws k w)),(7,yf9),(9,(yf23 ws k w)),(44,(.agg yf3)),(45,(yf23 ws k w)),(46,(yf23 ws k w)),(47,(yf33 ws k w))],(yf35 ws xs k w)⟩
def zwv_9_1_15 (ws xs : List Int) (k w : Int) : St := ⟨[(4,yf8),(5,(yf23 ws k w)),(6,(dB false))],(yf35 ws xs k w)⟩
set_option maxRecDepth 100000 in
theorem width_wv_9 (ws xs : List Int) (k w : Int) (hw : ws.length ≤ 9223372036854775807) (h : okB 9 ws = true) (h3 : fitsF (wvF 9 ws k w) = false) : CallOk Try.prog 27 [(i6 9),(yf17 ws xs k w)] [] true (.tup [(.agg yf3),(yf23 ws k w),(dB false)]) [] := by
  refine CallOk.of_ev Try.func27 rfl rfl rfl ?_
  rintro ⟨_,W,S0,_,susp,_⟩ rfl rfl rfl
  obtain ⟨h1,h2⟩ := okB_yes h
  have hA : arityF 9 = 2 := by decide
  rw [hA] at h1
  refine Ev.seq ?_
  refine Ev.reg [] [0,3,4] (st' := ⟨[(0,(i6 9)),(3,yf10),(4,yf8)],(yf47 ws xs k w)⟩)
    (p := T4 True) (by kernel_rfl)
    ⟨oK,oK,oK,oK,oK⟩ ?_
  refine Ev.seq ?_
  refine Ev.reg [(0,.call none false (.v (.mp simpleM))),(2,.idx (some 7))] [0,3,4,7,8] (st' := ⟨[(0,(i6 9)),(3,yf10),(4,yf8),(7,yf9),(8,(dB true))],(yf12 ws xs k w)⟩)
    (p := callOb Try.prog 33 (yf47 ws xs k w) [] none false (.v (.mp simpleM))∧True∧((9 : Int) = 9∧∀ e' ∈ simpleM.take 7,(9 : Int) ≠ e'.1)∧True∧True∧True∧True∧True∧True∧True) (by kernel_rfl)
    ⟨simple_ok,oK,(by decide),oK,oK,oK,oK,oK,oK,oK⟩ ?_
  refine Ev.seq ?_
  refine Ev.seq ?_
  refine Ev.reg [] [0,3,4,7,8,17] (st' := ⟨yf46,(yf12 ws xs k w)⟩)
    (p := T2 True) (by kernel_rfl)
    ⟨oK,oK,oK⟩ ?_
  refine Ev.cond false rfl (fun h => (by cases h)) (fun _ => ?_)
  refine Ev.skip ?_
  refine Ev.seq ?_
  refine Ev.seq ?_
  refine Ev.reg [(8,.val (dB false)),(13,.call none false (yf24 ws)),(14,.val (dB false))] [3,4,7,38] (st' := ⟨[(3,yf10),(4,yf8),(7,yf9),(38,(dB false))],(yf12 ws xs k w)⟩)
    (p := T8 ((True∧(((ws.length : Nat) : Int) != 2) = false)∧T4 (callOb Try.prog 35 (yf12 ws xs k w) (yf25 ws) none false (yf24 ws)∧(True∧(!(ws.all fitsF)) = false)∧True))) (by kernel_rfl)
    ⟨oK,oK,oK,oK,oK,oK,oK,oK,⟨oK,(by rw [h1]; rfl)⟩,oK,oK,oK,oK,(contains_ok _ (by first | omega | (simp; first | done | omega))),⟨oK,(by rw [h2]; rfl)⟩,oK⟩ ?_
  refine Ev.cond false rfl (fun h => (by cases h)) (fun _ => ?_)
  refine Ev.skip ?_
  refine Ev.seq ?_
  refine Ev.reg [(3,.call none false (i6 (min (alikeF ws) 1))),(4,.val (yf23 ws k w))] [4,7,9] (st' := ⟨[(4,yf8),(7,yf9),(9,(yf23 ws k w))],(yf12 ws xs k w)⟩)
    (p := T3 (callOb Try.prog 49 (yf12 ws xs k w) [(yf17 ws xs k w)] none false (i6 (min (alikeF ws) 1))∧(True∧(min (alikeF ws) 1) = (wvF 9 ws k w))∧True)) (by kernel_rfl)
    ⟨oK,oK,oK,(one_ok _ _ _ _ (by omega) (by assumption)),⟨oK,(by first | rfl | simp [wvF])⟩,oK⟩ ?_
  refine Ev.seq ?_
  refine Ev.any [(3,.call none false (yf33 ws k w)),(6,.val (dB false))] [((bm 7 0),(zwv_9_1_0 ws xs k w)),((bm 7 1),(zwv_9_1_1 ws xs k w)),((bm 7 2),(zwv_9_1_2 ws xs k w)),((bm 7 4),(zwv_9_1_3 ws xs k w)),((bm 7 3),(zwv_9_1_4 ws xs k w)),((bm 7 5),(zwv_9_1_5 ws xs k w)),((bm 7 6),(zwv_9_1_6 ws xs k w)),((bm 7 12),(zwv_9_1_7 ws xs k w)),((bm 7 7),(zwv_9_1_8 ws xs k w)),((bm 7 13),(zwv_9_1_9 ws xs k w)),((bm 7 14),(zwv_9_1_10 ws xs k w)),((bm 7 15),(zwv_9_1_11 ws xs k w)),((bm 7 29),(zwv_9_1_12 ws xs k w)),((bm 7 31),(zwv_9_1_13 ws xs k w)),((bm 7 63),(zwv_9_1_14 ws xs k w)),((bm 7 127),(zwv_9_1_15 ws xs k w))] (st0 := (zwv_9_1_0 ws xs k w)) (st' := ⟨[(4,yf8),(5,(yf23 ws k w)),(6,(dB false))],(yf35 ws xs k w)⟩)
    (p := ((sE (zwv_9_1_1 ws xs k w) (True))∧(sE (zwv_9_1_2 ws xs k w) (True))∧(sE (zwv_9_1_3 ws xs k w) (True))∧True)∧((sE (zwv_9_1_4 ws xs k w) (True))∧(sE (zwv_9_1_5 ws xs k w) (True))∧True)∧((sE (zwv_9_1_4 ws xs k w) (True))∧(sE (zwv_9_1_6 ws xs k w) (True))∧True)∧((sE (zwv_9_1_5 ws xs k w) (True))∧(sE (zwv_9_1_6 ws xs k w) (True))∧(sE (zwv_9_1_7 ws xs k w) (callOb Try.prog 37 (yf12 ws xs k w) [(yf23 ws k w)] none false (yf33 ws k w)))∧True)∧((sE (zwv_9_1_8 ws xs k w) (True))∧True)∧((sE (zwv_9_1_8 ws xs k w) (True))∧(sE (zwv_9_1_9 ws xs k w) (callOb Try.prog 37 (yf12 ws xs k w) [(yf23 ws k w)] none false (yf33 ws k w)))∧True)∧((sE (zwv_9_1_8 ws xs k w) (True))∧(sE (zwv_9_1_10 ws xs k w) (callOb Try.prog 37 (yf12 ws xs k w) [(yf23 ws k w)] none false (yf33 ws k w)))∧True)∧((sE (zwv_9_1_9 ws xs k w) (True))∧(sE (zwv_9_1_10 ws xs k w) (True))∧True)∧((sE (zwv_9_1_11 ws xs k w) (callOb Try.prog 37 (yf12 ws xs k w) [(yf23 ws k w)] none false (yf33 ws k w)))∧True)∧((sE (zwv_9_1_11 ws xs k w) (True))∧(sE (zwv_9_1_12 ws xs k w) (True))∧True)∧((sE (zwv_9_1_11 ws xs k w) (True))∧True)∧((sE (zwv_9_1_13 ws xs k w) (True))∧True)∧((sE (zwv_9_1_13 ws xs k w) (True))∧True)∧((sE (zwv_9_1_14 ws xs k w) (True))∧True)∧((sE (zwv_9_1_15 ws xs k w) ((True∧(fitsF (wvF 9 ws k w)) = false)))∧True)∧True∧True) (by kernel_rfl) (by kernel_rfl) (by kernel_rfl) (by kernel_rfl) (by kernel_rfl) (by kernel_rfl)
    ⟨⟨⟨rfl,oK,oK⟩,⟨rfl,oK,oK⟩,⟨rfl,oK,oK⟩,oK⟩,⟨⟨rfl,oK,oK⟩,⟨rfl,oK,oK⟩,oK⟩,⟨⟨rfl,oK,oK⟩,⟨rfl,oK,oK⟩,oK⟩,⟨⟨rfl,oK,oK⟩,⟨rfl,oK,oK⟩,⟨rfl,(fits_ok _),oK⟩,oK⟩,⟨⟨rfl,oK,oK⟩,oK⟩,⟨⟨rfl,oK,oK⟩,⟨rfl,(fits_ok _),oK⟩,oK⟩,⟨⟨rfl,oK,oK⟩,⟨rfl,(fits_ok _),oK⟩,oK⟩,⟨⟨rfl,oK,oK⟩,⟨rfl,oK,oK⟩,oK⟩,⟨⟨rfl,(fits_ok _),oK⟩,oK⟩,⟨⟨rfl,oK,oK⟩,⟨rfl,oK,oK⟩,oK⟩,⟨⟨rfl,oK,oK⟩,oK⟩,⟨⟨rfl,oK,oK⟩,oK⟩,⟨⟨rfl,oK,oK⟩,oK⟩,⟨⟨rfl,oK,oK⟩,oK⟩,⟨⟨rfl,⟨oK,(by first | exact h3 | simpa [wvF] using h3)⟩,oK⟩,oK⟩,oK,oK⟩ ?_
  refine Ev.ret ?_
  refine ⟨⟨oK,oK,oK,oK⟩,(?_ : ((2 : Int) = 2∧(yf40 : D) = yf40∧((.fn (.func 51) [] []) : D) = (.fn (.func 51) [] [])∧True)∧(wvF 9 ws k w) = (wvF 9 ws k w)∧false = false∧True),.inl rfl⟩
  exact ⟨⟨rfl,rfl,rfl,oK⟩,rfl,rfl,oK⟩

def zg_10_1_0 (ws xs : List Int) (k w : Int) : St := ⟨[(4,yf8),(7,yf9),(9,(yf18 ws k w))],(yf13 ws xs k w)⟩
def zg_10_1_1 (ws xs : List Int) (k w : Int) : St := ⟨[(4,yf8),(7,yf9),(9,(yf18 ws k w)),(44,(.agg yf4))],(yf13 ws xs k w)⟩
def zg_10_1_2 (ws xs : List Int) (k w : Int) : St := ⟨[(4,yf8),(7,yf9),(9,(yf18 ws k w)),(45,(yf18 ws k w))],(yf13 ws xs k w)⟩
def zg_10_1_3 (ws xs : List Int) (k w : Int) : St := ⟨[(4,yf8),(7,yf9),(9,(yf18 ws k w)),(46,(yf18 ws k w))],(yf13 ws xs k w)⟩
def zg_10_1_4 (ws xs : List Int) (k w : Int) : St := ⟨[(4,yf8),(7,yf9),(9,(yf18 ws k w)),(44,(.agg yf4)),(45,(yf18 ws k w))],(yf13 ws xs k w)⟩
def zg_10_1_5 (ws xs : List Int) (k w : Int) : St := ⟨[(4,yf8),(7,yf9),(9,(yf18 ws k w)),(44,(.agg yf4)),(46,(yf18 ws k w))],(yf13 ws xs k w)⟩
def zg_10_1_6 (ws xs : List Int) (k w : Int) : St := ⟨[(4,yf8),(7,yf9),(9,(yf18 ws k w)),(45,(yf18 ws k w)),(46,(yf18 ws k w))],(yf13 ws xs k w)⟩
def zg_10_1_7 (ws xs : List Int) (k w : Int) : St := ⟨[(4,yf8),(7,yf9),(9,(yf18 ws k w)),(46,(yf18 ws k w)),(47,(yf28 ws k w))],(yf13 ws xs k w)⟩
def zg_10_1_8 (ws xs : List Int) (k w : Int) : St := ⟨[(4,yf8),(7,yf9),(9,(yf18 ws k w)),(44,(.agg yf4)),(45,(yf18 ws k w)),(46,(yf18 ws k w))],(yf13 ws xs k w)⟩
def zg_10_1_9 (ws xs : List Int) (k w : Int) : St := ⟨[(4,yf8),(7,yf9),(9,(yf18 ws k w)),(44,(.agg yf4)),(46,(yf18 ws k w)),(47,(yf28 ws k w))],(yf13 ws xs k w)⟩
def zg_10_1_10 (ws xs : List Int) (k w : Int) : St := ⟨[(4,yf8),(7,yf9),(9,(yf18 ws k w)),(45,(yf18 ws k w)),(46,(yf18 ws k w)),(47,(yf28 ws k w))],(yf13 ws xs k w)⟩
def zg_10_1_11 (ws xs : List Int) (k w : Int) : St := ⟨[(4,yf8),(7,yf9),(9,(yf18 ws k w)),(44,(.agg yf4)),(45,(yf18 ws k w)),(46,(yf18 ws k w)),(47,(yf28 ws k w))],(yf13 ws xs k w)⟩
def zg_10_1_12 (ws xs : List Int) (k w : Int) : St := ⟨[(4,yf8),(7,yf9),(9,(yf18 ws k w)),(44,(.agg yf4)),(46,(yf18 ws k w)),(47,(yf28 ws k w))],(yf36 ws xs k w)⟩
def zg_10_1_13 (ws xs : List Int) (k w : Int) : St := ⟨[(4,yf8),(7,yf9),(9,(yf18 ws k w)),(44,(.agg yf4)),(45,(yf18 ws k w)),(46,(yf18 ws k w)),(47,(yf28 ws k w))],(yf36 ws xs k w)⟩
def zg_10_1_14 (ws xs : List Int) (k w : Int) : St := ⟨[(4,yf8),(5,(yf18 ws k w)),(7,yf9),(9,(yf18 ws k w)),(44,(.agg yf4)),(45,(yf18 ws k w)),(46,(yf18 ws k w)),(47,(yf28 ws k w))],(yf36 ws xs k w)⟩
def zg_10_1_15 (ws xs : List Int) (k w : Int) : St := ⟨[(4,yf8),(5,(yf18 ws k w)),(6,(dB true))],(yf36 ws xs k w)⟩
set_option maxRecDepth 100000 in
theorem width_good_10 (ws xs : List Int) (k w : Int) (hw : ws.length ≤ 9223372036854775807) (h : okF 10 ws k w = true) : CallOk Try.prog 27 [(i6 10),(yf17 ws xs k w)] [] true (.tup [(.agg yf4),(yf18 ws k w),(dB true)]) [] := by
  refine CallOk.of_ev Try.func27 rfl rfl rfl ?_
  rintro ⟨_,W,S0,_,susp,_⟩ rfl rfl rfl
  obtain ⟨h1,h2,h3⟩ := ok_yes h
  have hA : arityF 10 = 3 := by decide
  rw [hA] at h1
  refine Ev.seq ?_
  refine Ev.reg [] [0,3,4] (st' := ⟨[(0,(i6 10)),(3,yf10),(4,yf8)],(yf47 ws xs k w)⟩)
    (p := T4 True) (by kernel_rfl)
    ⟨oK,oK,oK,oK,oK⟩ ?_
  refine Ev.seq ?_
  refine Ev.reg [(0,.call none false (.v (.mp simpleM))),(2,.idx none)] [0,3,4,7,8] (st' := ⟨yf48,(yf27 ws xs k w)⟩)
    (p := callOb Try.prog 33 (yf47 ws xs k w) [] none false (.v (.mp simpleM))∧True∧(∀ e' ∈ simpleM,10 ≠ e'.1)∧True∧True∧True∧True∧True∧True∧True) (by kernel_rfl)
    ⟨simple_ok,oK,(by decide),oK,oK,oK,oK,oK,oK,oK⟩ ?_
  refine Ev.seq ?_
  refine Ev.seq ?_
  refine Ev.reg [] [0,3,4,7,8,17] (st' := ⟨yf41,(yf27 ws xs k w)⟩)
    (p := T2 True) (by kernel_rfl)
    ⟨oK,oK,oK⟩ ?_
  refine Ev.cond true rfl (fun _ => ?_) (fun h => (by cases h))
  refine Ev.reg [(0,.call none false (.v (.mp othersM))),(2,.idx (some 1))] [3,4,7,8] (st' := ⟨[(3,yf10),(4,yf8),(7,yf9),(8,(dB true))],(yf13 ws xs k w)⟩)
    (p := callOb Try.prog 34 (yf27 ws xs k w) [] none false (.v (.mp othersM))∧True∧((10 : Int) = 10∧∀ e' ∈ othersM.take 1,(10 : Int) ≠ e'.1)∧True∧True∧True∧True∧True∧True) (by kernel_rfl)
    ⟨others_ok,oK,(by decide),oK,oK,oK,oK,oK,oK⟩ ?_
  refine Ev.seq ?_
  refine Ev.seq ?_
  refine Ev.reg [(8,.val (dB false)),(13,.call none false (yf24 ws)),(14,.val (dB false))] [3,4,7,38] (st' := ⟨[(3,yf10),(4,yf8),(7,yf9),(38,(dB false))],(yf13 ws xs k w)⟩)
    (p := T8 ((True∧(((ws.length : Nat) : Int) != 3) = false)∧T4 (callOb Try.prog 35 (yf13 ws xs k w) (yf25 ws) none false (yf24 ws)∧(True∧(!(ws.all fitsF)) = false)∧True))) (by kernel_rfl)
    ⟨oK,oK,oK,oK,oK,oK,oK,oK,⟨oK,(by rw [h1]; rfl)⟩,oK,oK,oK,oK,(contains_ok _ (by first | omega | (simp; first | done | omega))),⟨oK,(by rw [h2]; rfl)⟩,oK⟩ ?_
  refine Ev.cond false rfl (fun h => (by cases h)) (fun _ => ?_)
  refine Ev.skip ?_
  refine Ev.seq ?_
  refine Ev.reg [(3,.call none false (i6 (if ws.getD 0 0 ≠ 1 ∨ ws.getD 1 0 ≠ ws.getD 2 0 then 0 else ws.getD 1 0))),(4,.val (yf18 ws k w))] [4,7,9] (st' := ⟨[(4,yf8),(7,yf9),(9,(yf18 ws k w))],(yf13 ws xs k w)⟩)
    (p := T3 ((callOb Try.prog 54 (yf13 ws xs k w) [(yf17 ws xs k w)] none false (i6 (if ws.getD 0 0 ≠ 1 ∨ ws.getD 1 0 ≠ ws.getD 2 0 then 0 else ws.getD 1 0)))∧(True∧((if ws.getD 0 0 ≠ 1 ∨ ws.getD 1 0 ≠ ws.getD 2 0 then 0 else ws.getD 1 0) = (wvF 10 ws k w)))∧True)) (by kernel_rfl)
    ⟨oK,oK,oK,(wmux_ok _ _ _ _ (by omega) (by assumption)),⟨oK,(by first | rfl | simp [wvF])⟩,oK⟩ ?_
  refine Ev.seq ?_
  refine Ev.any [(3,.call none false (yf28 ws k w)),(6,.val (dB true))] [((bm 7 0),(zg_10_1_0 ws xs k w)),((bm 7 1),(zg_10_1_1 ws xs k w)),((bm 7 2),(zg_10_1_2 ws xs k w)),((bm 7 4),(zg_10_1_3 ws xs k w)),((bm 7 3),(zg_10_1_4 ws xs k w)),((bm 7 5),(zg_10_1_5 ws xs k w)),((bm 7 6),(zg_10_1_6 ws xs k w)),((bm 7 12),(zg_10_1_7 ws xs k w)),((bm 7 7),(zg_10_1_8 ws xs k w)),((bm 7 13),(zg_10_1_9 ws xs k w)),((bm 7 14),(zg_10_1_10 ws xs k w)),((bm 7 15),(zg_10_1_11 ws xs k w)),((bm 7 29),(zg_10_1_12 ws xs k w)),((bm 7 31),(zg_10_1_13 ws xs k w)),((bm 7 63),(zg_10_1_14 ws xs k w)),((bm 7 127),(zg_10_1_15 ws xs k w))] (st0 := (zg_10_1_0 ws xs k w)) (st' := ⟨[(4,yf8),(5,(yf18 ws k w)),(6,(dB true))],(yf36 ws xs k w)⟩)
    (p := ((sE (zg_10_1_1 ws xs k w) (True))∧(sE (zg_10_1_2 ws xs k w) (True))∧(sE (zg_10_1_3 ws xs k w) (True))∧True)∧((sE (zg_10_1_4 ws xs k w) (True))∧(sE (zg_10_1_5 ws xs k w) (True))∧True)∧((sE (zg_10_1_4 ws xs k w) (True))∧(sE (zg_10_1_6 ws xs k w) (True))∧True)∧((sE (zg_10_1_5 ws xs k w) (True))∧(sE (zg_10_1_6 ws xs k w) (True))∧(sE (zg_10_1_7 ws xs k w) (callOb Try.prog 37 (yf13 ws xs k w) [(yf18 ws k w)] none false (yf28 ws k w)))∧True)∧((sE (zg_10_1_8 ws xs k w) (True))∧True)∧((sE (zg_10_1_8 ws xs k w) (True))∧(sE (zg_10_1_9 ws xs k w) (callOb Try.prog 37 (yf13 ws xs k w) [(yf18 ws k w)] none false (yf28 ws k w)))∧True)∧((sE (zg_10_1_8 ws xs k w) (True))∧(sE (zg_10_1_10 ws xs k w) (callOb Try.prog 37 (yf13 ws xs k w) [(yf18 ws k w)] none false (yf28 ws k w)))∧True)∧((sE (zg_10_1_9 ws xs k w) (True))∧(sE (zg_10_1_10 ws xs k w) (True))∧True)∧((sE (zg_10_1_11 ws xs k w) (callOb Try.prog 37 (yf13 ws xs k w) [(yf18 ws k w)] none false (yf28 ws k w)))∧True)∧((sE (zg_10_1_11 ws xs k w) (True))∧(sE (zg_10_1_12 ws xs k w) (True))∧True)∧((sE (zg_10_1_11 ws xs k w) (True))∧True)∧((sE (zg_10_1_13 ws xs k w) (True))∧True)∧((sE (zg_10_1_13 ws xs k w) (True))∧True)∧((sE (zg_10_1_14 ws xs k w) (True))∧True)∧((sE (zg_10_1_15 ws xs k w) ((True∧(fitsF (wvF 10 ws k w)) = true)))∧True)∧True∧True) (by kernel_rfl) (by kernel_rfl) (by kernel_rfl) (by kernel_rfl) (by kernel_rfl) (by kernel_rfl)
    ⟨⟨⟨rfl,oK,oK⟩,⟨rfl,oK,oK⟩,⟨rfl,oK,oK⟩,oK⟩,⟨⟨rfl,oK,oK⟩,⟨rfl,oK,oK⟩,oK⟩,⟨⟨rfl,oK,oK⟩,⟨rfl,oK,oK⟩,oK⟩,⟨⟨rfl,oK,oK⟩,⟨rfl,oK,oK⟩,⟨rfl,(fits_ok _),oK⟩,oK⟩,⟨⟨rfl,oK,oK⟩,oK⟩,⟨⟨rfl,oK,oK⟩,⟨rfl,(fits_ok _),oK⟩,oK⟩,⟨⟨rfl,oK,oK⟩,⟨rfl,(fits_ok _),oK⟩,oK⟩,⟨⟨rfl,oK,oK⟩,⟨rfl,oK,oK⟩,oK⟩,⟨⟨rfl,(fits_ok _),oK⟩,oK⟩,⟨⟨rfl,oK,oK⟩,⟨rfl,oK,oK⟩,oK⟩,⟨⟨rfl,oK,oK⟩,oK⟩,⟨⟨rfl,oK,oK⟩,oK⟩,⟨⟨rfl,oK,oK⟩,oK⟩,⟨⟨rfl,oK,oK⟩,oK⟩,⟨⟨rfl,⟨oK,(by first | exact h3 | simpa [wvF] using h3)⟩,oK⟩,oK⟩,oK,oK⟩ ?_
  refine Ev.ret ?_
  refine ⟨⟨oK,oK,oK,oK⟩,(?_ : ((3 : Int) = 3∧((.fn (.func 54) [] []) : D) = (.fn (.func 54) [] [])∧((.fn (.func 55) [] []) : D) = (.fn (.func 55) [] [])∧True)∧(wvF 10 ws k w) = (wvF 10 ws k w)∧true = true∧True),.inl rfl⟩
  exact ⟨⟨rfl,rfl,rfl,oK⟩,rfl,rfl,oK⟩

set_option maxRecDepth 100000 in
theorem width_bad_10 (ws xs : List Int) (k w : Int) (hw : ws.length ≤ 9223372036854775807) (h : okB 10 ws = false) : CallOk Try.prog 27 [(i6 10),(yf17 ws xs k w)] [] true yf26 [] := by
  refine CallOk.of_ev Try.func27 rfl rfl rfl ?_
  rintro ⟨_,W,S0,_,susp,_⟩ rfl rfl rfl
  refine Ev.seq ?_
  refine Ev.reg [] [0,3,4] (st' := ⟨[(0,(i6 10)),(3,yf10),(4,yf8)],(yf47 ws xs k w)⟩)
    (p := T4 True) (by kernel_rfl)
    ⟨oK,oK,oK,oK,oK⟩ ?_
  refine Ev.seq ?_
  refine Ev.reg [(0,.call none false (.v (.mp simpleM))),(2,.idx none)] [0,3,4,7,8] (st' := ⟨yf48,(yf27 ws xs k w)⟩)
    (p := callOb Try.prog 33 (yf47 ws xs k w) [] none false (.v (.mp simpleM))∧True∧(∀ e' ∈ simpleM,10 ≠ e'.1)∧True∧True∧True∧True∧True∧True∧True) (by kernel_rfl)
    ⟨simple_ok,oK,(by decide),oK,oK,oK,oK,oK,oK,oK⟩ ?_
  refine Ev.seq ?_
  refine Ev.seq ?_
  refine Ev.reg [] [0,3,4,7,8,17] (st' := ⟨yf41,(yf27 ws xs k w)⟩)
    (p := T2 True) (by kernel_rfl)
    ⟨oK,oK,oK⟩ ?_
  refine Ev.cond true rfl (fun _ => ?_) (fun h => (by cases h))
  refine Ev.reg [(0,.call none false (.v (.mp othersM))),(2,.idx (some 1))] [3,4,7,8] (st' := ⟨[(3,yf10),(4,yf8),(7,yf9),(8,(dB true))],(yf13 ws xs k w)⟩)
    (p := callOb Try.prog 34 (yf27 ws xs k w) [] none false (.v (.mp othersM))∧True∧((10 : Int) = 10∧∀ e' ∈ othersM.take 1,(10 : Int) ≠ e'.1)∧True∧True∧True∧True∧True∧True) (by kernel_rfl)
    ⟨others_ok,oK,(by decide),oK,oK,oK,oK,oK,oK⟩ ?_
  refine Ev.seq ?_
  refine Ev.seq ?_
  rcases okB_no h with h1 | ⟨h1,h2⟩
  · skip
    have hA : arityF 10 = 3 := by decide
    rw [hA] at h1
    refine Ev.reg [(8,.val (dB true))] [3,4,7,38] (st' := ⟨[(3,yf10),(4,yf8),(7,yf9),(38,(dB true))],(yf13 ws xs k w)⟩)
      (p := T8 ((True∧(((ws.length : Nat) : Int) != 3) = true)∧T6 True)) (by kernel_rfl)
      ⟨oK,oK,oK,oK,oK,oK,oK,oK,⟨oK,(by exact bne_iff_ne.2 (by omega))⟩,oK,oK,oK,oK,oK,oK,oK⟩ ?_
    refine Ev.cond true rfl (fun _ => ?_) (fun h => (by cases h))
    refine Ev.seq ?_
    refine Ev.reg [] [4,5,6] (st' := ⟨[(4,yf8),(5,(i6 0)),(6,(dB false))],(yf13 ws xs k w)⟩)
      (p := T4 True) (by kernel_rfl)
      ⟨oK,oK,oK,oK,oK⟩ ?_
    refine Ev.ret ?_
    refine ⟨⟨oK,oK,oK,oK⟩,(?_ : ((0 : Int) = 0∧True∧True∧True)∧(0 : Int) = 0∧false = false∧True),.inl rfl⟩
    exact ⟨⟨rfl,oK,oK,oK⟩,rfl,rfl,oK⟩
  · skip
    have hA : arityF 10 = 3 := by decide
    rw [hA] at h1
    refine Ev.reg [(8,.val (dB false)),(13,.call none false (yf24 ws)),(14,.val (dB true))] [3,4,7,38] (st' := ⟨[(3,yf10),(4,yf8),(7,yf9),(38,(dB true))],(yf13 ws xs k w)⟩)
      (p := T8 ((True∧(((ws.length : Nat) : Int) != 3) = false)∧T4 (callOb Try.prog 35 (yf13 ws xs k w) (yf25 ws) none false (yf24 ws)∧(True∧(!(ws.all fitsF)) = true)∧True))) (by kernel_rfl)
      ⟨oK,oK,oK,oK,oK,oK,oK,oK,⟨oK,(by rw [h1]; rfl)⟩,oK,oK,oK,oK,(contains_ok _ (by first | omega | (simp; first | done | omega))),⟨oK,(by rw [h2]; rfl)⟩,oK⟩ ?_
    refine Ev.cond true rfl (fun _ => ?_) (fun h => (by cases h))
    refine Ev.seq ?_
    refine Ev.reg [] [4,5,6] (st' := ⟨[(4,yf8),(5,(i6 0)),(6,(dB false))],(yf13 ws xs k w)⟩)
      (p := T4 True) (by kernel_rfl)
      ⟨oK,oK,oK,oK,oK⟩ ?_
    refine Ev.ret ?_
    refine ⟨⟨oK,oK,oK,oK⟩,(?_ : ((0 : Int) = 0∧True∧True∧True)∧(0 : Int) = 0∧false = false∧True),.inl rfl⟩
    exact ⟨⟨rfl,oK,oK,oK⟩,rfl,rfl,oK⟩

def zwv_10_1_0 (ws xs : List Int) (k w : Int) : St := ⟨[(4,yf8),(7,yf9),(9,(yf18 ws k w))],(yf13 ws xs k w)⟩
def zwv_10_1_1 (ws xs : List Int) (k w : Int) : St := ⟨[(4,yf8),(7,yf9),(9,(yf18 ws k w)),(44,(.agg yf4))],(yf13 ws xs k w)⟩
def zwv_10_1_2 (ws xs : List Int) (k w : Int) : St := ⟨[(4,yf8),(7,yf9),(9,(yf18 ws k w)),(45,(yf18 ws k w))],(yf13 ws xs k w)⟩
def zwv_10_1_3 (ws xs : List Int) (k w : Int) : St := ⟨[(4,yf8),(7,yf9),(9,(yf18 ws k w)),(46,(yf18 ws k w))],(yf13 ws xs k w)⟩
def zwv_10_1_4 (ws xs : List Int) (k w : Int) : St := ⟨[(4,yf8),(7,yf9),(9,(yf18 ws k w)),(44,(.agg yf4)),(45,(yf18 ws k w))],(yf13 ws xs k w)⟩
def zwv_10_1_5 (ws xs : List Int) (k w : Int) : St := ⟨[(4,yf8),(7,yf9),(9,(yf18 ws k w)),(44,(.agg yf4)),(46,(yf18 ws k w))],(yf13 ws xs k w)⟩
def zwv_10_1_6 (ws xs : List Int) (k w : Int) : St := ⟨[(4,yf8),(7,yf9),(9,(yf18 ws k w)),(45,(yf18 ws k w)),(46,(yf18 ws k w))],(yf13 ws xs k w)⟩
def zwv_10_1_7 (ws xs : List Int) (k w : Int) : St := ⟨[(4,yf8),(7,yf9),(9,(yf18 ws k w)),(46,(yf18 ws k w)),(47,(yf28 ws k w))],(yf13 ws xs k w)⟩
def zwv_10_1_8 (ws xs : List Int) (k w : Int) : St := ⟨[(4,yf8),(7,yf9),(9,(yf18 ws k w)),(44,(.agg yf4)),(45,(yf18 ws k w)),(46,(yf18 ws k w))],(yf13 ws xs k w)⟩
def zwv_10_1_9 (ws xs : List Int) (k w : Int) : St := ⟨[(4,yf8),(7,yf9),(9,(yf18 ws k w)),(44,(.agg yf4)),(46,(yf18 ws k w)),(47,(yf28 ws k w))],(yf13 ws xs k w)⟩
def zwv_10_1_10 (ws xs : List Int) (k w : Int) : St := ⟨[(4,yf8),(7,yf9),(9,(yf18 ws k w)),(45,(yf18 ws k w)),(46,(yf18 ws k w)),(47,(yf28 ws k w))],(yf13 ws xs k w)⟩
def zwv_10_1_11 (ws xs : List Int) (k w : Int) : St := ⟨[(4,yf8),(7,yf9),(9,(yf18 ws k w)),(44,(.agg yf4)),(45,(yf18 ws k w)),(46,(yf18 ws k w)),(47,(yf28 ws k w))],(yf13 ws xs k w)⟩
def zwv_10_1_12 (ws xs : List Int) (k w : Int) : St := ⟨[(4,yf8),(7,yf9),(9,(yf18 ws k w)),(44,(.agg yf4)),(46,(yf18 ws k w)),(47,(yf28 ws k w))],(yf36 ws xs k w)⟩
def zwv_10_1_13 (ws xs : List Int) (k w : Int) : St := ⟨[(4,yf8),(7,yf9),(9,(yf18 ws k w)),(44,(.agg yf4)),(45,(yf18 ws k w)),(46,(yf18 ws k w)),(47,(yf28 ws k w))],(yf36 ws xs k w)⟩
def zwv_10_1_14 (ws xs : List Int) (k w : Int) : St := ⟨[(4,yf8),(5,(yf18 ws k w)),(7,yf9),(9,(yf18 ws k w)),(44,(.agg yf4)),(45,(yf18 ws k w)),(46,(yf18 ws k w)),(47,(yf28 ws k w))],(yf36 ws xs k w)⟩
def zwv_10_1_15 (ws xs : List Int) (k w : Int) : St := ⟨[(4,yf8),(5,(yf18 ws k w)),(6,(dB false))],(yf36 ws xs k w)⟩
set_option maxRecDepth 100000 in
theorem width_wv_10 (ws xs : List Int) (k w : Int) (hw : ws.length ≤ 9223372036854775807) (h : okB 10 ws = true) (h3 : fitsF (wvF 10 ws k w) = false) : CallOk Try.prog 27 [(i6 10),(yf17 ws xs k w)] [] true (.tup [(.agg yf4),(yf18 ws k w),(dB false)]) [] := by
  refine CallOk.of_ev Try.func27 rfl rfl rfl ?_
  rintro ⟨_,W,S0,_,susp,_⟩ rfl rfl rfl
  obtain ⟨h1,h2⟩ := okB_yes h
  have hA : arityF 10 = 3 := by decide
  rw [hA] at h1
  refine Ev.seq ?_
  refine Ev.reg [] [0,3,4] (st' := ⟨[(0,(i6 10)),(3,yf10),(4,yf8)],(yf47 ws xs k w)⟩)
    (p := T4 True) (by kernel_rfl)
    ⟨oK,oK,oK,oK,oK⟩ ?_
  refine Ev.seq ?_
  refine Ev.reg [(0,.call none false (.v (.mp simpleM))),(2,.idx none)] [0,3,4,7,8] (st' := ⟨yf48,(yf27 ws xs k w)⟩)
    (p := callOb Try.prog 33 (yf47 ws xs k w) [] none false (.v (.mp simpleM))∧True∧(∀ e' ∈ simpleM,10 ≠ e'.1)∧True∧True∧True∧True∧True∧True∧True) (by kernel_rfl)
    ⟨simple_ok,oK,(by decide),oK,oK,oK,oK,oK,oK,oK⟩ ?_
  refine Ev.seq ?_
  refine Ev.seq ?_
  refine Ev.reg [] [0,3,4,7,8,17] (st' := ⟨yf41,(yf27 ws xs k w)⟩)
    (p := T2 True) (by kernel_rfl)
    ⟨oK,oK,oK⟩ ?_
  refine Ev.cond true rfl (fun _ => ?_) (fun h => (by cases h))
  refine Ev.reg [(0,.call none false (.v (.mp othersM))),(2,.idx (some 1))] [3,4,7,8] (st' := ⟨[(3,yf10),(4,yf8),(7,yf9),(8,(dB true))],(yf13 ws xs k w)⟩)
    (p := callOb Try.prog 34 (yf27 ws xs k w) [] none false (.v (.mp othersM))∧True∧((10 : Int) = 10∧∀ e' ∈ othersM.take 1,(10 : Int) ≠ e'.1)∧True∧True∧True∧True∧True∧True) (by kernel_rfl)
    ⟨others_ok,oK,(by decide),oK,oK,oK,oK,oK,oK⟩ ?_
  refine Ev.seq ?_
  refine Ev.seq ?_
  refine Ev.reg [(8,.val (dB false)),(13,.call none false (yf24 ws)),(14,.val (dB false))] [3,4,7,38] (st' := ⟨[(3,yf10),(4,yf8),(7,yf9),(38,(dB false))],(yf13 ws xs k w)⟩)
    (p := T8 ((True∧(((ws.length : Nat) : Int) != 3) = false)∧T4 (callOb Try.prog 35 (yf13 ws xs k w) (yf25 ws) none false (yf24 ws)∧(True∧(!(ws.all fitsF)) = false)∧True))) (by kernel_rfl)
    ⟨oK,oK,oK,oK,oK,oK,oK,oK,⟨oK,(by rw [h1]; rfl)⟩,oK,oK,oK,oK,(contains_ok _ (by first | omega | (simp; first | done | omega))),⟨oK,(by rw [h2]; rfl)⟩,oK⟩ ?_
  refine Ev.cond false rfl (fun h => (by cases h)) (fun _ => ?_)
  refine Ev.skip ?_
  refine Ev.seq ?_
  refine Ev.reg [(3,.call none false (i6 (if ws.getD 0 0 ≠ 1 ∨ ws.getD 1 0 ≠ ws.getD 2 0 then 0 else ws.getD 1 0))),(4,.val (yf18 ws k w))] [4,7,9] (st' := ⟨[(4,yf8),(7,yf9),(9,(yf18 ws k w))],(yf13 ws xs k w)⟩)
    (p := T3 ((callOb Try.prog 54 (yf13 ws xs k w) [(yf17 ws xs k w)] none false (i6 (if ws.getD 0 0 ≠ 1 ∨ ws.getD 1 0 ≠ ws.getD 2 0 then 0 else ws.getD 1 0)))∧(True∧((if ws.getD 0 0 ≠ 1 ∨ ws.getD 1 0 ≠ ws.getD 2 0 then 0 else ws.getD 1 0) = (wvF 10 ws k w)))∧True)) (by kernel_rfl)
    ⟨oK,oK,oK,(wmux_ok _ _ _ _ (by omega) (by assumption)),⟨oK,(by first | rfl | simp [wvF])⟩,oK⟩ ?_
  refine Ev.seq ?_
  refine Ev.any [(3,.call none false (yf28 ws k w)),(6,.val (dB false))] [((bm 7 0),(zwv_10_1_0 ws xs k w)),((bm 7 1),(zwv_10_1_1 ws xs k w)),((bm 7 2),(zwv_10_1_2 ws xs k w)),((bm 7 4),(zwv_10_1_3 ws xs k w)),((bm 7 3),(zwv_10_1_4 ws xs k w)),((bm 7 5),(zwv_10_1_5 ws xs k w)),((bm 7 6),(zwv_10_1_6 ws xs k w)),((bm 7 12),(zwv_10_1_7 ws xs k w)),((bm 7 7),(zwv_10_1_8 ws xs k w)),((bm 7 13),(zwv_10_1_9 ws xs k w)),((bm 7 14),(zwv_10_1_10 ws xs k w)),((bm 7 15),(zwv_10_1_11 ws xs k w)),((bm 7 29),(zwv_10_1_12 ws xs k w)),((bm 7 31),(zwv_10_1_13 ws xs k w)),((bm 7 63),(zwv_10_1_14 ws xs k w)),((bm 7 127),(zwv_10_1_15 ws xs k w))] (st0 := (zwv_10_1_0 ws xs k w)) (st' := ⟨[(4,yf8),(5,(yf18 ws k w)),(6,(dB false))],(yf36 ws xs k w)⟩)
    (p := ((sE (zwv_10_1_1 ws xs k w) (True))∧(sE (zwv_10_1_2 ws xs k w) (True))∧(sE (zwv_10_1_3 ws xs k w) (True))∧True)∧((sE (zwv_10_1_4 ws xs k w) (True))∧(sE (zwv_10_1_5 ws xs k w) (True))∧True)∧((sE (zwv_10_1_4 ws xs k w) (True))∧(sE (zwv_10_1_6 ws xs k w) (True))∧True)∧((sE (zwv_10_1_5 ws xs k w) (True))∧(sE (zwv_10_1_6 ws xs k w) (True))∧(sE (zwv_10_1_7 ws xs k w) (callOb Try.prog 37 (yf13 ws xs k w) [(yf18 ws k w)] none false (yf28 ws k w)))∧True)∧((sE (zwv_10_1_8 ws xs k w) (True))∧True)∧((sE (zwv_10_1_8 ws xs k w) (True))∧(sE (zwv_10_1_9 ws xs k w) (callOb Try.prog 37 (yf13 ws xs k w) [(yf18 ws k w)] none false (yf28 ws k w)))∧True)∧((sE (zwv_10_1_8 ws xs k w) (True))∧(sE (zwv_10_1_10 ws xs k w) (callOb Try.prog 37 (yf13 ws xs k w) [(yf18 ws k w)] none false (yf28 ws k w)))∧True)∧((sE (zwv_10_1_9 ws xs k w) (True))∧(sE (zwv_10_1_10 ws xs k w) (True))∧True)∧((sE (zwv_10_1_11 ws xs k w) (callOb Try.prog 37 (yf13 ws xs k w) [(yf18 ws k w)] none false (yf28 ws k w)))∧True)∧((sE (zwv_10_1_11 ws xs k w) (True))∧(sE (zwv_10_1_12 ws xs k w) (True))∧True)∧((sE (zwv_10_1_11 ws xs k w) (True))∧True)∧((sE (zwv_10_1_13 ws xs k w) (True))∧True)∧((sE (zwv_10_1_13 ws xs k w) (True))∧True)∧((sE (zwv_10_1_14 ws xs k w) (True))∧True)∧((sE (zwv_10_1_15 ws xs k w) ((True∧(fitsF (wvF 10 ws k w)) = false)))∧True)∧True∧True) (by kernel_rfl) (by kernel_rfl) (by kernel_rfl) (by kernel_rfl) (by kernel_rfl) (by kernel_rfl)
    ⟨⟨⟨rfl,oK,oK⟩,⟨rfl,oK,oK⟩,⟨rfl,oK,oK⟩,oK⟩,⟨⟨rfl,oK,oK⟩,⟨rfl,oK,oK⟩,oK⟩,⟨⟨rfl,oK,oK⟩,⟨rfl,oK,oK⟩,oK⟩,⟨⟨rfl,oK,oK⟩,⟨rfl,oK,oK⟩,⟨rfl,(fits_ok _),oK⟩,oK⟩,⟨⟨rfl,oK,oK⟩,oK⟩,⟨⟨rfl,oK,oK⟩,⟨rfl,(fits_ok _),oK⟩,oK⟩,⟨⟨rfl,oK,oK⟩,⟨rfl,(fits_ok _),oK⟩,oK⟩,⟨⟨rfl,oK,oK⟩,⟨rfl,oK,oK⟩,oK⟩,⟨⟨rfl,(fits_ok _),oK⟩,oK⟩,⟨⟨rfl,oK,oK⟩,⟨rfl,oK,oK⟩,oK⟩,⟨⟨rfl,oK,oK⟩,oK⟩,⟨⟨rfl,oK,oK⟩,oK⟩,⟨⟨rfl,oK,oK⟩,oK⟩,⟨⟨rfl,oK,oK⟩,oK⟩,⟨⟨rfl,⟨oK,(by first | exact h3 | simpa [wvF] using h3)⟩,oK⟩,oK⟩,oK,oK⟩ ?_
  refine Ev.ret ?_
  refine ⟨⟨oK,oK,oK,oK⟩,(?_ : ((3 : Int) = 3∧((.fn (.func 54) [] []) : D) = (.fn (.func 54) [] [])∧((.fn (.func 55) [] []) : D) = (.fn (.func 55) [] [])∧True)∧(wvF 10 ws k w) = (wvF 10 ws k w)∧false = false∧True),.inl rfl⟩
  exact ⟨⟨rfl,rfl,rfl,oK⟩,rfl,rfl,oK⟩

def zg_11_1_0 (ws xs : List Int) (k w : Int) : St := ⟨[(4,yf8),(7,yf9),(9,(yf19 ws k w))],(yf14 ws xs k w)⟩
def zg_11_1_1 (ws xs : List Int) (k w : Int) : St := ⟨[(4,yf8),(7,yf9),(9,(yf19 ws k w)),(44,(.agg yf5))],(yf14 ws xs k w)⟩
def zg_11_1_2 (ws xs : List Int) (k w : Int) : St := ⟨[(4,yf8),(7,yf9),(9,(yf19 ws k w)),(45,(yf19 ws k w))],(yf14 ws xs k w)⟩
def zg_11_1_3 (ws xs : List Int) (k w : Int) : St := ⟨[(4,yf8),(7,yf9),(9,(yf19 ws k w)),(46,(yf19 ws k w))],(yf14 ws xs k w)⟩
def zg_11_1_4 (ws xs : List Int) (k w : Int) : St := ⟨[(4,yf8),(7,yf9),(9,(yf19 ws k w)),(44,(.agg yf5)),(45,(yf19 ws k w))],(yf14 ws xs k w)⟩
def zg_11_1_5 (ws xs : List Int) (k w : Int) : St := ⟨[(4,yf8),(7,yf9),(9,(yf19 ws k w)),(44,(.agg yf5)),(46,(yf19 ws k w))],(yf14 ws xs k w)⟩
def zg_11_1_6 (ws xs : List Int) (k w : Int) : St := ⟨[(4,yf8),(7,yf9),(9,(yf19 ws k w)),(45,(yf19 ws k w)),(46,(yf19 ws k w))],(yf14 ws xs k w)⟩
def zg_11_1_7 (ws xs : List Int) (k w : Int) : St := ⟨[(4,yf8),(7,yf9),(9,(yf19 ws k w)),(46,(yf19 ws k w)),(47,(yf29 ws k w))],(yf14 ws xs k w)⟩
def zg_11_1_8 (ws xs : List Int) (k w : Int) : St := ⟨[(4,yf8),(7,yf9),(9,(yf19 ws k w)),(44,(.agg yf5)),(45,(yf19 ws k w)),(46,(yf19 ws k w))],(yf14 ws xs k w)⟩
def zg_11_1_9 (ws xs : List Int) (k w : Int) : St := ⟨[(4,yf8),(7,yf9),(9,(yf19 ws k w)),(44,(.agg yf5)),(46,(yf19 ws k w)),(47,(yf29 ws k w))],(yf14 ws xs k w)⟩
def zg_11_1_10 (ws xs : List Int) (k w : Int) : St := ⟨[(4,yf8),(7,yf9),(9,(yf19 ws k w)),(45,(yf19 ws k w)),(46,(yf19 ws k w)),(47,(yf29 ws k w))],(yf14 ws xs k w)⟩
def zg_11_1_11 (ws xs : List Int) (k w : Int) : St := ⟨[(4,yf8),(7,yf9),(9,(yf19 ws k w)),(44,(.agg yf5)),(45,(yf19 ws k w)),(46,(yf19 ws k w)),(47,(yf29 ws k w))],(yf14 ws xs k w)⟩
def zg_11_1_12 (ws xs : List Int) (k w : Int) : St := ⟨[(4,yf8),(7,yf9),(9,(yf19 ws k w)),(44,(.agg yf5)),(46,(yf19 ws k w)),(47,(yf29 ws k w))],(yf37 ws xs k w)⟩
def zg_11_1_13 (ws xs : List Int) (k w : Int) : St := ⟨[(4,yf8),(7,yf9),(9,(yf19 ws k w)),(44,(.agg yf5)),(45,(yf19 ws k w)),(46,(yf19 ws k w)),(47,(yf29 ws k w))],(yf37 ws xs k w)⟩
def zg_11_1_14 (ws xs : List Int) (k w : Int) : St := ⟨[(4,yf8),(5,(yf19 ws k w)),(7,yf9),(9,(yf19 ws k w)),(44,(.agg yf5)),(45,(yf19 ws k w)),(46,(yf19 ws k w)),(47,(yf29 ws k w))],(yf37 ws xs k w)⟩
def zg_11_1_15 (ws xs : List Int) (k w : Int) : St := ⟨[(4,yf8),(5,(yf19 ws k w)),(6,(dB true))],(yf37 ws xs k w)⟩
set_option maxRecDepth 100000 in
theorem width_good_11 (ws xs : List Int) (k w : Int) (hw : ws.length ≤ 9223372036854775807) (h : okF 11 ws k w = true) : CallOk Try.prog 27 [(i6 11),(yf17 ws xs k w)] [] true (.tup [(.agg yf5),(yf19 ws k w),(dB true)]) [] := by
  refine CallOk.of_ev Try.func27 rfl rfl rfl ?_
  rintro ⟨_,W,S0,_,susp,_⟩ rfl rfl rfl
  obtain ⟨h1,h2,h3⟩ := ok_yes h
  have hA : arityF 11 = 2 := by decide
  rw [hA] at h1
  refine Ev.seq ?_
  refine Ev.reg [] [0,3,4] (st' := ⟨[(0,(i6 11)),(3,yf10),(4,yf8)],(yf47 ws xs k w)⟩)
    (p := T4 True) (by kernel_rfl)
    ⟨oK,oK,oK,oK,oK⟩ ?_
  refine Ev.seq ?_
  refine Ev.reg [(0,.call none false (.v (.mp simpleM))),(2,.idx none)] [0,3,4,7,8] (st' := ⟨yf49,(yf27 ws xs k w)⟩)
    (p := callOb Try.prog 33 (yf47 ws xs k w) [] none false (.v (.mp simpleM))∧True∧(∀ e' ∈ simpleM,11 ≠ e'.1)∧True∧True∧True∧True∧True∧True∧True) (by kernel_rfl)
    ⟨simple_ok,oK,(by decide),oK,oK,oK,oK,oK,oK,oK⟩ ?_
  refine Ev.seq ?_
  refine Ev.seq ?_
  refine Ev.reg [] [0,3,4,7,8,17] (st' := ⟨yf42,(yf27 ws xs k w)⟩)
    (p := T2 True) (by kernel_rfl)
    ⟨oK,oK,oK⟩ ?_
  refine Ev.cond true rfl (fun _ => ?_) (fun h => (by cases h))
  refine Ev.reg [(0,.call none false (.v (.mp othersM))),(2,.idx (some 2))] [3,4,7,8] (st' := ⟨[(3,yf10),(4,yf8),(7,yf9),(8,(dB true))],(yf14 ws xs k w)⟩)
    (p := callOb Try.prog 34 (yf27 ws xs k w) [] none false (.v (.mp othersM))∧True∧((11 : Int) = 11∧∀ e' ∈ othersM.take 2,(11 : Int) ≠ e'.1)∧True∧True∧True∧True∧True∧True) (by kernel_rfl)
    ⟨others_ok,oK,(by decide),oK,oK,oK,oK,oK,oK⟩ ?_
  refine Ev.seq ?_
  refine Ev.seq ?_
  refine Ev.reg [(8,.val (dB false)),(13,.call none false (yf24 ws)),(14,.val (dB false))] [3,4,7,38] (st' := ⟨[(3,yf10),(4,yf8),(7,yf9),(38,(dB false))],(yf14 ws xs k w)⟩)
    (p := T8 ((True∧(((ws.length : Nat) : Int) != 2) = false)∧T4 (callOb Try.prog 35 (yf14 ws xs k w) (yf25 ws) none false (yf24 ws)∧(True∧(!(ws.all fitsF)) = false)∧True))) (by kernel_rfl)
    ⟨oK,oK,oK,oK,oK,oK,oK,oK,⟨oK,(by rw [h1]; rfl)⟩,oK,oK,oK,oK,(contains_ok _ (by first | omega | (simp; first | done | omega))),⟨oK,(by rw [h2]; rfl)⟩,oK⟩ ?_
  refine Ev.cond false rfl (fun h => (by cases h)) (fun _ => ?_)
  refine Ev.skip ?_
  refine Ev.seq ?_
  refine Ev.reg [(3,.call none false (i6 (ws.getD 0 0 + ws.getD 1 0))),(4,.val (yf19 ws k w))] [4,7,9] (st' := ⟨[(4,yf8),(7,yf9),(9,(yf19 ws k w))],(yf14 ws xs k w)⟩)
    (p := T3 (callOb Try.prog 56 (yf14 ws xs k w) [(yf17 ws xs k w)] none false (i6 (ws.getD 0 0 + ws.getD 1 0))∧(True∧(ws.getD 0 0 + ws.getD 1 0) = (wvF 11 ws k w))∧True)) (by kernel_rfl)
    ⟨oK,oK,oK,(wcat_ok _ _ _ _ (by omega) (by assumption)),⟨oK,(by first | rfl | simp [wvF])⟩,oK⟩ ?_
  refine Ev.seq ?_
  refine Ev.any [(3,.call none false (yf29 ws k w)),(6,.val (dB true))] [((bm 7 0),(zg_11_1_0 ws xs k w)),((bm 7 1),(zg_11_1_1 ws xs k w)),((bm 7 2),(zg_11_1_2 ws xs k w)),((bm 7 4),(zg_11_1_3 ws xs k w)),((bm 7 3),(zg_11_1_4 ws xs k w)),((bm 7 5),(zg_11_1_5 ws xs k w)),((bm 7 6),(zg_11_1_6 ws xs k w)),((bm 7 12),(zg_11_1_7 ws xs k w)),((bm 7 7),(zg_11_1_8 ws xs k w)),((bm 7 13),(zg_11_1_9 ws xs k w)),((bm 7 14),(zg_11_1_10 ws xs k w)),((bm 7 15),(zg_11_1_11 ws xs k w)),((bm 7 29),(zg_11_1_12 ws xs k w)),((bm 7 31),(zg_11_1_13 ws xs k w)),((bm 7 63),(zg_11_1_14 ws xs k w)),((bm 7 127),(zg_11_1_15 ws xs k w))] (st0 := (zg_11_1_0 ws xs k w)) (st' := ⟨[(4,yf8),(5,(yf19 ws k w)),(6,(dB true))],(yf37 ws xs k w)⟩)
    (p := ((sE (zg_11_1_1 ws xs k w) (True))∧(sE (zg_11_1_2 ws xs k w) (True))∧(sE (zg_11_1_3 ws xs k w) (True))∧True)∧((sE (zg_11_1_4 ws xs k w) (True))∧(sE (zg_11_1_5 ws xs k w) (True))∧True)∧((sE (zg_11_1_4 ws xs k w) (True))∧(sE (zg_11_1_6 ws xs k w) (True))∧True)∧((sE (zg_11_1_5 ws xs k w) (True))∧(sE (zg_11_1_6 ws xs k w) (True))∧(sE (zg_11_1_7 ws xs k w) (callOb Try.prog 37 (yf14 ws xs k w) [(yf19 ws k w)] none false (yf29 ws k w)))∧True)∧((sE (zg_11_1_8 ws xs k w) (True))∧True)∧((sE (zg_11_1_8 ws xs k w) (True))∧(sE (zg_11_1_9 ws xs k w) (callOb Try.prog 37 (yf14 ws xs k w) [(yf19 ws k w)] none false (yf29 ws k w)))∧True)∧((sE (zg_11_1_8 ws xs k w) (True))∧(sE (zg_11_1_10 ws xs k w) (callOb Try.prog 37 (yf14 ws xs k w) [(yf19 ws k w)] none false (yf29 ws k w)))∧True)∧((sE (zg_11_1_9 ws xs k w) (True))∧(sE (zg_11_1_10 ws xs k w) (True))∧True)∧((sE (zg_11_1_11 ws xs k w) (callOb Try.prog 37 (yf14 ws xs k w) [(yf19 ws k w)] none false (yf29 ws k w)))∧True)∧((sE (zg_11_1_11 ws xs k w) (True))∧(sE (zg_11_1_12 ws xs k w) (True))∧True)∧((sE (zg_11_1_11 ws xs k w) (True))∧True)∧((sE (zg_11_1_13 ws xs k w) (True))∧True)∧((sE (zg_11_1_13 ws xs k w) (True))∧True)∧((sE (zg_11_1_14 ws xs k w) (True))∧True)∧((sE (zg_11_1_15 ws xs k w) ((True∧(fitsF (wvF 11 ws k w)) = true)))∧True)∧True∧True) (by kernel_rfl) (by kernel_rfl) (by kernel_rfl) (by kernel_rfl) (by kernel_rfl) (by kernel_rfl)
    ⟨⟨⟨rfl,oK,oK⟩,⟨rfl,oK,oK⟩,⟨rfl,oK,oK⟩,oK⟩,⟨⟨rfl,oK,oK⟩,⟨rfl,oK,oK⟩,oK⟩,⟨⟨rfl,oK,oK⟩,⟨rfl,oK,oK⟩,oK⟩,⟨⟨rfl,oK,oK⟩,⟨rfl,oK,oK⟩,⟨rfl,(fits_ok _),oK⟩,oK⟩,⟨⟨rfl,oK,oK⟩,oK⟩,⟨⟨rfl,oK,oK⟩,⟨rfl,(fits_ok _),oK⟩,oK⟩,⟨⟨rfl,oK,oK⟩,⟨rfl,(fits_ok _),oK⟩,oK⟩,⟨⟨rfl,oK,oK⟩,⟨rfl,oK,oK⟩,oK⟩,⟨⟨rfl,(fits_ok _),oK⟩,oK⟩,⟨⟨rfl,oK,oK⟩,⟨rfl,oK,oK⟩,oK⟩,⟨⟨rfl,oK,oK⟩,oK⟩,⟨⟨rfl,oK,oK⟩,oK⟩,⟨⟨rfl,oK,oK⟩,oK⟩,⟨⟨rfl,oK,oK⟩,oK⟩,⟨⟨rfl,⟨oK,(by first | exact h3 | simpa [wvF] using h3)⟩,oK⟩,oK⟩,oK,oK⟩ ?_
  refine Ev.ret ?_
  refine ⟨⟨oK,oK,oK,oK⟩,(?_ : ((2 : Int) = 2∧((.fn (.func 56) [] []) : D) = (.fn (.func 56) [] [])∧((.fn (.func 57) [] []) : D) = (.fn (.func 57) [] [])∧True)∧(wvF 11 ws k w) = (wvF 11 ws k w)∧true = true∧True),.inl rfl⟩
  exact ⟨⟨rfl,rfl,rfl,oK⟩,rfl,rfl,oK⟩

set_option maxRecDepth 100000 in
theorem width_bad_11 (ws xs : List Int) (k w : Int) (hw : ws.length ≤ 9223372036854775807) (h : okB 11 ws = false) : CallOk Try.prog 27 [(i6 11),(yf17 ws xs k w)] [] true yf26 [] := by
  refine CallOk.of_ev Try.func27 rfl rfl rfl ?_
  rintro ⟨_,W,S0,_,susp,_⟩ rfl rfl rfl
  refine Ev.seq ?_
  refine Ev.reg [] [0,3,4] (st' := ⟨[(0,(i6 11)),(3,yf10),(4,yf8)],(yf47 ws xs k w)⟩)
    (p := T4 True) (by kernel_rfl)
    ⟨oK,oK,oK,oK,oK⟩ ?_
  refine Ev.seq ?_
  refine Ev.reg [(0,.call none false (.v (.mp simpleM))),(2,.idx none)] [0,3,4,7,8] (st' := ⟨yf49,(yf27 ws xs k w)⟩)
    (p := callOb Try.prog 33 (yf47 ws xs k w) [] none false (.v (.mp simpleM))∧True∧(∀ e' ∈ simpleM,11 ≠ e'.1)∧True∧True∧True∧True∧True∧True∧True) (by kernel_rfl)
    ⟨simple_ok,oK,(by decide),oK,oK,oK,oK,oK,oK,oK⟩ ?_
  refine Ev.seq ?_
  refine Ev.seq ?_
  refine Ev.reg [] [0,3,4,7,8,17] (st' := ⟨yf42,(yf27 ws xs k w)⟩)
    (p := T2 True) (by kernel_rfl)
    ⟨oK,oK,oK⟩ ?_
  refine Ev.cond true rfl (fun _ => ?_) (fun h => (by cases h))
  refine Ev.reg [(0,.call none false (.v (.mp othersM))),(2,.idx (some 2))] [3,4,7,8] (st' := ⟨[(3,yf10),(4,yf8),(7,yf9),(8,(dB true))],(yf14 ws xs k w)⟩)
    (p := callOb Try.prog 34 (yf27 ws xs k w) [] none false (.v (.mp othersM))∧True∧((11 : Int) = 11∧∀ e' ∈ othersM.take 2,(11 : Int) ≠ e'.1)∧True∧True∧True∧True∧True∧True) (by kernel_rfl)
    ⟨others_ok,oK,(by decide),oK,oK,oK,oK,oK,oK⟩ ?_
  refine Ev.seq ?_
  refine Ev.seq ?_
  rcases okB_no h with h1 | ⟨h1,h2⟩
  · skip
    have hA : arityF 11 = 2 := by decide
    rw [hA] at h1
    refine Ev.reg [(8,.val (dB true))] [3,4,7,38] (st' := ⟨[(3,yf10),(4,yf8),(7,yf9),(38,(dB true))],(yf14 ws xs k w)⟩)
      (p := T8 ((True∧(((ws.length : Nat) : Int) != 2) = true)∧T6 True)) (by kernel_rfl)
      ⟨oK,oK,oK,oK,oK,oK,oK,oK,⟨oK,(by exact bne_iff_ne.2 (by omega))⟩,oK,oK,oK,oK,oK,oK,oK⟩ ?_
    refine Ev.cond true rfl (fun _ => ?_) (fun h => (by cases h))
    refine Ev.seq ?_
    refine Ev.reg [] [4,5,6] (st' := ⟨[(4,yf8),(5,(i6 0)),(6,(dB false))],(yf14 ws xs k w)⟩)
      (p := T4 True) (by kernel_rfl)
      ⟨oK,oK,oK,oK,oK⟩ ?_
    refine Ev.ret ?_
    refine ⟨⟨oK,oK,oK,oK⟩,(?_ : ((0 : Int) = 0∧True∧True∧True)∧(0 : Int) = 0∧false = false∧True),.inl rfl⟩
    exact ⟨⟨rfl,oK,oK,oK⟩,rfl,rfl,oK⟩
  · skip
    have hA : arityF 11 = 2 := by decide
    rw [hA] at h1
    refine Ev.reg [(8,.val (dB false)),(13,.call none false (yf24 ws)),(14,.val (dB true))] [3,4,7,38] (st' := ⟨[(3,yf10),(4,yf8),(7,yf9),(38,(dB true))],(yf14 ws xs k w)⟩)
      (p := T8 ((True∧(((ws.length : Nat) : Int) != 2) = false)∧T4 (callOb Try.prog 35 (yf14 ws xs k w) (yf25 ws) none false (yf24 ws)∧(True∧(!(ws.all fitsF)) = true)∧True))) (by kernel_rfl)
      ⟨oK,oK,oK,oK,oK,oK,oK,oK,⟨oK,(by rw [h1]; rfl)⟩,oK,oK,oK,oK,(contains_ok _ (by first | omega | (simp; first | done | omega))),⟨oK,(by rw [h2]; rfl)⟩,oK⟩ ?_
    refine Ev.cond true rfl (fun _ => ?_) (fun h => (by cases h))
    refine Ev.seq ?_
    refine Ev.reg [] [4,5,6] (st' := ⟨[(4,yf8),(5,(i6 0)),(6,(dB false))],(yf14 ws xs k w)⟩)
      (p := T4 True) (by kernel_rfl)
      ⟨oK,oK,oK,oK,oK⟩ ?_
    refine Ev.ret ?_
    refine ⟨⟨oK,oK,oK,oK⟩,(?_ : ((0 : Int) = 0∧True∧True∧True)∧(0 : Int) = 0∧false = false∧True),.inl rfl⟩
    exact ⟨⟨rfl,oK,oK,oK⟩,rfl,rfl,oK⟩

def zwv_11_1_0 (ws xs : List Int) (k w : Int) : St := ⟨[(4,yf8),(7,yf9),(9,(yf19 ws k w))],(yf14 ws xs k w)⟩
def zwv_11_1_1 (ws xs : List Int) (k w : Int) : St := ⟨[(4,yf8),(7,yf9),(9,(yf19 ws k w)),(44,(.agg yf5))],(yf14 ws xs k w)⟩
def zwv_11_1_2 (ws xs : List Int) (k w : Int) : St := ⟨[(4,yf8),(7,yf9),(9,(yf19 ws k w)),(45,(yf19 ws k w))],(yf14 ws xs k w)⟩
def zwv_11_1_3 (ws xs : List Int) (k w : Int) : St := ⟨[(4,yf8),(7,yf9),(9,(yf19 ws k w)),(46,(yf19 ws k w))],(yf14 ws xs k w)⟩
def zwv_11_1_4 (ws xs : List Int) (k w : Int) : St := ⟨[(4,yf8),(7,yf9),(9,(yf19 ws k w)),(44,(.agg yf5)),(45,(yf19 ws k w))],(yf14 ws xs k w)⟩
def zwv_11_1_5 (ws xs : List Int) (k w : Int) : St := ⟨[(4,yf8),(7,yf9),(9,(yf19 ws k w)),(44,(.agg yf5)),(46,(yf19 ws k w))],(yf14 ws xs k w)⟩
def zwv_11_1_6 (ws xs : List Int) (k w : Int) : St := ⟨[(4,yf8),(7,yf9),(9,(yf19 ws k w)),(45,(yf19 ws k w)),(46,(yf19 ws k w))],(yf14 ws xs k w)⟩
def zwv_11_1_7 (ws xs : List Int) (k w : Int) : St := ⟨[(4,yf8),(7,yf9),(9,(yf19 ws k w)),(46,(yf19 ws k w)),(47,(yf29 ws k w))],(yf14 ws xs k w)⟩
def zwv_11_1_8 (ws xs : List Int) (k w : Int) : St := ⟨[(4,yf8),(7,yf9),(9,(yf19 ws k w)),(44,(.agg yf5)),(45,(yf19 ws k w)),(46,(yf19 ws k w))],(yf14 ws xs k w)⟩
def zwv_11_1_9 (ws xs : List Int) (k w : Int) : St := ⟨[(4,yf8),(7,yf9),(9,(yf19 ws k w)),(44,(.agg yf5)),(46,(yf19 ws k w)),(47,(yf29 ws k w))],(yf14 ws xs k w)⟩
def zwv_11_1_10 (ws xs : List Int) (k w : Int) : St := ⟨[(4,yf8),(7,yf9),(9,(yf19 ws k w)),(45,(yf19 ws k w)),(46,(yf19 ws k w)),(47,(yf29 ws k w))],(yf14 ws xs k w)⟩
def zwv_11_1_11 (ws xs : List Int) (k w : Int) : St := ⟨[(4,yf8),(7,yf9),(9,(yf19 ws k w)),(44,(.agg yf5)),(45,(yf19 ws k w)),(46,(yf19 ws k w)),(47,(yf29 ws k w))],(yf14 ws xs k w)⟩
def zwv_11_1_12 (ws xs : List Int) (k w : Int) : St := ⟨[(4,yf8),(7,yf9),(9,(yf19 ws k w)),(44,(.agg yf5)),(46,(yf19 ws k w)),(47,(yf29 ws k w))],(yf37 ws xs k w)⟩
def zwv_11_1_13 (ws xs : List Int) (k w : Int) : St := ⟨[(4,yf8),(7,yf9),(9,(yf19 ws k w)),(44,(.agg yf5)),(45,(yf19 ws k w)),(46,(yf19 ws k w)),(47,(yf29 ws k w))],(yf37 ws xs k w)⟩
def zwv_11_1_14 (ws xs : List Int) (k w : Int) : St := ⟨[(4,yf8),(5,(yf19 ws k w)),(7,yf9),(9,(yf19 ws k w)),(44,(.agg yf5)),(45,(yf19 ws k w)),(46,(yf19 ws k w)),(47,(yf29 ws k w))],(yf37 ws xs k w)⟩
def zwv_11_1_15 (ws xs : List Int) (k w : Int) : St := ⟨[(4,yf8),(5,(yf19 ws k w)),(6,(dB false))],(yf37 ws xs k w)⟩
set_option maxRecDepth 100000 in
theorem width_wv_11 (ws xs : List Int) (k w : Int) (hw : ws.length ≤ 9223372036854775807) (h : okB 11 ws = true) (h3 : fitsF (wvF 11 ws k w) = false) : CallOk Try.prog 27 [(i6 11),(yf17 ws xs k w)] [] true (.tup [(.agg yf5),(yf19 ws k w),(dB false)]) [] := by
  refine CallOk.of_ev Try.func27 rfl rfl rfl ?_
  rintro ⟨_,W,S0,_,susp,_⟩ rfl rfl rfl
  obtain ⟨h1,h2⟩ := okB_yes h
  have hA : arityF 11 = 2 := by decide
  rw [hA] at h1
  refine Ev.seq ?_
  refine Ev.reg [] [0,3,4] (st' := ⟨[(0,(i6 11)),(3,yf10),(4,yf8)],(yf47 ws xs k w)⟩)
    (p := T4 True) (by kernel_rfl)
    ⟨oK,oK,oK,oK,oK⟩ ?_
  refine Ev.seq ?_
  refine Ev.reg [(0,.call none false (.v (.mp simpleM))),(2,.idx none)] [0,3,4,7,8] (st' := ⟨yf49,(yf27 ws xs k w)⟩)
    (p := callOb Try.prog 33 (yf47 ws xs k w) [] none false (.v (.mp simpleM))∧True∧(∀ e' ∈ simpleM,11 ≠ e'.1)∧True∧True∧True∧True∧True∧True∧True) (by kernel_rfl)
    ⟨simple_ok,oK,(by decide),oK,oK,oK,oK,oK,oK,oK⟩ ?_
  refine Ev.seq ?_
  refine Ev.seq ?_
  refine Ev.reg [] [0,3,4,7,8,17] (st' := ⟨yf42,(yf27 ws xs k w)⟩)
    (p := T2 True) (by kernel_rfl)
    ⟨oK,oK,oK⟩ ?_
  refine Ev.cond true rfl (fun _ => ?_) (fun h => (by cases h))
  refine Ev.reg [(0,.call none false (.v (.mp othersM))),(2,.idx (some 2))] [3,4,7,8] (st' := ⟨[(3,yf10),(4,yf8),(7,yf9),(8,(dB true))],(yf14 ws xs k w)⟩)
    (p := callOb Try.prog 34 (yf27 ws xs k w) [] none false (.v (.mp othersM))∧True∧((11 : Int) = 11∧∀ e' ∈ othersM.take 2,(11 : Int) ≠ e'.1)∧True∧True∧True∧True∧True∧True) (by kernel_rfl)
    ⟨others_ok,oK,(by decide),oK,oK,oK,oK,oK,oK⟩ ?_
  refine Ev.seq ?_
  refine Ev.seq ?_
  refine Ev.reg [(8,.val (dB false)),(13,.call none false (yf24 ws)),(14,.val (dB false))] [3,4,7,38] (st' := ⟨[(3,yf10),(4,yf8),(7,yf9),(38,(dB false))],(yf14 ws xs k w)⟩)
    (p := T8 ((True∧(((ws.length : Nat) : Int) != 2) = false)∧T4 (callOb Try.prog 35 (yf14 ws xs k w) (yf25 ws) none false (yf24 ws)∧(True∧(!(ws.all fitsF)) = false)∧True))) (by kernel_rfl)
    ⟨oK,oK,oK,oK,oK,oK,oK,oK,⟨oK,(by rw [h1]; rfl)⟩,oK,oK,oK,oK,(contains_ok _ (by first | omega | (simp; first | done | omega))),⟨oK,(by rw [h2]; rfl)⟩,oK⟩ ?_
  refine Ev.cond false rfl (fun h => (by cases h)) (fun _ => ?_)
  refine Ev.skip ?_
  refine Ev.seq ?_
  refine Ev.reg [(3,.call none false (i6 (ws.getD 0 0 + ws.getD 1 0))),(4,.val (yf19 ws k w))] [4,7,9] (st' := ⟨[(4,yf8),(7,yf9),(9,(yf19 ws k w))],(yf14 ws xs k w)⟩)
    (p := T3 (callOb Try.prog 56 (yf14 ws xs k w) [(yf17 ws xs k w)] none false (i6 (ws.getD 0 0 + ws.getD 1 0))∧(True∧(ws.getD 0 0 + ws.getD 1 0) = (wvF 11 ws k w))∧True)) (by kernel_rfl)
    ⟨oK,oK,oK,(wcat_ok _ _ _ _ (by omega) (by assumption)),⟨oK,(by first | rfl | simp [wvF])⟩,oK⟩ ?_
  refine Ev.seq ?_
  refine Ev.any [(3,.call none false (yf29 ws k w)),(6,.val (dB false))] [((bm 7 0),(zwv_11_1_0 ws xs k w)),((bm 7 1),(zwv_11_1_1 ws xs k w)),((bm 7 2),(zwv_11_1_2 ws xs k w)),((bm 7 4),(zwv_11_1_3 ws xs k w)),((bm 7 3),(zwv_11_1_4 ws xs k w)),((bm 7 5),(zwv_11_1_5 ws xs k w)),((bm 7 6),(zwv_11_1_6 ws xs k w)),((bm 7 12),(zwv_11_1_7 ws xs k w)),((bm 7 7),(zwv_11_1_8 ws xs k w)),((bm 7 13),(zwv_11_1_9 ws xs k w)),((bm 7 14),(zwv_11_1_10 ws xs k w)),((bm 7 15),(zwv_11_1_11 ws xs k w)),((bm 7 29),(zwv_11_1_12 ws xs k w)),((bm 7 31),(zwv_11_1_13 ws xs k w)),((bm 7 63),(zwv_11_1_14 ws xs k w)),((bm 7 127),(zwv_11_1_15 ws xs k w))] (st0 := (zwv_11_1_0 ws xs k w)) (st' := ⟨[(4,yf8),(5,(yf19 ws k w)),(6,(dB false))],(yf37 ws xs k w)⟩)
    (p := ((sE (zwv_11_1_1 ws xs k w) (True))∧(sE (zwv_11_1_2 ws xs k w) (True))∧(sE (zwv_11_1_3 ws xs k w) (True))∧True)∧((sE (zwv_11_1_4 ws xs k w) (True))∧(sE (zwv_11_1_5 ws xs k w) (True))∧True)∧((sE (zwv_11_1_4 ws xs k w) (True))∧(sE (zwv_11_1_6 ws xs k w) (True))∧True)∧((sE (zwv_11_1_5 ws xs k w) (True))∧(sE (zwv_11_1_6 ws xs k w) (True))∧(sE (zwv_11_1_7 ws xs k w) (callOb Try.prog 37 (yf14 ws xs k w) [(yf19 ws k w)] none false (yf29 ws k w)))∧True)∧((sE (zwv_11_1_8 ws xs k w) (True))∧True)∧((sE (zwv_11_1_8 ws xs k w) (True))∧(sE (zwv_11_1_9 ws xs k w) (callOb Try.prog 37 (yf14 ws xs k w) [(yf19 ws k w)] none false (yf29 ws k w)))∧True)∧((sE (zwv_11_1_8 ws xs k w) (True))∧(sE (zwv_11_1_10 ws xs k w) (callOb Try.prog 37 (yf14 ws xs k w) [(yf19 ws k w)] none false (yf29 ws k w)))∧True)∧((sE (zwv_11_1_9 ws xs k w) (True))∧(sE (zwv_11_1_10 ws xs k w) (True))∧True)∧((sE (zwv_11_1_11 ws xs k w) (callOb Try.prog 37 (yf14 ws xs k w) [(yf19 ws k w)] none false (yf29 ws k w)))∧True)∧((sE (zwv_11_1_11 ws xs k w) (True))∧(sE (zwv_11_1_12 ws xs k w) (True))∧True)∧((sE (zwv_11_1_11 ws xs k w) (True))∧True)∧((sE (zwv_11_1_13 ws xs k w) (True))∧True)∧((sE (zwv_11_1_13 ws xs k w) (True))∧True)∧((sE (zwv_11_1_14 ws xs k w) (True))∧True)∧((sE (zwv_11_1_15 ws xs k w) ((True∧(fitsF (wvF 11 ws k w)) = false)))∧True)∧True∧True) (by kernel_rfl) (by kernel_rfl) (by kernel_rfl) (by kernel_rfl) (by kernel_rfl) (by kernel_rfl)
    ⟨⟨⟨rfl,oK,oK⟩,⟨rfl,oK,oK⟩,⟨rfl,oK,oK⟩,oK⟩,⟨⟨rfl,oK,oK⟩,⟨rfl,oK,oK⟩,oK⟩,⟨⟨rfl,oK,oK⟩,⟨rfl,oK,oK⟩,oK⟩,⟨⟨rfl,oK,oK⟩,⟨rfl,oK,oK⟩,⟨rfl,(fits_ok _),oK⟩,oK⟩,⟨⟨rfl,oK,oK⟩,oK⟩,⟨⟨rfl,oK,oK⟩,⟨rfl,(fits_ok _),oK⟩,oK⟩,⟨⟨rfl,oK,oK⟩,⟨rfl,(fits_ok _),oK⟩,oK⟩,⟨⟨rfl,oK,oK⟩,⟨rfl,oK,oK⟩,oK⟩,⟨⟨rfl,(fits_ok _),oK⟩,oK⟩,⟨⟨rfl,oK,oK⟩,⟨rfl,oK,oK⟩,oK⟩,⟨⟨rfl,oK,oK⟩,oK⟩,⟨⟨rfl,oK,oK⟩,oK⟩,⟨⟨rfl,oK,oK⟩,oK⟩,⟨⟨rfl,oK,oK⟩,oK⟩,⟨⟨rfl,⟨oK,(by first | exact h3 | simpa [wvF] using h3)⟩,oK⟩,oK⟩,oK,oK⟩ ?_
  refine Ev.ret ?_
  refine ⟨⟨oK,oK,oK,oK⟩,(?_ : ((2 : Int) = 2∧((.fn (.func 56) [] []) : D) = (.fn (.func 56) [] [])∧((.fn (.func 57) [] []) : D) = (.fn (.func 57) [] [])∧True)∧(wvF 11 ws k w) = (wvF 11 ws k w)∧false = false∧True),.inl rfl⟩
  exact ⟨⟨rfl,rfl,rfl,oK⟩,rfl,rfl,oK⟩

def zg_12_1_0 (ws xs : List Int) (k w : Int) : St := ⟨[(4,yf8),(7,yf9),(9,(yf20 ws k w))],(yf15 ws xs k w)⟩
def zg_12_1_1 (ws xs : List Int) (k w : Int) : St := ⟨[(4,yf8),(7,yf9),(9,(yf20 ws k w)),(44,(.agg yf6))],(yf15 ws xs k w)⟩
def zg_12_1_2 (ws xs : List Int) (k w : Int) : St := ⟨[(4,yf8),(7,yf9),(9,(yf20 ws k w)),(45,(yf20 ws k w))],(yf15 ws xs k w)⟩
def zg_12_1_3 (ws xs : List Int) (k w : Int) : St := ⟨[(4,yf8),(7,yf9),(9,(yf20 ws k w)),(46,(yf20 ws k w))],(yf15 ws xs k w)⟩
def zg_12_1_4 (ws xs : List Int) (k w : Int) : St := ⟨[(4,yf8),(7,yf9),(9,(yf20 ws k w)),(44,(.agg yf6)),(45,(yf20 ws k w))],(yf15 ws xs k w)⟩
def zg_12_1_5 (ws xs : List Int) (k w : Int) : St := ⟨[(4,yf8),(7,yf9),(9,(yf20 ws k w)),(44,(.agg yf6)),(46,(yf20 ws k w))],(yf15 ws xs k w)⟩
def zg_12_1_6 (ws xs : List Int) (k w : Int) : St := ⟨[(4,yf8),(7,yf9),(9,(yf20 ws k w)),(45,(yf20 ws k w)),(46,(yf20 ws k w))],(yf15 ws xs k w)⟩
def zg_12_1_7 (ws xs : List Int) (k w : Int) : St := ⟨[(4,yf8),(7,yf9),(9,(yf20 ws k w)),(46,(yf20 ws k w)),(47,(yf30 ws k w))],(yf15 ws xs k w)⟩
def zg_12_1_8 (ws xs : List Int) (k w : Int) : St := ⟨[(4,yf8),(7,yf9),(9,(yf20 ws k w)),(44,(.agg yf6)),(45,(yf20 ws k w)),(46,(yf20 ws k w))],(yf15 ws xs k w)⟩
def zg_12_1_9 (ws xs : List Int) (k w : Int) : St := ⟨[(4,yf8),(7,yf9),(9,(yf20 ws k w)),(44,(.agg yf6)),(46,(yf20 ws k w)),(47,(yf30 ws k w))],(yf15 ws xs k w)⟩
def zg_12_1_10 (ws xs : List Int) (k w : Int) : St := ⟨[(4,yf8),(7,yf9),(9,(yf20 ws k w)),(45,(yf20 ws k w)),(46,(yf20 ws k w)),(47,(yf30 ws k w))],(yf15 ws xs k w)⟩
def zg_12_1_11 (ws xs : List Int) (k w : Int) : St := ⟨[(4,yf8),(7,yf9),(9,(yf20 ws k w)),(44,(.agg yf6)),(45,(yf20 ws k w)),(46,(yf20 ws k w)),(47,(yf30 ws k w))],(yf15 ws xs k w)⟩
def zg_12_1_12 (ws xs : List Int) (k w : Int) : St := ⟨[(4,yf8),(7,yf9),(9,(yf20 ws k w)),(44,(.agg yf6)),(46,(yf20 ws k w)),(47,(yf30 ws k w))],(yf38 ws xs k w)⟩
def zg_12_1_13 (ws xs : List Int) (k w : Int) : St := ⟨[(4,yf8),(7,yf9),(9,(yf20 ws k w)),(44,(.agg yf6)),(45,(yf20 ws k w)),(46,(yf20 ws k w)),(47,(yf30 ws k w))],(yf38 ws xs k w)⟩
def zg_12_1_14 (ws xs : List Int) (k w : Int) : St := ⟨[(4,yf8),(5,(yf20 ws k w)),(7,yf9),(9,(yf20 ws k w)),(44,(.agg yf6)),(45,(yf20 ws k w)),(46,(yf20 ws k w)),(47,(yf30 ws k w))],(yf38 ws xs k w)⟩
def zg_12_1_15 (ws xs : List Int) (k w : Int) : St := ⟨[(4,yf8),(5,(yf20 ws k w)),(6,(dB true))],(yf38 ws xs k w)⟩
set_option maxRecDepth 100000 in
theorem width_good_12 (ws xs : List Int) (k w : Int) (hw : ws.length ≤ 9223372036854775807) (h : okF 12 ws k w = true) : CallOk Try.prog 27 [(i6 12),(yf17 ws xs k w)] [] true (.tup [(.agg yf6),(yf20 ws k w),(dB true)]) [] := by
  refine CallOk.of_ev Try.func27 rfl rfl rfl ?_
  rintro ⟨_,W,S0,_,susp,_⟩ rfl rfl rfl
  obtain ⟨h1,h2,h3⟩ := ok_yes h
  have hA : arityF 12 = 1 := by decide
  rw [hA] at h1
  refine Ev.seq ?_
  refine Ev.reg [] [0,3,4] (st' := ⟨[(0,(i6 12)),(3,yf10),(4,yf8)],(yf47 ws xs k w)⟩)
    (p := T4 True) (by kernel_rfl)
    ⟨oK,oK,oK,oK,oK⟩ ?_
  refine Ev.seq ?_
  refine Ev.reg [(0,.call none false (.v (.mp simpleM))),(2,.idx none)] [0,3,4,7,8] (st' := ⟨yf50,(yf27 ws xs k w)⟩)
    (p := callOb Try.prog 33 (yf47 ws xs k w) [] none false (.v (.mp simpleM))∧True∧(∀ e' ∈ simpleM,12 ≠ e'.1)∧True∧True∧True∧True∧True∧True∧True) (by kernel_rfl)
    ⟨simple_ok,oK,(by decide),oK,oK,oK,oK,oK,oK,oK⟩ ?_
  refine Ev.seq ?_
  refine Ev.seq ?_
  refine Ev.reg [] [0,3,4,7,8,17] (st' := ⟨yf43,(yf27 ws xs k w)⟩)
    (p := T2 True) (by kernel_rfl)
    ⟨oK,oK,oK⟩ ?_
  refine Ev.cond true rfl (fun _ => ?_) (fun h => (by cases h))
  refine Ev.reg [(0,.call none false (.v (.mp othersM))),(2,.idx (some 3))] [3,4,7,8] (st' := ⟨[(3,yf10),(4,yf8),(7,yf9),(8,(dB true))],(yf15 ws xs k w)⟩)
    (p := callOb Try.prog 34 (yf27 ws xs k w) [] none false (.v (.mp othersM))∧True∧((12 : Int) = 12∧∀ e' ∈ othersM.take 3,(12 : Int) ≠ e'.1)∧True∧True∧True∧True∧True∧True) (by kernel_rfl)
    ⟨others_ok,oK,(by decide),oK,oK,oK,oK,oK,oK⟩ ?_
  refine Ev.seq ?_
  refine Ev.seq ?_
  refine Ev.reg [(8,.val (dB false)),(13,.call none false (yf24 ws)),(14,.val (dB false))] [3,4,7,38] (st' := ⟨[(3,yf10),(4,yf8),(7,yf9),(38,(dB false))],(yf15 ws xs k w)⟩)
    (p := T8 ((True∧(((ws.length : Nat) : Int) != 1) = false)∧T4 (callOb Try.prog 35 (yf15 ws xs k w) (yf25 ws) none false (yf24 ws)∧(True∧(!(ws.all fitsF)) = false)∧True))) (by kernel_rfl)
    ⟨oK,oK,oK,oK,oK,oK,oK,oK,⟨oK,(by rw [h1]; rfl)⟩,oK,oK,oK,oK,(contains_ok _ (by first | omega | (simp; first | done | omega))),⟨oK,(by rw [h2]; rfl)⟩,oK⟩ ?_
  refine Ev.cond false rfl (fun h => (by cases h)) (fun _ => ?_)
  refine Ev.skip ?_
  refine Ev.seq ?_
  refine Ev.reg [(3,.call none false (i6 (if fitsF w = false ∨ k < 0 ∨ ws.getD 0 0 - w < k then 0 else w))),(4,.val (yf20 ws k w))] [4,7,9] (st' := ⟨[(4,yf8),(7,yf9),(9,(yf20 ws k w))],(yf15 ws xs k w)⟩)
    (p := T3 ((callOb Try.prog 58 (yf15 ws xs k w) [(yf17 ws xs k w)] none false (i6 (if fitsF w = false ∨ k < 0 ∨ ws.getD 0 0 - w < k then 0 else w)))∧(True∧((if fitsF w = false ∨ k < 0 ∨ ws.getD 0 0 - w < k then 0 else w) = (wvF 12 ws k w)))∧True)) (by kernel_rfl)
    ⟨oK,oK,oK,(wslice_ok _ _ _ _ (by omega) (by assumption)),⟨oK,(by first | rfl | simp [wvF])⟩,oK⟩ ?_
  refine Ev.seq ?_
  refine Ev.any [(3,.call none false (yf30 ws k w)),(6,.val (dB true))] [((bm 7 0),(zg_12_1_0 ws xs k w)),((bm 7 1),(zg_12_1_1 ws xs k w)),((bm 7 2),(zg_12_1_2 ws xs k w)),((bm 7 4),(zg_12_1_3 ws xs k w)),((bm 7 3),(zg_12_1_4 ws xs k w)),((bm 7 5),(zg_12_1_5 ws xs k w)),((bm 7 6),(zg_12_1_6 ws xs k w)),((bm 7 12),(zg_12_1_7 ws xs k w)),((bm 7 7),(zg_12_1_8 ws xs k w)),((bm 7 13),(zg_12_1_9 ws xs k w)),((bm 7 14),(zg_12_1_10 ws xs k w)),((bm 7 15),(zg_12_1_11 ws xs k w)),((bm 7 29),(zg_12_1_12 ws xs k w)),((bm 7 31),(zg_12_1_13 ws xs k w)),((bm 7 63),(zg_12_1_14 ws xs k w)),((bm 7 127),(zg_12_1_15 ws xs k w))] (st0 := (zg_12_1_0 ws xs k w)) (st' := ⟨[(4,yf8),(5,(yf20 ws k w)),(6,(dB true))],(yf38 ws xs k w)⟩)
    (p := ((sE (zg_12_1_1 ws xs k w) (True))∧(sE (zg_12_1_2 ws xs k w) (True))∧(sE (zg_12_1_3 ws xs k w) (True))∧True)∧((sE (zg_12_1_4 ws xs k w) (True))∧(sE (zg_12_1_5 ws xs k w) (True))∧True)∧((sE (zg_12_1_4 ws xs k w) (True))∧(sE (zg_12_1_6 ws xs k w) (True))∧True)∧((sE (zg_12_1_5 ws xs k w) (True))∧(sE (zg_12_1_6 ws xs k w) (True))∧(sE (zg_12_1_7 ws xs k w) (callOb Try.prog 37 (yf15 ws xs k w) [(yf20 ws k w)] none false (yf30 ws k w)))∧True)∧((sE (zg_12_1_8 ws xs k w) (True))∧True)∧((sE (zg_12_1_8 ws xs k w) (True))∧(sE (zg_12_1_9 ws xs k w) (callOb Try.prog 37 (yf15 ws xs k w) [(yf20 ws k w)] none false (yf30 ws k w)))∧True)∧((sE (zg_12_1_8 ws xs k w) (True))∧(sE (zg_12_1_10 ws xs k w) (callOb Try.prog 37 (yf15 ws xs k w) [(yf20 ws k w)] none false (yf30 ws k w)))∧True)∧((sE (zg_12_1_9 ws xs k w) (True))∧(sE (zg_12_1_10 ws xs k w) (True))∧True)∧((sE (zg_12_1_11 ws xs k w) (callOb Try.prog 37 (yf15 ws xs k w) [(yf20 ws k w)] none false (yf30 ws k w)))∧True)∧((sE (zg_12_1_11 ws xs k w) (True))∧(sE (zg_12_1_12 ws xs k w) (True))∧True)∧((sE (zg_12_1_11 ws xs k w) (True))∧True)∧((sE (zg_12_1_13 ws xs k w) (True))∧True)∧((sE (zg_12_1_13 ws xs k w) (True))∧True)∧((sE (zg_12_1_14 ws xs k w) (True))∧True)∧((sE (zg_12_1_15 ws xs k w) ((True∧(fitsF (wvF 12 ws k w)) = true)))∧True)∧True∧True) (by kernel_rfl) (by kernel_rfl) (by kernel_rfl) (by kernel_rfl) (by kernel_rfl) (by kernel_rfl)
    ⟨⟨⟨rfl,oK,oK⟩,⟨rfl,oK,oK⟩,⟨rfl,oK,oK⟩,oK⟩,⟨⟨rfl,oK,oK⟩,⟨rfl,oK,oK⟩,oK⟩,⟨⟨rfl,oK,oK⟩,⟨rfl,oK,oK⟩,oK⟩,⟨⟨rfl,oK,oK⟩,⟨rfl,oK,oK⟩,⟨rfl,(fits_ok _),oK⟩,oK⟩,⟨⟨rfl,oK,oK⟩,oK⟩,⟨⟨rfl,oK,oK⟩,⟨rfl,(fits_ok _),oK⟩,oK⟩,⟨⟨rfl,oK,oK⟩,⟨rfl,(fits_ok _),oK⟩,oK⟩,⟨⟨rfl,oK,oK⟩,⟨rfl,oK,oK⟩,oK⟩,⟨⟨rfl,(fits_ok _),oK⟩,oK⟩,⟨⟨rfl,oK,oK⟩,⟨rfl,oK,oK⟩,oK⟩,⟨⟨rfl,oK,oK⟩,oK⟩,⟨⟨rfl,oK,oK⟩,oK⟩,⟨⟨rfl,oK,oK⟩,oK⟩,⟨⟨rfl,oK,oK⟩,oK⟩,⟨⟨rfl,⟨oK,(by first | exact h3 | simpa [wvF] using h3)⟩,oK⟩,oK⟩,oK,oK⟩ ?_
  refine Ev.ret ?_
  refine ⟨⟨oK,oK,oK,oK⟩,(?_ : ((1 : Int) = 1∧((.fn (.func 58) [] []) : D) = (.fn (.func 58) [] [])∧((.fn (.func 59) [] []) : D) = (.fn (.func 59) [] [])∧True)∧(wvF 12 ws k w) = (wvF 12 ws k w)∧true = true∧True),.inl rfl⟩
  exact ⟨⟨rfl,rfl,rfl,oK⟩,rfl,rfl,oK⟩

set_option maxRecDepth 100000 in
theorem width_bad_12 (ws xs : List Int) (k w : Int) (hw : ws.length ≤ 9223372036854775807) (h : okB 12 ws = false) : CallOk Try.prog 27 [(i6 12),(yf17 ws xs k w)] [] true yf26 [] := by
  refine CallOk.of_ev Try.func27 rfl rfl rfl ?_
  rintro ⟨_,W,S0,_,susp,_⟩ rfl rfl rfl
  refine Ev.seq ?_
  refine Ev.reg [] [0,3,4] (st' := ⟨[(0,(i6 12)),(3,yf10),(4,yf8)],(yf47 ws xs k w)⟩)
    (p := T4 True) (by kernel_rfl)
    ⟨oK,oK,oK,oK,oK⟩ ?_
  refine Ev.seq ?_
  refine Ev.reg [(0,.call none false (.v (.mp simpleM))),(2,.idx none)] [0,3,4,7,8] (st' := ⟨yf50,(yf27 ws xs k w)⟩)
    (p := callOb Try.prog 33 (yf47 ws xs k w) [] none false (.v (.mp simpleM))∧True∧(∀ e' ∈ simpleM,12 ≠ e'.1)∧True∧True∧True∧True∧True∧True∧True) (by kernel_rfl)
    ⟨simple_ok,oK,(by decide),oK,oK,oK,oK,oK,oK,oK⟩ ?_
  refine Ev.seq ?_
  refine Ev.seq ?_
  refine Ev.reg [] [0,3,4,7,8,17] (st' := ⟨yf43,(yf27 ws xs k w)⟩)
    (p := T2 True) (by kernel_rfl)
    ⟨oK,oK,oK⟩ ?_
  refine Ev.cond true rfl (fun _ => ?_) (fun h => (by cases h))
  refine Ev.reg [(0,.call none false (.v (.mp othersM))),(2,.idx (some 3))] [3,4,7,8] (st' := ⟨[(3,yf10),(4,yf8),(7,yf9),(8,(dB true))],(yf15 ws xs k w)⟩)
    (p := callOb Try.prog 34 (yf27 ws xs k w) [] none false (.v (.mp othersM))∧True∧((12 : Int) = 12∧∀ e' ∈ othersM.take 3,(12 : Int) ≠ e'.1)∧True∧True∧True∧True∧True∧True) (by kernel_rfl)
    ⟨others_ok,oK,(by decide),oK,oK,oK,oK,oK,oK⟩ ?_
  refine Ev.seq ?_
  refine Ev.seq ?_
  rcases okB_no h with h1 | ⟨h1,h2⟩
  · skip
    have hA : arityF 12 = 1 := by decide
    rw [hA] at h1
    refine Ev.reg [(8,.val (dB true))] [3,4,7,38] (st' := ⟨[(3,yf10),(4,yf8),(7,yf9),(38,(dB true))],(yf15 ws xs k w)⟩)
      (p := T8 ((True∧(((ws.length : Nat) : Int) != 1) = true)∧T6 True)) (by kernel_rfl)
      ⟨oK,oK,oK,oK,oK,oK,oK,oK,⟨oK,(by exact bne_iff_ne.2 (by omega))⟩,oK,oK,oK,oK,oK,oK,oK⟩ ?_
    refine Ev.cond true rfl (fun _ => ?_) (fun h => (by cases h))
    refine Ev.seq ?_
    refine Ev.reg [] [4,5,6] (st' := ⟨[(4,yf8),(5,(i6 0)),(6,(dB false))],(yf15 ws xs k w)⟩)
      (p := T4 True) (by kernel_rfl)
      ⟨oK,oK,oK,oK,oK⟩ ?_
    refine Ev.ret ?_
    refine ⟨⟨oK,oK,oK,oK⟩,(?_ : ((0 : Int) = 0∧True∧True∧True)∧(0 : Int) = 0∧false = false∧True),.inl rfl⟩
    exact ⟨⟨rfl,oK,oK,oK⟩,rfl,rfl,oK⟩
  · skip
    have hA : arityF 12 = 1 := by decide
    rw [hA] at h1
    refine Ev.reg [(8,.val (dB false)),(13,.call none false (yf24 ws)),(14,.val (dB true))] [3,4,7,38] (st' := ⟨[(3,yf10),(4,yf8),(7,yf9),(38,(dB true))],(yf15 ws xs k w)⟩)
      (p := T8 ((True∧(((ws.length : Nat) : Int) != 1) = false)∧T4 (callOb Try.prog 35 (yf15 ws xs k w) (yf25 ws) none false (yf24 ws)∧(True∧(!(ws.all fitsF)) = true)∧True))) (by kernel_rfl)
      ⟨oK,oK,oK,oK,oK,oK,oK,oK,⟨oK,(by rw [h1]; rfl)⟩,oK,oK,oK,oK,(contains_ok _ (by first | omega | (simp; first | done | omega))),⟨oK,(by rw [h2]; rfl)⟩,oK⟩ ?_
    refine Ev.cond true rfl (fun _ => ?_) (fun h => (by cases h))
    refine Ev.seq ?_
    refine Ev.reg [] [4,5,6] (st' := ⟨[(4,yf8),(5,(i6 0)),(6,(dB false))],(yf15 ws xs k w)⟩)
      (p := T4 True) (by kernel_rfl)
      ⟨oK,oK,oK,oK,oK⟩ ?_
    refine Ev.ret ?_
    refine ⟨⟨oK,oK,oK,oK⟩,(?_ : ((0 : Int) = 0∧True∧True∧True)∧(0 : Int) = 0∧false = false∧True),.inl rfl⟩
    exact ⟨⟨rfl,oK,oK,oK⟩,rfl,rfl,oK⟩

def zwv_12_1_0 (ws xs : List Int) (k w : Int) : St := ⟨[(4,yf8),(7,yf9),(9,(yf20 ws k w))],(yf15 ws xs k w)⟩
def zwv_12_1_1 (ws xs : List Int) (k w : Int) : St := ⟨[(4,yf8),(7,yf9),(9,(yf20 ws k w)),(44,(.agg yf6))],(yf15 ws xs k w)⟩
def zwv_12_1_2 (ws xs : List Int) (k w : Int) : St := ⟨[(4,yf8),(7,yf9),(9,(yf20 ws k w)),(45,(yf20 ws k w))],(yf15 ws xs k w)⟩
def zwv_12_1_3 (ws xs : List Int) (k w : Int) : St := ⟨[(4,yf8),(7,yf9),(9,(yf20 ws k w)),(46,(yf20 ws k w))],(yf15 ws xs k w)⟩
def zwv_12_1_4 (ws xs : List Int) (k w : Int) : St := ⟨[(4,yf8),(7,yf9),(9,(yf20 ws k w)),(44,(.agg yf6)),(45,(yf20 ws k w))],(yf15 ws xs k w)⟩
def zwv_12_1_5 (ws xs : List Int) (k w : Int) : St := ⟨[(4,yf8),(7,yf9),(9,(yf20 ws k w)),(44,(.agg yf6)),(46,(yf20 ws k w))],(yf15 ws xs k w)⟩
def zwv_12_1_6 (ws xs : List Int) (k w : Int) : St := ⟨[(4,yf8),(7,yf9),(9,(yf20 ws k w)),(45,(yf20 ws k w)),(46,(yf20 ws k w))],(yf15 ws xs k w)⟩
def zwv_12_1_7 (ws xs : List Int) (k w : Int) : St := ⟨[(4,yf8),(7,yf9),(9,(yf20 ws k w)),(46,(yf20 ws k w)),(47,(yf30 ws k w))],(yf15 ws xs k w)⟩
def zwv_12_1_8 (ws xs : List Int) (k w : Int) : St := ⟨[(4,yf8),(7,yf9),(9,(yf20 ws k w)),(44,(.agg yf6)),(45,(yf20 ws k w)),(46,(yf20 ws k w))],(yf15 ws xs k w)⟩
def zwv_12_1_9 (ws xs : List Int) (k w : Int) : St := ⟨[(4,yf8),(7,yf9),(9,(yf20 ws k w)),(44,(.agg yf6)),(46,(yf20 ws k w)),(47,(yf30 ws k w))],(yf15 ws xs k w)⟩
def zwv_12_1_10 (ws xs : List Int) (k w : Int) : St := ⟨[(4,yf8),(7,yf9),(9,(yf20 ws k w)),(45,(yf20 ws k w)),(46,(yf20 ws k w)),(47,(yf30 ws k w))],(yf15 ws xs k w)⟩
def zwv_12_1_11 (ws xs : List Int) (k w : Int) : St := ⟨[(4,yf8),(7,yf9),(9,(yf20 ws k w)),(44,(.agg yf6)),(45,(yf20 ws k w)),(46,(yf20 ws k w)),(47,(yf30 ws k w))],(yf15 ws xs k w)⟩
def zwv_12_1_12 (ws xs : List Int) (k w : Int) : St := ⟨[(4,yf8),(7,yf9),(9,(yf20 ws k w)),(44,(.agg yf6)),(46,(yf20 ws k w)),(47,(yf30 ws k w))],(yf38 ws xs k w)⟩
def zwv_12_1_13 (ws xs : List Int) (k w : Int) : St := ⟨[(4,yf8),(7,yf9),(9,(yf20 ws k w)),(44,(.agg yf6)),(45,(yf20 ws k w)),(46,(yf20 ws k w)),(47,(yf30 ws k w))],(yf38 ws xs k w)⟩
def zwv_12_1_14 (ws xs : List Int) (k w : Int) : St := ⟨[(4,yf8),(5,(yf20 ws k w)),(7,yf9),(9,(yf20 ws k w)),(44,(.agg yf6)),(45,(yf20 ws k w)),(46,(yf20 ws k w)),(47,(yf30 ws k w))],(yf38 ws xs k w)⟩
def zwv_12_1_15 (ws xs : List Int) (k w : Int) : St := ⟨[(4,yf8),(5,(yf20 ws k w)),(6,(dB false))],(yf38 ws xs k w)⟩
set_option maxRecDepth 100000 in
theorem width_wv_12 (ws xs : List Int) (k w : Int) (hw : ws.length ≤ 9223372036854775807) (h : okB 12 ws = true) (h3 : fitsF (wvF 12 ws k w) = false) : CallOk Try.prog 27 [(i6 12),(yf17 ws xs k w)] [] true (.tup [(.agg yf6),(yf20 ws k w),(dB false)]) [] := by
  refine CallOk.of_ev Try.func27 rfl rfl rfl ?_
  rintro ⟨_,W,S0,_,susp,_⟩ rfl rfl rfl
  obtain ⟨h1,h2⟩ := okB_yes h
  have hA : arityF 12 = 1 := by decide
  rw [hA] at h1
  refine Ev.seq ?_
  refine Ev.reg [] [0,3,4] (st' := ⟨[(0,(i6 12)),(3,yf10),(4,yf8)],(yf47 ws xs k w)⟩)
    (p := T4 True) (by kernel_rfl)
    ⟨oK,oK,oK,oK,oK⟩ ?_
  refine Ev.seq ?_
  refine Ev.reg [(0,.call none false (.v (.mp simpleM))),(2,.idx none)] [0,3,4,7,8] (st' := ⟨yf50,(yf27 ws xs k w)⟩)
    (p := callOb Try.prog 33 (yf47 ws xs k w) [] none false (.v (.mp simpleM))∧True∧(∀ e' ∈ simpleM,12 ≠ e'.1)∧True∧True∧True∧True∧True∧True∧True) (by kernel_rfl)
    ⟨simple_ok,oK,(by decide),oK,oK,oK,oK,oK,oK,oK⟩ ?_
  refine Ev.seq ?_
  refine Ev.seq ?_
  refine Ev.reg [] [0,3,4,7,8,17] (st' := ⟨yf43,(yf27 ws xs k w)⟩)
    (p := T2 True) (by kernel_rfl)
    ⟨oK,oK,oK⟩ ?_
  refine Ev.cond true rfl (fun _ => ?_) (fun h => (by cases h))
  refine Ev.reg [(0,.call none false (.v (.mp othersM))),(2,.idx (some 3))] [3,4,7,8] (st' := ⟨[(3,yf10),(4,yf8),(7,yf9),(8,(dB true))],(yf15 ws xs k w)⟩)
    (p := callOb Try.prog 34 (yf27 ws xs k w) [] none false (.v (.mp othersM))∧True∧((12 : Int) = 12∧∀ e' ∈ othersM.take 3,(12 : Int) ≠ e'.1)∧True∧True∧True∧True∧True∧True) (by kernel_rfl)
    ⟨others_ok,oK,(by decide),oK,oK,oK,oK,oK,oK⟩ ?_
  refine Ev.seq ?_
  refine Ev.seq ?_
  refine Ev.reg [(8,.val (dB false)),(13,.call none false (yf24 ws)),(14,.val (dB false))] [3,4,7,38] (st' := ⟨[(3,yf10),(4,yf8),(7,yf9),(38,(dB false))],(yf15 ws xs k w)⟩)
    (p := T8 ((True∧(((ws.length : Nat) : Int) != 1) = false)∧T4 (callOb Try.prog 35 (yf15 ws xs k w) (yf25 ws) none false (yf24 ws)∧(True∧(!(ws.all fitsF)) = false)∧True))) (by kernel_rfl)
    ⟨oK,oK,oK,oK,oK,oK,oK,oK,⟨oK,(by rw [h1]; rfl)⟩,oK,oK,oK,oK,(contains_ok _ (by first | omega | (simp; first | done | omega))),⟨oK,(by rw [h2]; rfl)⟩,oK⟩ ?_
  refine Ev.cond false rfl (fun h => (by cases h)) (fun _ => ?_)
  refine Ev.skip ?_
  refine Ev.seq ?_
  refine Ev.reg [(3,.call none false (i6 (if fitsF w = false ∨ k < 0 ∨ ws.getD 0 0 - w < k then 0 else w))),(4,.val (yf20 ws k w))] [4,7,9] (st' := ⟨[(4,yf8),(7,yf9),(9,(yf20 ws k w))],(yf15 ws xs k w)⟩)
    (p := T3 ((callOb Try.prog 58 (yf15 ws xs k w) [(yf17 ws xs k w)] none false (i6 (if fitsF w = false ∨ k < 0 ∨ ws.getD 0 0 - w < k then 0 else w)))∧(True∧((if fitsF w = false ∨ k < 0 ∨ ws.getD 0 0 - w < k then 0 else w) = (wvF 12 ws k w)))∧True)) (by kernel_rfl)
    ⟨oK,oK,oK,(wslice_ok _ _ _ _ (by omega) (by assumption)),⟨oK,(by first | rfl | simp [wvF])⟩,oK⟩ ?_
  refine Ev.seq ?_
  refine Ev.any [(3,.call none false (yf30 ws k w)),(6,.val (dB false))] [((bm 7 0),(zwv_12_1_0 ws xs k w)),((bm 7 1),(zwv_12_1_1 ws xs k w)),((bm 7 2),(zwv_12_1_2 ws xs k w)),((bm 7 4),(zwv_12_1_3 ws xs k w)),((bm 7 3),(zwv_12_1_4 ws xs k w)),((bm 7 5),(zwv_12_1_5 ws xs k w)),((bm 7 6),(zwv_12_1_6 ws xs k w)),((bm 7 12),(zwv_12_1_7 ws xs k w)),((bm 7 7),(zwv_12_1_8 ws xs k w)),((bm 7 13),(zwv_12_1_9 ws xs k w)),((bm 7 14),(zwv_12_1_10 ws xs k w)),((bm 7 15),(zwv_12_1_11 ws xs k w)),((bm 7 29),(zwv_12_1_12 ws xs k w)),((bm 7 31),(zwv_12_1_13 ws xs k w)),((bm 7 63),(zwv_12_1_14 ws xs k w)),((bm 7 127),(zwv_12_1_15 ws xs k w))] (st0 := (zwv_12_1_0 ws xs k w)) (st' := ⟨[(4,yf8),(5,(yf20 ws k w)),(6,(dB false))],(yf38 ws xs k w)⟩)
    (p := ((sE (zwv_12_1_1 ws xs k w) (True))∧(sE (zwv_12_1_2 ws xs k w) (True))∧(sE (zwv_12_1_3 ws xs k w) (True))∧True)∧((sE (zwv_12_1_4 ws xs k w) (True))∧(sE (zwv_12_1_5 ws xs k w) (True))∧True)∧((sE (zwv_12_1_4 ws xs k w) (True))∧(sE (zwv_12_1_6 ws xs k w) (True))∧True)∧((sE (zwv_12_1_5 ws xs k w) (True))∧(sE (zwv_12_1_6 ws xs k w) (True))∧(sE (zwv_12_1_7 ws xs k w) (callOb Try.prog 37 (yf15 ws xs k w) [(yf20 ws k w)] none false (yf30 ws k w)))∧True)∧((sE (zwv_12_1_8 ws xs k w) (True))∧True)∧((sE (zwv_12_1_8 ws xs k w) (True))∧(sE (zwv_12_1_9 ws xs k w) (callOb Try.prog 37 (yf15 ws xs k w) [(yf20 ws k w)] none false (yf30 ws k w)))∧True)∧((sE (zwv_12_1_8 ws xs k w) (True))∧(sE (zwv_12_1_10 ws xs k w) (callOb Try.prog 37 (yf15 ws xs k w) [(yf20 ws k w)] none false (yf30 ws k w)))∧True)∧((sE (zwv_12_1_9 ws xs k w) (True))∧(sE (zwv_12_1_10 ws xs k w) (True))∧True)∧((sE (zwv_12_1_11 ws xs k w) (callOb Try.prog 37 (yf15 ws xs k w) [(yf20 ws k w)] none false (yf30 ws k w)))∧True)∧((sE (zwv_12_1_11 ws xs k w) (True))∧(sE (zwv_12_1_12 ws xs k w) (True))∧True)∧((sE (zwv_12_1_11 ws xs k w) (True))∧True)∧((sE (zwv_12_1_13 ws xs k w) (True))∧True)∧((sE (zwv_12_1_13 ws xs k w) (True))∧True)∧((sE (zwv_12_1_14 ws xs k w) (True))∧True)∧((sE (zwv_12_1_15 ws xs k w) ((True∧(fitsF (wvF 12 ws k w)) = false)))∧True)∧True∧True) (by kernel_rfl) (by kernel_rfl) (by kernel_rfl) (by kernel_rfl) (by kernel_rfl) (by kernel_rfl)
    ⟨⟨⟨rfl,oK,oK⟩,⟨rfl,oK,oK⟩,⟨rfl,oK,oK⟩,oK⟩,⟨⟨rfl,oK,oK⟩,⟨rfl,oK,oK⟩,oK⟩,⟨⟨rfl,oK,oK⟩,⟨rfl,oK,oK⟩,oK⟩,⟨⟨rfl,oK,oK⟩,⟨rfl,oK,oK⟩,⟨rfl,(fits_ok _),oK⟩,oK⟩,⟨⟨rfl,oK,oK⟩,oK⟩,⟨⟨rfl,oK,oK⟩,⟨rfl,(fits_ok _),oK⟩,oK⟩,⟨⟨rfl,oK,oK⟩,⟨rfl,(fits_ok _),oK⟩,oK⟩,⟨⟨rfl,oK,oK⟩,⟨rfl,oK,oK⟩,oK⟩,⟨⟨rfl,(fits_ok _),oK⟩,oK⟩,⟨⟨rfl,oK,oK⟩,⟨rfl,oK,oK⟩,oK⟩,⟨⟨rfl,oK,oK⟩,oK⟩,⟨⟨rfl,oK,oK⟩,oK⟩,⟨⟨rfl,oK,oK⟩,oK⟩,⟨⟨rfl,oK,oK⟩,oK⟩,⟨⟨rfl,⟨oK,(by first | exact h3 | simpa [wvF] using h3)⟩,oK⟩,oK⟩,oK,oK⟩ ?_
  refine Ev.ret ?_
  refine ⟨⟨oK,oK,oK,oK⟩,(?_ : ((1 : Int) = 1∧((.fn (.func 58) [] []) : D) = (.fn (.func 58) [] [])∧((.fn (.func 59) [] []) : D) = (.fn (.func 59) [] [])∧True)∧(wvF 12 ws k w) = (wvF 12 ws k w)∧false = false∧True),.inl rfl⟩
  exact ⟨⟨rfl,rfl,rfl,oK⟩,rfl,rfl,oK⟩

def zg_13_1_0 (ws xs : List Int) (k w : Int) : St := ⟨[(4,yf8),(7,yf9),(9,(yf21 ws k w))],(yf16 ws xs k w)⟩
def zg_13_1_1 (ws xs : List Int) (k w : Int) : St := ⟨[(4,yf8),(7,yf9),(9,(yf21 ws k w)),(44,(.agg yf7))],(yf16 ws xs k w)⟩
def zg_13_1_2 (ws xs : List Int) (k w : Int) : St := ⟨[(4,yf8),(7,yf9),(9,(yf21 ws k w)),(45,(yf21 ws k w))],(yf16 ws xs k w)⟩
def zg_13_1_3 (ws xs : List Int) (k w : Int) : St := ⟨[(4,yf8),(7,yf9),(9,(yf21 ws k w)),(46,(yf21 ws k w))],(yf16 ws xs k w)⟩
def zg_13_1_4 (ws xs : List Int) (k w : Int) : St := ⟨[(4,yf8),(7,yf9),(9,(yf21 ws k w)),(44,(.agg yf7)),(45,(yf21 ws k w))],(yf16 ws xs k w)⟩
def zg_13_1_5 (ws xs : List Int) (k w : Int) : St := ⟨[(4,yf8),(7,yf9),(9,(yf21 ws k w)),(44,(.agg yf7)),(46,(yf21 ws k w))],(yf16 ws xs k w)⟩
def zg_13_1_6 (ws xs : List Int) (k w : Int) : St := ⟨[(4,yf8),(7,yf9),(9,(yf21 ws k w)),(45,(yf21 ws k w)),(46,(yf21 ws k w))],(yf16 ws xs k w)⟩
def zg_13_1_7 (ws xs : List Int) (k w : Int) : St := ⟨[(4,yf8),(7,yf9),(9,(yf21 ws k w)),(46,(yf21 ws k w)),(47,(yf31 ws k w))],(yf16 ws xs k w)⟩
def zg_13_1_8 (ws xs : List Int) (k w : Int) : St := ⟨[(4,yf8),(7,yf9),(9,(yf21 ws k w)),(44,(.agg yf7)),(45,(yf21 ws k w)),(46,(yf21 ws k w))],(yf16 ws xs k w)⟩
def zg_13_1_9 (ws xs : List Int) (k w : Int) : St := ⟨[(4,yf8),(7,yf9),(9,(yf21 ws k w)),(44,(.agg yf7)),(46,(yf21 ws k w)),(47,(yf31 ws k w))],(yf16 ws xs k w)⟩
def zg_13_1_10 (ws xs : List Int) (k w : Int) : St := ⟨[(4,yf8),(7,yf9),(9,(yf21 ws k w)),(45,(yf21 ws k w)),(46,(yf21 ws k w)),(47,(yf31 ws k w))],(yf16 ws xs k w)⟩
def zg_13_1_11 (ws xs : List Int) (k w : Int) : St := ⟨[(4,yf8),(7,yf9),(9,(yf21 ws k w)),(44,(.agg yf7)),(45,(yf21 ws k w)),(46,(yf21 ws k w)),(47,(yf31 ws k w))],(yf16 ws xs k w)⟩
def zg_13_1_12 (ws xs : List Int) (k w : Int) : St := ⟨[(4,yf8),(7,yf9),(9,(yf21 ws k w)),(44,(.agg yf7)),(46,(yf21 ws k w)),(47,(yf31 ws k w))],(yf39 ws xs k w)⟩
def zg_13_1_13 (ws xs : List Int) (k w : Int) : St := ⟨[(4,yf8),(7,yf9),(9,(yf21 ws k w)),(44,(.agg yf7)),(45,(yf21 ws k w)),(46,(yf21 ws k w)),(47,(yf31 ws k w))],(yf39 ws xs k w)⟩
def zg_13_1_14 (ws xs : List Int) (k w : Int) : St := ⟨[(4,yf8),(5,(yf21 ws k w)),(7,yf9),(9,(yf21 ws k w)),(44,(.agg yf7)),(45,(yf21 ws k w)),(46,(yf21 ws k w)),(47,(yf31 ws k w))],(yf39 ws xs k w)⟩
def zg_13_1_15 (ws xs : List Int) (k w : Int) : St := ⟨[(4,yf8),(5,(yf21 ws k w)),(6,(dB true))],(yf39 ws xs k w)⟩
set_option maxRecDepth 100000 in
theorem width_good_13 (ws xs : List Int) (k w : Int) (hw : ws.length ≤ 9223372036854775807) (h : okF 13 ws k w = true) : CallOk Try.prog 27 [(i6 13),(yf17 ws xs k w)] [] true (.tup [(.agg yf7),(yf21 ws k w),(dB true)]) [] := by
  refine CallOk.of_ev Try.func27 rfl rfl rfl ?_
  rintro ⟨_,W,S0,_,susp,_⟩ rfl rfl rfl
  obtain ⟨h1,h2,h3⟩ := ok_yes h
  have hA : arityF 13 = 1 := by decide
  rw [hA] at h1
  refine Ev.seq ?_
  refine Ev.reg [] [0,3,4] (st' := ⟨[(0,(i6 13)),(3,yf10),(4,yf8)],(yf47 ws xs k w)⟩)
    (p := T4 True) (by kernel_rfl)
    ⟨oK,oK,oK,oK,oK⟩ ?_
  refine Ev.seq ?_
  refine Ev.reg [(0,.call none false (.v (.mp simpleM))),(2,.idx none)] [0,3,4,7,8] (st' := ⟨yf51,(yf27 ws xs k w)⟩)
    (p := callOb Try.prog 33 (yf47 ws xs k w) [] none false (.v (.mp simpleM))∧True∧(∀ e' ∈ simpleM,13 ≠ e'.1)∧True∧True∧True∧True∧True∧True∧True) (by kernel_rfl)
    ⟨simple_ok,oK,(by decide),oK,oK,oK,oK,oK,oK,oK⟩ ?_
  refine Ev.seq ?_
  refine Ev.seq ?_
  refine Ev.reg [] [0,3,4,7,8,17] (st' := ⟨yf44,(yf27 ws xs k w)⟩)
    (p := T2 True) (by kernel_rfl)
    ⟨oK,oK,oK⟩ ?_
  refine Ev.cond true rfl (fun _ => ?_) (fun h => (by cases h))
  refine Ev.reg [(0,.call none false (.v (.mp othersM))),(2,.idx (some 4))] [3,4,7,8] (st' := ⟨[(3,yf10),(4,yf8),(7,yf9),(8,(dB true))],(yf16 ws xs k w)⟩)
    (p := callOb Try.prog 34 (yf27 ws xs k w) [] none false (.v (.mp othersM))∧True∧((13 : Int) = 13∧∀ e' ∈ othersM.take 4,(13 : Int) ≠ e'.1)∧True∧True∧True∧True∧True∧True) (by kernel_rfl)
    ⟨others_ok,oK,(by decide),oK,oK,oK,oK,oK,oK⟩ ?_
  refine Ev.seq ?_
  refine Ev.seq ?_
  refine Ev.reg [(8,.val (dB false)),(13,.call none false (yf24 ws)),(14,.val (dB false))] [3,4,7,38] (st' := ⟨[(3,yf10),(4,yf8),(7,yf9),(38,(dB false))],(yf16 ws xs k w)⟩)
    (p := T8 ((True∧(((ws.length : Nat) : Int) != 1) = false)∧T4 (callOb Try.prog 35 (yf16 ws xs k w) (yf25 ws) none false (yf24 ws)∧(True∧(!(ws.all fitsF)) = false)∧True))) (by kernel_rfl)
    ⟨oK,oK,oK,oK,oK,oK,oK,oK,⟨oK,(by rw [h1]; rfl)⟩,oK,oK,oK,oK,(contains_ok _ (by first | omega | (simp; first | done | omega))),⟨oK,(by rw [h2]; rfl)⟩,oK⟩ ?_
  refine Ev.cond false rfl (fun h => (by cases h)) (fun _ => ?_)
  refine Ev.skip ?_
  refine Ev.seq ?_
  refine Ev.reg [(3,.call none false (i6 (if w < ws.getD 0 0 then 0 else w))),(4,.val (yf21 ws k w))] [4,7,9] (st' := ⟨[(4,yf8),(7,yf9),(9,(yf21 ws k w))],(yf16 ws xs k w)⟩)
    (p := T3 (callOb Try.prog 60 (yf16 ws xs k w) [(yf17 ws xs k w)] none false (i6 (if w < ws.getD 0 0 then 0 else w))∧(True∧(if w < ws.getD 0 0 then 0 else w) = (wvF 13 ws k w))∧True)) (by kernel_rfl)
    ⟨oK,oK,oK,(wext_ok _ _ _ _ (by omega) (by assumption)),⟨oK,(by first | rfl | simp [wvF])⟩,oK⟩ ?_
  refine Ev.seq ?_
  refine Ev.any [(3,.call none false (yf31 ws k w)),(6,.val (dB true))] [((bm 7 0),(zg_13_1_0 ws xs k w)),((bm 7 1),(zg_13_1_1 ws xs k w)),((bm 7 2),(zg_13_1_2 ws xs k w)),((bm 7 4),(zg_13_1_3 ws xs k w)),((bm 7 3),(zg_13_1_4 ws xs k w)),((bm 7 5),(zg_13_1_5 ws xs k w)),((bm 7 6),(zg_13_1_6 ws xs k w)),((bm 7 12),(zg_13_1_7 ws xs k w)),((bm 7 7),(zg_13_1_8 ws xs k w)),((bm 7 13),(zg_13_1_9 ws xs k w)),((bm 7 14),(zg_13_1_10 ws xs k w)),((bm 7 15),(zg_13_1_11 ws xs k w)),((bm 7 29),(zg_13_1_12 ws xs k w)),((bm 7 31),(zg_13_1_13 ws xs k w)),((bm 7 63),(zg_13_1_14 ws xs k w)),((bm 7 127),(zg_13_1_15 ws xs k w))] (st0 := (zg_13_1_0 ws xs k w)) (st' := ⟨[(4,yf8),(5,(yf21 ws k w)),(6,(dB true))],(yf39 ws xs k w)⟩)
    (p := ((sE (zg_13_1_1 ws xs k w) (True))∧(sE (zg_13_1_2 ws xs k w) (True))∧(sE (zg_13_1_3 ws xs k w) (True))∧True)∧((sE (zg_13_1_4 ws xs k w) (True))∧(sE (zg_13_1_5 ws xs k w) (True))∧True)∧((sE (zg_13_1_4 ws xs k w) (True))∧(sE (zg_13_1_6 ws xs k w) (True))∧True)∧((sE (zg_13_1_5 ws xs k w) (True))∧(sE (zg_13_1_6 ws xs k w) (True))∧(sE (zg_13_1_7 ws xs k w) (callOb Try.prog 37 (yf16 ws xs k w) [(yf21 ws k w)] none false (yf31 ws k w)))∧True)∧((sE (zg_13_1_8 ws xs k w) (True))∧True)∧((sE (zg_13_1_8 ws xs k w) (True))∧(sE (zg_13_1_9 ws xs k w) (callOb Try.prog 37 (yf16 ws xs k w) [(yf21 ws k w)] none false (yf31 ws k w)))∧True)∧((sE (zg_13_1_8 ws xs k w) (True))∧(sE (zg_13_1_10 ws xs k w) (callOb Try.prog 37 (yf16 ws xs k w) [(yf21 ws k w)] none false (yf31 ws k w)))∧True)∧((sE (zg_13_1_9 ws xs k w) (True))∧(sE (zg_13_1_10 ws xs k w) (True))∧True)∧((sE (zg_13_1_11 ws xs k w) (callOb Try.prog 37 (yf16 ws xs k w) [(yf21 ws k w)] none false (yf31 ws k w)))∧True)∧((sE (zg_13_1_11 ws xs k w) (True))∧(sE (zg_13_1_12 ws xs k w) (True))∧True)∧((sE (zg_13_1_11 ws xs k w) (True))∧True)∧((sE (zg_13_1_13 ws xs k w) (True))∧True)∧((sE (zg_13_1_13 ws xs k w) (True))∧True)∧((sE (zg_13_1_14 ws xs k w) (True))∧True)∧((sE (zg_13_1_15 ws xs k w) ((True∧(fitsF (wvF 13 ws k w)) = true)))∧True)∧True∧True) (by kernel_rfl) (by kernel_rfl) (by kernel_rfl) (by kernel_rfl) (by kernel_rfl) (by kernel_rfl)
    ⟨⟨⟨rfl,oK,oK⟩,⟨rfl,oK,oK⟩,⟨rfl,oK,oK⟩,oK⟩,⟨⟨rfl,oK,oK⟩,⟨rfl,oK,oK⟩,oK⟩,⟨⟨rfl,oK,oK⟩,⟨rfl,oK,oK⟩,oK⟩,⟨⟨rfl,oK,oK⟩,⟨rfl,oK,oK⟩,⟨rfl,(fits_ok _),oK⟩,oK⟩,⟨⟨rfl,oK,oK⟩,oK⟩,⟨⟨rfl,oK,oK⟩,⟨rfl,(fits_ok _),oK⟩,oK⟩,⟨⟨rfl,oK,oK⟩,⟨rfl,(fits_ok _),oK⟩,oK⟩,⟨⟨rfl,oK,oK⟩,⟨rfl,oK,oK⟩,oK⟩,⟨⟨rfl,(fits_ok _),oK⟩,oK⟩,⟨⟨rfl,oK,oK⟩,⟨rfl,oK,oK⟩,oK⟩,⟨⟨rfl,oK,oK⟩,oK⟩,⟨⟨rfl,oK,oK⟩,oK⟩,⟨⟨rfl,oK,oK⟩,oK⟩,⟨⟨rfl,oK,oK⟩,oK⟩,⟨⟨rfl,⟨oK,(by first | exact h3 | simpa [wvF] using h3)⟩,oK⟩,oK⟩,oK,oK⟩ ?_
  refine Ev.ret ?_
  refine ⟨⟨oK,oK,oK,oK⟩,(?_ : ((1 : Int) = 1∧((.fn (.func 60) [] []) : D) = (.fn (.func 60) [] [])∧((.fn (.func 61) [] []) : D) = (.fn (.func 61) [] [])∧True)∧(wvF 13 ws k w) = (wvF 13 ws k w)∧true = true∧True),.inl rfl⟩
  exact ⟨⟨rfl,rfl,rfl,oK⟩,rfl,rfl,oK⟩

set_option maxRecDepth 100000 in
theorem width_bad_13 (ws xs : List Int) (k w : Int) (hw : ws.length ≤ 9223372036854775807) (h : okB 13 ws = false) : CallOk Try.prog 27 [(i6 13),(yf17 ws xs k w)] [] true yf26 [] := by
  refine CallOk.of_ev Try.func27 rfl rfl rfl ?_
  rintro ⟨_,W,S0,_,susp,_⟩ rfl rfl rfl
  refine Ev.seq ?_
  refine Ev.reg [] [0,3,4] (st' := ⟨[(0,(i6 13)),(3,yf10),(4,yf8)],(yf47 ws xs k w)⟩)
    (p := T4 True) (by kernel_rfl)
    ⟨oK,oK,oK,oK,oK⟩ ?_
  refine Ev.seq ?_
  refine Ev.reg [(0,.call none false (.v (.mp simpleM))),(2,.idx none)] [0,3,4,7,8] (st' := ⟨yf51,(yf27 ws xs k w)⟩)
    (p := callOb Try.prog 33 (yf47 ws xs k w) [] none false (.v (.mp simpleM))∧True∧(∀ e' ∈ simpleM,13 ≠ e'.1)∧True∧True∧True∧True∧True∧True∧True) (by kernel_rfl)
    ⟨simple_ok,oK,(by decide),oK,oK,oK,oK,oK,oK,oK⟩ ?_
  refine Ev.seq ?_
  refine Ev.seq ?_
  refine Ev.reg [] [0,3,4,7,8,17] (st' := ⟨yf44,(yf27 ws xs k w)⟩)
    (p := T2 True) (by kernel_rfl)
    ⟨oK,oK,oK⟩ ?_
  refine Ev.cond true rfl (fun _ => ?_) (fun h => (by cases h))
  refine Ev.reg [(0,.call none false (.v (.mp othersM))),(2,.idx (some 4))] [3,4,7,8] (st' := ⟨[(3,yf10),(4,yf8),(7,yf9),(8,(dB true))],(yf16 ws xs k w)⟩)
    (p := callOb Try.prog 34 (yf27 ws xs k w) [] none false (.v (.mp othersM))∧True∧((13 : Int) = 13∧∀ e' ∈ othersM.take 4,(13 : Int) ≠ e'.1)∧True∧True∧True∧True∧True∧True) (by kernel_rfl)
    ⟨others_ok,oK,(by decide),oK,oK,oK,oK,oK,oK⟩ ?_
  refine Ev.seq ?_
  refine Ev.seq ?_
  rcases okB_no h with h1 | ⟨h1,h2⟩
  · skip
    have hA : arityF 13 = 1 := by decide
    rw [hA] at h1
    refine Ev.reg [(8,.val (dB true))] [3,4,7,38] (st' := ⟨[(3,yf10),(4,yf8),(7,yf9),(38,(dB true))],(yf16 ws xs k w)⟩)
      (p := T8 ((True∧(((ws.length : Nat) : Int) != 1) = true)∧T6 True)) (by kernel_rfl)
      ⟨oK,oK,oK,oK,oK,oK,oK,oK,⟨oK,(by exact bne_iff_ne.2 (by omega))⟩,oK,oK,oK,oK,oK,oK,oK⟩ ?_
    refine Ev.cond true rfl (fun _ => ?_) (fun h => (by cases h))
    refine Ev.seq ?_
    refine Ev.reg [] [4,5,6] (st' := ⟨[(4,yf8),(5,(i6 0)),(6,(dB false))],(yf16 ws xs k w)⟩)
      (p := T4 True) (by kernel_rfl)
      ⟨oK,oK,oK,oK,oK⟩ ?_
    refine Ev.ret ?_
    refine ⟨⟨oK,oK,oK,oK⟩,(?_ : ((0 : Int) = 0∧True∧True∧True)∧(0 : Int) = 0∧false = false∧True),.inl rfl⟩
    exact ⟨⟨rfl,oK,oK,oK⟩,rfl,rfl,oK⟩
  · skip
    have hA : arityF 13 = 1 := by decide
    rw [hA] at h1
    refine Ev.reg [(8,.val (dB false)),(13,.call none false (yf24 ws)),(14,.val (dB true))] [3,4,7,38] (st' := ⟨[(3,yf10),(4,yf8),(7,yf9),(38,(dB true))],(yf16 ws xs k w)⟩)
      (p := T8 ((True∧(((ws.length : Nat) : Int) != 1) = false)∧T4 (callOb Try.prog 35 (yf16 ws xs k w) (yf25 ws) none false (yf24 ws)∧(True∧(!(ws.all fitsF)) = true)∧True))) (by kernel_rfl)
      ⟨oK,oK,oK,oK,oK,oK,oK,oK,⟨oK,(by rw [h1]; rfl)⟩,oK,oK,oK,oK,(contains_ok _ (by first | omega | (simp; first | done | omega))),⟨oK,(by rw [h2]; rfl)⟩,oK⟩ ?_
    refine Ev.cond true rfl (fun _ => ?_) (fun h => (by cases h))
    refine Ev.seq ?_
    refine Ev.reg [] [4,5,6] (st' := ⟨[(4,yf8),(5,(i6 0)),(6,(dB false))],(yf16 ws xs k w)⟩)
      (p := T4 True) (by kernel_rfl)
      ⟨oK,oK,oK,oK,oK⟩ ?_
    refine Ev.ret ?_
    refine ⟨⟨oK,oK,oK,oK⟩,(?_ : ((0 : Int) = 0∧True∧True∧True)∧(0 : Int) = 0∧false = false∧True),.inl rfl⟩
    exact ⟨⟨rfl,oK,oK,oK⟩,rfl,rfl,oK⟩

def zwv_13_1_0 (ws xs : List Int) (k w : Int) : St := ⟨[(4,yf8),(7,yf9),(9,(yf21 ws k w))],(yf16 ws xs k w)⟩
def zwv_13_1_1 (ws xs : List Int) (k w : Int) : St := ⟨[(4,yf8),(7,yf9),(9,(yf21 ws k w)),(44,(.agg yf7))],(yf16 ws xs k w)⟩
def zwv_13_1_2 (ws xs : List Int) (k w : Int) : St := ⟨[(4,yf8),(7,yf9),(9,(yf21 ws k w)),(45,(yf21 ws k w))],(yf16 ws xs k w)⟩
def zwv_13_1_3 (ws xs : List Int) (k w : Int) : St := ⟨[(4,yf8),(7,yf9),(9,(yf21 ws k w)),(46,(yf21 ws k w))],(yf16 ws xs k w)⟩
def zwv_13_1_4 (ws xs : List Int) (k w : Int) : St := ⟨[(4,yf8),(7,yf9),(9,(yf21 ws k w)),(44,(.agg yf7)),(45,(yf21 ws k w))],(yf16 ws xs k w)⟩
def zwv_13_1_5 (ws xs : List Int) (k w : Int) : St := ⟨[(4,yf8),(7,yf9),(9,(yf21 ws k w)),(44,(.agg yf7)),(46,(yf21 ws k w))],(yf16 ws xs k w)⟩
def zwv_13_1_6 (ws xs : List Int) (k w : Int) : St := ⟨[(4,yf8),(7,yf9),(9,(yf21 ws k w)),(45,(yf21 ws k w)),(46,(yf21 ws k w))],(yf16 ws xs k w)⟩
def zwv_13_1_7 (ws xs : List Int) (k w : Int) : St := ⟨[(4,yf8),(7,yf9),(9,(yf21 ws k w)),(46,(yf21 ws k w)),(47,(yf31 ws k w))],(yf16 ws xs k w)⟩
def zwv_13_1_8 (ws xs : List Int) (k w : Int) : St := ⟨[(4,yf8),(7,yf9),(9,(yf21 ws k w)),(44,(.agg yf7)),(45,(yf21 ws k w)),(46,(yf21 ws k w))],(yf16 ws xs k w)⟩
def zwv_13_1_9 (ws xs : List Int) (k w : Int) : St := ⟨[(4,yf8),(7,yf9),(9,(yf21 ws k w)),(44,(.agg yf7)),(46,(yf21 ws k w)),(47,(yf31 ws k w))],(yf16 ws xs k w)⟩
def zwv_13_1_10 (ws xs : List Int) (k w : Int) : St := ⟨[(4,yf8),(7,yf9),(9,(yf21 ws k w)),(45,(yf21 ws k w)),(46,(yf21 ws k w)),(47,(yf31 ws k w))],(yf16 ws xs k w)⟩
def zwv_13_1_11 (ws xs : List Int) (k w : Int) : St := ⟨[(4,yf8),(7,yf9),(9,(yf21 ws k w)),(44,(.agg yf7)),(45,(yf21 ws k w)),(46,(yf21 ws k w)),(47,(yf31 ws k w))],(yf16 ws xs k w)⟩
def zwv_13_1_12 (ws xs : List Int) (k w : Int) : St := ⟨[(4,yf8),(7,yf9),(9,(yf21 ws k w)),(44,(.agg yf7)),(46,(yf21 ws k w)),(47,(yf31 ws k w))],(yf39 ws xs k w)⟩
def zwv_13_1_13 (ws xs : List Int) (k w : Int) : St := ⟨[(4,yf8),(7,yf9),(9,(yf21 ws k w)),(44,(.agg yf7)),(45,(yf21 ws k w)),(46,(yf21 ws k w)),(47,(yf31 ws k w))],(yf39 ws xs k w)⟩
def zwv_13_1_14 (ws xs : List Int) (k w : Int) : St := ⟨[(4,yf8),(5,(yf21 ws k w)),(7,yf9),(9,(yf21 ws k w)),(44,(.agg yf7)),(45,(yf21 ws k w)),(46,(yf21 ws k w)),(47,(yf31 ws k w))],(yf39 ws xs k w)⟩
def zwv_13_1_15 (ws xs : List Int) (k w : Int) : St := ⟨[(4,yf8),(5,(yf21 ws k w)),(6,(dB false))],(yf39 ws xs k w)⟩
set_option maxRecDepth 100000 in
theorem width_wv_13 (ws xs : List Int) (k w : Int) (hw : ws.length ≤ 9223372036854775807) (h : okB 13 ws = true) (h3 : fitsF (wvF 13 ws k w) = false) : CallOk Try.prog 27 [(i6 13),(yf17 ws xs k w)] [] true (.tup [(.agg yf7),(yf21 ws k w),(dB false)]) [] := by
  refine CallOk.of_ev Try.func27 rfl rfl rfl ?_
  rintro ⟨_,W,S0,_,susp,_⟩ rfl rfl rfl
  obtain ⟨h1,h2⟩ := okB_yes h
  have hA : arityF 13 = 1 := by decide
  rw [hA] at h1
  refine Ev.seq ?_
  refine Ev.reg [] [0,3,4] (st' := ⟨[(0,(i6 13)),(3,yf10),(4,yf8)],(yf47 ws xs k w)⟩)
    (p := T4 True) (by kernel_rfl)
    ⟨oK,oK,oK,oK,oK⟩ ?_
  refine Ev.seq ?_
  refine Ev.reg [(0,.call none false (.v (.mp simpleM))),(2,.idx none)] [0,3,4,7,8] (st' := ⟨yf51,(yf27 ws xs k w)⟩)
    (p := callOb Try.prog 33 (yf47 ws xs k w) [] none false (.v (.mp simpleM))∧True∧(∀ e' ∈ simpleM,13 ≠ e'.1)∧True∧True∧True∧True∧True∧True∧True) (by kernel_rfl)
    ⟨simple_ok,oK,(by decide),oK,oK,oK,oK,oK,oK,oK⟩ ?_
  refine Ev.seq ?_
  refine Ev.seq ?_
  refine Ev.reg [] [0,3,4,7,8,17] (st' := ⟨yf44,(yf27 ws xs k w)⟩)
    (p := T2 True) (by kernel_rfl)
    ⟨oK,oK,oK⟩ ?_
  refine Ev.cond true rfl (fun _ => ?_) (fun h => (by cases h))
  refine Ev.reg [(0,.call none false (.v (.mp othersM))),(2,.idx (some 4))] [3,4,7,8] (st' := ⟨[(3,yf10),(4,yf8),(7,yf9),(8,(dB true))],(yf16 ws xs k w)⟩)
    (p := callOb Try.prog 34 (yf27 ws xs k w) [] none false (.v (.mp othersM))∧True∧((13 : Int) = 13∧∀ e' ∈ othersM.take 4,(13 : Int) ≠ e'.1)∧True∧True∧True∧True∧True∧True) (by kernel_rfl)
    ⟨others_ok,oK,(by decide),oK,oK,oK,oK,oK,oK⟩ ?_
  refine Ev.seq ?_
  refine Ev.seq ?_
  refine Ev.reg [(8,.val (dB false)),(13,.call none false (yf24 ws)),(14,.val (dB false))] [3,4,7,38] (st' := ⟨[(3,yf10),(4,yf8),(7,yf9),(38,(dB false))],(yf16 ws xs k w)⟩)
    (p := T8 ((True∧(((ws.length : Nat) : Int) != 1) = false)∧T4 (callOb Try.prog 35 (yf16 ws xs k w) (yf25 ws) none false (yf24 ws)∧(True∧(!(ws.all fitsF)) = false)∧True))) (by kernel_rfl)
    ⟨oK,oK,oK,oK,oK,oK,oK,oK,⟨oK,(by rw [h1]; rfl)⟩,oK,oK,oK,oK,(contains_ok _ (by first | omega | (simp; first | done | omega))),⟨oK,(by rw [h2]; rfl)⟩,oK⟩ ?_
  refine Ev.cond false rfl (fun h => (by cases h)) (fun _ => ?_)
  refine Ev.skip ?_
  refine Ev.seq ?_
  refine Ev.reg [(3,.call none false (i6 (if w < ws.getD 0 0 then 0 else w))),(4,.val (yf21 ws k w))] [4,7,9] (st' := ⟨[(4,yf8),(7,yf9),(9,(yf21 ws k w))],(yf16 ws xs k w)⟩)
    (p := T3 (callOb Try.prog 60 (yf16 ws xs k w) [(yf17 ws xs k w)] none false (i6 (if w < ws.getD 0 0 then 0 else w))∧(True∧(if w < ws.getD 0 0 then 0 else w) = (wvF 13 ws k w))∧True)) (by kernel_rfl)
    ⟨oK,oK,oK,(wext_ok _ _ _ _ (by omega) (by assumption)),⟨oK,(by first | rfl | simp [wvF])⟩,oK⟩ ?_
  refine Ev.seq ?_
  refine Ev.any [(3,.call none false (yf31 ws k w)),(6,.val (dB false))] [((bm 7 0),(zwv_13_1_0 ws xs k w)),((bm 7 1),(zwv_13_1_1 ws xs k w)),((bm 7 2),(zwv_13_1_2 ws xs k w)),((bm 7 4),(zwv_13_1_3 ws xs k w)),((bm 7 3),(zwv_13_1_4 ws xs k w)),((bm 7 5),(zwv_13_1_5 ws xs k w)),((bm 7 6),(zwv_13_1_6 ws xs k w)),((bm 7 12),(zwv_13_1_7 ws xs k w)),((bm 7 7),(zwv_13_1_8 ws xs k w)),((bm 7 13),(zwv_13_1_9 ws xs k w)),((bm 7 14),(zwv_13_1_10 ws xs k w)),((bm 7 15),(zwv_13_1_11 ws xs k w)),((bm 7 29),(zwv_13_1_12 ws xs k w)),((bm 7 31),(zwv_13_1_13 ws xs k w)),((bm 7 63),(zwv_13_1_14 ws xs k w)),((bm 7 127),(zwv_13_1_15 ws xs k w))] (st0 := (zwv_13_1_0 ws xs k w)) (st' := ⟨[(4,yf8),(5,(yf21 ws k w)),(6,(dB false))],(yf39 ws xs k w)⟩)
    (p := ((sE (zwv_13_1_1 ws xs k w) (True))∧(sE (zwv_13_1_2 ws xs k w) (True))∧(sE (zwv_13_1_3 ws xs k w) (True))∧True)∧((sE (zwv_13_1_4 ws xs k w) (True))∧(sE (zwv_13_1_5 ws xs k w) (True))∧True)∧((sE (zwv_13_1_4 ws xs k w) (True))∧(sE (zwv_13_1_6 ws xs k w) (True))∧True)∧((sE (zwv_13_1_5 ws xs k w) (True))∧(sE (zwv_13_1_6 ws xs k w) (True))∧(sE (zwv_13_1_7 ws xs k w) (callOb Try.prog 37 (yf16 ws xs k w) [(yf21 ws k w)] none false (yf31 ws k w)))∧True)∧((sE (zwv_13_1_8 ws xs k w) (True))∧True)∧((sE (zwv_13_1_8 ws xs k w) (True))∧(sE (zwv_13_1_9 ws xs k w) (callOb Try.prog 37 (yf16 ws xs k w) [(yf21 ws k w)] none false (yf31 ws k w)))∧True)∧((sE (zwv_13_1_8 ws xs k w) (True))∧(sE (zwv_13_1_10 ws xs k w) (callOb Try.prog 37 (yf16 ws xs k w) [(yf21 ws k w)] none false (yf31 ws k w)))∧True)∧((sE (zwv_13_1_9 ws xs k w) (True))∧(sE (zwv_13_1_10 ws xs k w) (True))∧True)∧((sE (zwv_13_1_11 ws xs k w) (callOb Try.prog 37 (yf16 ws xs k w) [(yf21 ws k w)] none false (yf31 ws k w)))∧True)∧((sE (zwv_13_1_11 ws xs k w) (True))∧(sE (zwv_13_1_12 ws xs k w) (True))∧True)∧((sE (zwv_13_1_11 ws xs k w) (True))∧True)∧((sE (zwv_13_1_13 ws xs k w) (True))∧True)∧((sE (zwv_13_1_13 ws xs k w) (True))∧True)∧((sE (zwv_13_1_14 ws xs k w) (True))∧True)∧((sE (zwv_13_1_15 ws xs k w) ((True∧(fitsF (wvF 13 ws k w)) = false)))∧True)∧True∧True) (by kernel_rfl) (by kernel_rfl) (by kernel_rfl) (by kernel_rfl) (by kernel_rfl) (by kernel_rfl)
    ⟨⟨⟨rfl,oK,oK⟩,⟨rfl,oK,oK⟩,⟨rfl,oK,oK⟩,oK⟩,⟨⟨rfl,oK,oK⟩,⟨rfl,oK,oK⟩,oK⟩,⟨⟨rfl,oK,oK⟩,⟨rfl,oK,oK⟩,oK⟩,⟨⟨rfl,oK,oK⟩,⟨rfl,oK,oK⟩,⟨rfl,(fits_ok _),oK⟩,oK⟩,⟨⟨rfl,oK,oK⟩,oK⟩,⟨⟨rfl,oK,oK⟩,⟨rfl,(fits_ok _),oK⟩,oK⟩,⟨⟨rfl,oK,oK⟩,⟨rfl,(fits_ok _),oK⟩,oK⟩,⟨⟨rfl,oK,oK⟩,⟨rfl,oK,oK⟩,oK⟩,⟨⟨rfl,(fits_ok _),oK⟩,oK⟩,⟨⟨rfl,oK,oK⟩,⟨rfl,oK,oK⟩,oK⟩,⟨⟨rfl,oK,oK⟩,oK⟩,⟨⟨rfl,oK,oK⟩,oK⟩,⟨⟨rfl,oK,oK⟩,oK⟩,⟨⟨rfl,oK,oK⟩,oK⟩,⟨⟨rfl,⟨oK,(by first | exact h3 | simpa [wvF] using h3)⟩,oK⟩,oK⟩,oK,oK⟩ ?_
  refine Ev.ret ?_
  refine ⟨⟨oK,oK,oK,oK⟩,(?_ : ((1 : Int) = 1∧((.fn (.func 60) [] []) : D) = (.fn (.func 60) [] [])∧((.fn (.func 61) [] []) : D) = (.fn (.func 61) [] [])∧True)∧(wvF 13 ws k w) = (wvF 13 ws k w)∧false = false∧True),.inl rfl⟩
  exact ⟨⟨rfl,rfl,rfl,oK⟩,rfl,rfl,oK⟩

set_option maxRecDepth 100000 in
theorem width_none (op : Int) (ws xs : List Int) (k w : Int) (hop : op < 1 ∨ 13 < op) : CallOk Try.prog 27 [(i6 op),(yf17 ws xs k w)] [] true yf26 [] := by
  refine CallOk.of_ev Try.func27 rfl rfl rfl ?_
  rintro ⟨_,W,S0,_,susp,_⟩ rfl rfl rfl
  refine Ev.seq ?_
  refine Ev.reg [] [0,3,4] (st' := ⟨[(0,(i6 op)),(3,yf10),(4,yf8)],(yf47 ws xs k w)⟩)
    (p := T4 True) (by kernel_rfl)
    ⟨oK,oK,oK,oK,oK⟩ ?_
  refine Ev.seq ?_
  refine Ev.reg [(0,.call none false (.v (.mp simpleM))),(2,.idx none)] [0,3,4,7,8] (st' := ⟨[(0,(i6 op)),(3,yf10),(4,yf8),(7,yf9),(8,(dB false))],(yf27 ws xs k w)⟩)
    (p := callOb Try.prog 33 (yf47 ws xs k w) [] none false (.v (.mp simpleM))∧True∧(∀ e' ∈ simpleM,op ≠ e'.1)∧True∧True∧True∧True∧True∧True∧True) (by kernel_rfl)
    ⟨simple_ok,oK,(fun e' he' => by simp only [simpleM,List.mem_cons,List.not_mem_nil,or_false] at he'; rcases he' with rfl | rfl | rfl | rfl | rfl | rfl | rfl | rfl <;> simp only [ne_eq] <;> omega),oK,oK,oK,oK,oK,oK,oK⟩ ?_
  refine Ev.seq ?_
  refine Ev.seq ?_
  refine Ev.reg [] [0,3,4,7,8,17] (st' := ⟨[(0,(i6 op)),(3,yf10),(4,yf8),(7,yf9),(8,(dB false)),(17,(dB true))],(yf27 ws xs k w)⟩)
    (p := T2 True) (by kernel_rfl)
    ⟨oK,oK,oK⟩ ?_
  refine Ev.cond true rfl (fun _ => ?_) (fun h => (by cases h))
  refine Ev.reg [(0,.call none false (.v (.mp othersM))),(2,.idx none)] [3,4,7,8] (st' := ⟨[(3,yf10),(4,yf8),(7,yf9),(8,(dB false))],(yf27 ws xs k w)⟩)
    (p := callOb Try.prog 34 (yf27 ws xs k w) [] none false (.v (.mp othersM))∧True∧(∀ e' ∈ othersM,op ≠ e'.1)∧True∧True∧True∧True∧True∧True) (by kernel_rfl)
    ⟨others_ok,oK,(fun e' he' => by simp only [othersM,List.mem_cons,List.not_mem_nil,or_false] at he'; rcases he' with rfl | rfl | rfl | rfl | rfl <;> simp only [ne_eq] <;> omega),oK,oK,oK,oK,oK,oK⟩ ?_
  refine Ev.seq ?_
  refine Ev.seq ?_
  refine Ev.reg [] [3,4,7,38] (st' := ⟨[(3,yf10),(4,yf8),(7,yf9),(38,(dB true))],(yf27 ws xs k w)⟩)
    (p := T9 (T6 True)) (by kernel_rfl)
    ⟨oK,oK,oK,oK,oK,oK,oK,oK,oK,oK,oK,oK,oK,oK,oK,oK⟩ ?_
  refine Ev.cond true rfl (fun _ => ?_) (fun h => (by cases h))
  refine Ev.seq ?_
  refine Ev.reg [] [4,5,6] (st' := ⟨[(4,yf8),(5,(i6 0)),(6,(dB false))],(yf27 ws xs k w)⟩)
    (p := T4 True) (by kernel_rfl)
    ⟨oK,oK,oK,oK,oK⟩ ?_
  refine Ev.ret ?_
  refine ⟨⟨oK,oK,oK,oK⟩,(?_ : ((0 : Int) = 0∧True∧True∧True)∧(0 : Int) = 0∧false = false∧True),.inl rfl⟩
  exact ⟨⟨rfl,oK,oK,oK⟩,rfl,rfl,oK⟩

end Go.Proofs.Ytaghhicmnalmmaa
