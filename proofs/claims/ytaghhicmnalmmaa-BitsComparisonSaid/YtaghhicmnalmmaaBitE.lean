/-
  Package bits: widths of operations.
-/
import Derived.Test.YtaghhicmnalmmaaBitD
namespace Go.Proofs.Ytaghhicmnalmmaa
open Go.RowKit
set_option linter.unusedVariables false
set_option linter.unusedSimpArgs false

def zg_1_1_0 (ws xs : List Int) (k w : Int) : St := ⟨[(4,(.ptr 1 0 0 0)),(7,(.ptr 2 0 0 0)),(9,(i6 (wvF 1 ws k w)))],[(.var 61 [(LI ws),(LI xs),(i6 k),(i6 w)]),(.var 57 [(i6 0),(.v .nilf),(.v .nilf)]),(.var 57 [(i6 0),(.fn (.func 52) [] []),(.fn (.func 53) [] [])])]⟩
def zg_1_1_1 (ws xs : List Int) (k w : Int) : St := ⟨[(4,(.ptr 1 0 0 0)),(7,(.ptr 2 0 0 0)),(9,(i6 (wvF 1 ws k w))),(44,(.agg [(i6 0),(.fn (.func 52) [] []),(.fn (.func 53) [] [])]))],[(.var 61 [(LI ws),(LI xs),(i6 k),(i6 w)]),(.var 57 [(i6 0),(.v .nilf),(.v .nilf)]),(.var 57 [(i6 0),(.fn (.func 52) [] []),(.fn (.func 53) [] [])])]⟩
def zg_1_1_2 (ws xs : List Int) (k w : Int) : St := ⟨[(4,(.ptr 1 0 0 0)),(7,(.ptr 2 0 0 0)),(9,(i6 (wvF 1 ws k w))),(45,(i6 (wvF 1 ws k w)))],[(.var 61 [(LI ws),(LI xs),(i6 k),(i6 w)]),(.var 57 [(i6 0),(.v .nilf),(.v .nilf)]),(.var 57 [(i6 0),(.fn (.func 52) [] []),(.fn (.func 53) [] [])])]⟩
def zg_1_1_3 (ws xs : List Int) (k w : Int) : St := ⟨[(4,(.ptr 1 0 0 0)),(7,(.ptr 2 0 0 0)),(9,(i6 (wvF 1 ws k w))),(46,(i6 (wvF 1 ws k w)))],[(.var 61 [(LI ws),(LI xs),(i6 k),(i6 w)]),(.var 57 [(i6 0),(.v .nilf),(.v .nilf)]),(.var 57 [(i6 0),(.fn (.func 52) [] []),(.fn (.func 53) [] [])])]⟩
def zg_1_1_4 (ws xs : List Int) (k w : Int) : St := ⟨[(4,(.ptr 1 0 0 0)),(7,(.ptr 2 0 0 0)),(9,(i6 (wvF 1 ws k w))),(44,(.agg [(i6 0),(.fn (.func 52) [] []),(.fn (.func 53) [] [])])),(45,(i6 (wvF 1 ws k w)))],[(.var 61 [(LI ws),(LI xs),(i6 k),(i6 w)]),(.var 57 [(i6 0),(.v .nilf),(.v .nilf)]),(.var 57 [(i6 0),(.fn (.func 52) [] []),(.fn (.func 53) [] [])])]⟩
def zg_1_1_5 (ws xs : List Int) (k w : Int) : St := ⟨[(4,(.ptr 1 0 0 0)),(7,(.ptr 2 0 0 0)),(9,(i6 (wvF 1 ws k w))),(44,(.agg [(i6 0),(.fn (.func 52) [] []),(.fn (.func 53) [] [])])),(46,(i6 (wvF 1 ws k w)))],[(.var 61 [(LI ws),(LI xs),(i6 k),(i6 w)]),(.var 57 [(i6 0),(.v .nilf),(.v .nilf)]),(.var 57 [(i6 0),(.fn (.func 52) [] []),(.fn (.func 53) [] [])])]⟩
def zg_1_1_6 (ws xs : List Int) (k w : Int) : St := ⟨[(4,(.ptr 1 0 0 0)),(7,(.ptr 2 0 0 0)),(9,(i6 (wvF 1 ws k w))),(45,(i6 (wvF 1 ws k w))),(46,(i6 (wvF 1 ws k w)))],[(.var 61 [(LI ws),(LI xs),(i6 k),(i6 w)]),(.var 57 [(i6 0),(.v .nilf),(.v .nilf)]),(.var 57 [(i6 0),(.fn (.func 52) [] []),(.fn (.func 53) [] [])])]⟩
def zg_1_1_7 (ws xs : List Int) (k w : Int) : St := ⟨[(4,(.ptr 1 0 0 0)),(7,(.ptr 2 0 0 0)),(9,(i6 (wvF 1 ws k w))),(46,(i6 (wvF 1 ws k w))),(47,(dB (fitsF (wvF 1 ws k w))))],[(.var 61 [(LI ws),(LI xs),(i6 k),(i6 w)]),(.var 57 [(i6 0),(.v .nilf),(.v .nilf)]),(.var 57 [(i6 0),(.fn (.func 52) [] []),(.fn (.func 53) [] [])])]⟩
def zg_1_1_8 (ws xs : List Int) (k w : Int) : St := ⟨[(4,(.ptr 1 0 0 0)),(7,(.ptr 2 0 0 0)),(9,(i6 (wvF 1 ws k w))),(44,(.agg [(i6 0),(.fn (.func 52) [] []),(.fn (.func 53) [] [])])),(45,(i6 (wvF 1 ws k w))),(46,(i6 (wvF 1 ws k w)))],[(.var 61 [(LI ws),(LI xs),(i6 k),(i6 w)]),(.var 57 [(i6 0),(.v .nilf),(.v .nilf)]),(.var 57 [(i6 0),(.fn (.func 52) [] []),(.fn (.func 53) [] [])])]⟩
def zg_1_1_9 (ws xs : List Int) (k w : Int) : St := ⟨[(4,(.ptr 1 0 0 0)),(7,(.ptr 2 0 0 0)),(9,(i6 (wvF 1 ws k w))),(44,(.agg [(i6 0),(.fn (.func 52) [] []),(.fn (.func 53) [] [])])),(46,(i6 (wvF 1 ws k w))),(47,(dB (fitsF (wvF 1 ws k w))))],[(.var 61 [(LI ws),(LI xs),(i6 k),(i6 w)]),(.var 57 [(i6 0),(.v .nilf),(.v .nilf)]),(.var 57 [(i6 0),(.fn (.func 52) [] []),(.fn (.func 53) [] [])])]⟩
def zg_1_1_10 (ws xs : List Int) (k w : Int) : St := ⟨[(4,(.ptr 1 0 0 0)),(7,(.ptr 2 0 0 0)),(9,(i6 (wvF 1 ws k w))),(45,(i6 (wvF 1 ws k w))),(46,(i6 (wvF 1 ws k w))),(47,(dB (fitsF (wvF 1 ws k w))))],[(.var 61 [(LI ws),(LI xs),(i6 k),(i6 w)]),(.var 57 [(i6 0),(.v .nilf),(.v .nilf)]),(.var 57 [(i6 0),(.fn (.func 52) [] []),(.fn (.func 53) [] [])])]⟩
def zg_1_1_11 (ws xs : List Int) (k w : Int) : St := ⟨[(4,(.ptr 1 0 0 0)),(7,(.ptr 2 0 0 0)),(9,(i6 (wvF 1 ws k w))),(44,(.agg [(i6 0),(.fn (.func 52) [] []),(.fn (.func 53) [] [])])),(45,(i6 (wvF 1 ws k w))),(46,(i6 (wvF 1 ws k w))),(47,(dB (fitsF (wvF 1 ws k w))))],[(.var 61 [(LI ws),(LI xs),(i6 k),(i6 w)]),(.var 57 [(i6 0),(.v .nilf),(.v .nilf)]),(.var 57 [(i6 0),(.fn (.func 52) [] []),(.fn (.func 53) [] [])])]⟩
def zg_1_1_12 (ws xs : List Int) (k w : Int) : St := ⟨[(4,(.ptr 1 0 0 0)),(7,(.ptr 2 0 0 0)),(9,(i6 (wvF 1 ws k w))),(44,(.agg [(i6 0),(.fn (.func 52) [] []),(.fn (.func 53) [] [])])),(46,(i6 (wvF 1 ws k w))),(47,(dB (fitsF (wvF 1 ws k w))))],[(.var 61 [(LI ws),(LI xs),(i6 k),(i6 w)]),(.var 57 [(i6 0),(.fn (.func 52) [] []),(.fn (.func 53) [] [])]),(.var 57 [(i6 0),(.fn (.func 52) [] []),(.fn (.func 53) [] [])])]⟩
def zg_1_1_13 (ws xs : List Int) (k w : Int) : St := ⟨[(4,(.ptr 1 0 0 0)),(7,(.ptr 2 0 0 0)),(9,(i6 (wvF 1 ws k w))),(44,(.agg [(i6 0),(.fn (.func 52) [] []),(.fn (.func 53) [] [])])),(45,(i6 (wvF 1 ws k w))),(46,(i6 (wvF 1 ws k w))),(47,(dB (fitsF (wvF 1 ws k w))))],[(.var 61 [(LI ws),(LI xs),(i6 k),(i6 w)]),(.var 57 [(i6 0),(.fn (.func 52) [] []),(.fn (.func 53) [] [])]),(.var 57 [(i6 0),(.fn (.func 52) [] []),(.fn (.func 53) [] [])])]⟩
def zg_1_1_14 (ws xs : List Int) (k w : Int) : St := ⟨[(4,(.ptr 1 0 0 0)),(5,(i6 (wvF 1 ws k w))),(7,(.ptr 2 0 0 0)),(9,(i6 (wvF 1 ws k w))),(44,(.agg [(i6 0),(.fn (.func 52) [] []),(.fn (.func 53) [] [])])),(45,(i6 (wvF 1 ws k w))),(46,(i6 (wvF 1 ws k w))),(47,(dB (fitsF (wvF 1 ws k w))))],[(.var 61 [(LI ws),(LI xs),(i6 k),(i6 w)]),(.var 57 [(i6 0),(.fn (.func 52) [] []),(.fn (.func 53) [] [])]),(.var 57 [(i6 0),(.fn (.func 52) [] []),(.fn (.func 53) [] [])])]⟩
def zg_1_1_15 (ws xs : List Int) (k w : Int) : St := ⟨[(4,(.ptr 1 0 0 0)),(5,(i6 (wvF 1 ws k w))),(6,(dB true))],[(.var 61 [(LI ws),(LI xs),(i6 k),(i6 w)]),(.var 57 [(i6 0),(.fn (.func 52) [] []),(.fn (.func 53) [] [])]),(.var 57 [(i6 0),(.fn (.func 52) [] []),(.fn (.func 53) [] [])])]⟩
set_option maxRecDepth 100000 in
theorem width_good_1 (ws xs : List Int) (k w : Int) (hw : ws.length ≤ 9223372036854775807) (h : okF 1 ws k w = true) : CallOk Try.prog 27 [(i6 1),(.agg [(LI ws),(LI xs),(i6 k),(i6 w)])] [] true (.tup [(.agg [(i6 0),(.fn (.func 52) [] []),(.fn (.func 53) [] [])]),(i6 (wvF 1 ws k w)),(dB true)]) [] := by
  refine CallOk.of_ev Try.func27 rfl rfl rfl ?_
  rintro ⟨_,W,S0,_,susp,_⟩ rfl rfl rfl
  obtain ⟨h1,h2,h3⟩ := ok_yes h
  have hA : arityF 1 = 0 := by decide
  rw [hA] at h1
  refine Ev.seq ?_
  refine Ev.reg [] [0,3,4] (st' := ⟨[(0,(i6 1)),(3,(.ptr 0 0 0 0)),(4,(.ptr 1 0 0 0))],[(.var 61 [(LI ws),(LI xs),(i6 k),(i6 w)]),(.var 57 [(i6 0),(.v .nilf),(.v .nilf)])]⟩)
    (p := True∧True∧True∧True∧True) (by kernel_rfl)
    ⟨⟨⟩,⟨⟩,⟨⟩,⟨⟩,⟨⟩⟩ ?_
  refine Ev.seq ?_
  refine Ev.reg [(0,.call none false (.v (.mp simpleM))),(2,.idx none)] [0,3,4,7,8] (st' := ⟨[(0,(i6 1)),(3,(.ptr 0 0 0 0)),(4,(.ptr 1 0 0 0)),(7,(.ptr 2 0 0 0)),(8,(dB false))],[(.var 61 [(LI ws),(LI xs),(i6 k),(i6 w)]),(.var 57 [(i6 0),(.v .nilf),(.v .nilf)]),(.var 57 [(i6 0),(.v .nilf),(.v .nilf)])]⟩)
    (p := callOb Try.prog 33 [(.var 61 [(LI ws),(LI xs),(i6 k),(i6 w)]),(.var 57 [(i6 0),(.v .nilf),(.v .nilf)])] [] none false (.v (.mp simpleM))∧True∧(∀ e' ∈ simpleM,1 ≠ e'.1)∧True∧True∧True∧True∧True∧True∧True) (by kernel_rfl)
    ⟨simple_ok,⟨⟩,(by decide),⟨⟩,⟨⟩,⟨⟩,⟨⟩,⟨⟩,⟨⟩,⟨⟩⟩ ?_
  refine Ev.seq ?_
  refine Ev.seq ?_
  refine Ev.reg [] [0,3,4,7,8,17] (st' := ⟨[(0,(i6 1)),(3,(.ptr 0 0 0 0)),(4,(.ptr 1 0 0 0)),(7,(.ptr 2 0 0 0)),(8,(dB false)),(17,(dB true))],[(.var 61 [(LI ws),(LI xs),(i6 k),(i6 w)]),(.var 57 [(i6 0),(.v .nilf),(.v .nilf)]),(.var 57 [(i6 0),(.v .nilf),(.v .nilf)])]⟩)
    (p := True∧True∧True) (by kernel_rfl)
    ⟨⟨⟩,⟨⟩,⟨⟩⟩ ?_
  refine Ev.cond true rfl (fun _ => ?_) (fun h => (by cases h))
  refine Ev.reg [(0,.call none false (.v (.mp othersM))),(2,.idx (some 0))] [3,4,7,8] (st' := ⟨[(3,(.ptr 0 0 0 0)),(4,(.ptr 1 0 0 0)),(7,(.ptr 2 0 0 0)),(8,(dB true))],[(.var 61 [(LI ws),(LI xs),(i6 k),(i6 w)]),(.var 57 [(i6 0),(.v .nilf),(.v .nilf)]),(.var 57 [(i6 0),(.fn (.func 52) [] []),(.fn (.func 53) [] [])])]⟩)
    (p := callOb Try.prog 34 [(.var 61 [(LI ws),(LI xs),(i6 k),(i6 w)]),(.var 57 [(i6 0),(.v .nilf),(.v .nilf)]),(.var 57 [(i6 0),(.v .nilf),(.v .nilf)])] [] none false (.v (.mp othersM))∧True∧((1 : Int) = 1∧∀ e' ∈ othersM.take 0,(1 : Int) ≠ e'.1)∧True∧True∧True∧True∧True∧True) (by kernel_rfl)
    ⟨others_ok,⟨⟩,(by decide),⟨⟩,⟨⟩,⟨⟩,⟨⟩,⟨⟩,⟨⟩⟩ ?_
  refine Ev.seq ?_
  refine Ev.seq ?_
  refine Ev.reg [(8,.val (dB false)),(13,.call none false (dB (!(ws.all fitsF)))),(14,.val (dB false))] [3,4,7,38] (st' := ⟨[(3,(.ptr 0 0 0 0)),(4,(.ptr 1 0 0 0)),(7,(.ptr 2 0 0 0)),(38,(dB false))],[(.var 61 [(LI ws),(LI xs),(i6 k),(i6 w)]),(.var 57 [(i6 0),(.v .nilf),(.v .nilf)]),(.var 57 [(i6 0),(.fn (.func 52) [] []),(.fn (.func 53) [] [])])]⟩)
    (p := True∧True∧True∧True∧True∧True∧True∧True∧(True∧(((ws.length : Nat) : Int) != 0) = false)∧True∧True∧True∧True∧callOb Try.prog 35 [(.var 61 [(LI ws),(LI xs),(i6 k),(i6 w)]),(.var 57 [(i6 0),(.v .nilf),(.v .nilf)]),(.var 57 [(i6 0),(.fn (.func 52) [] []),(.fn (.func 53) [] [])])] [(LI ws),(.fn (.func 36) [] [])] none false (dB (!(ws.all fitsF)))∧(True∧(!(ws.all fitsF)) = false)∧True) (by kernel_rfl)
    ⟨⟨⟩,⟨⟩,⟨⟩,⟨⟩,⟨⟩,⟨⟩,⟨⟩,⟨⟩,⟨⟨⟩,(by rw [h1]; rfl)⟩,⟨⟩,⟨⟩,⟨⟩,⟨⟩,(contains_ok _ (by first | omega | (simp; first | done | omega))),⟨⟨⟩,(by rw [h2]; rfl)⟩,⟨⟩⟩ ?_
  refine Ev.cond false rfl (fun h => (by cases h)) (fun _ => ?_)
  refine Ev.skip ?_
  refine Ev.seq ?_
  refine Ev.reg [(3,.call none false (i6 (if fitsF w = false ∨ k < 0 ∨ maskF w < k then 0 else w))),(4,.val (i6 (wvF 1 ws k w)))] [4,7,9] (st' := ⟨[(4,(.ptr 1 0 0 0)),(7,(.ptr 2 0 0 0)),(9,(i6 (wvF 1 ws k w)))],[(.var 61 [(LI ws),(LI xs),(i6 k),(i6 w)]),(.var 57 [(i6 0),(.v .nilf),(.v .nilf)]),(.var 57 [(i6 0),(.fn (.func 52) [] []),(.fn (.func 53) [] [])])]⟩)
    (p := True∧True∧True∧(callOb Try.prog 52 [(.var 61 [(LI ws),(LI xs),(i6 k),(i6 w)]),(.var 57 [(i6 0),(.v .nilf),(.v .nilf)]),(.var 57 [(i6 0),(.fn (.func 52) [] []),(.fn (.func 53) [] [])])] [(.agg [(LI ws),(LI xs),(i6 k),(i6 w)])] none false (i6 (if fitsF w = false ∨ k < 0 ∨ maskF w < k then 0 else w)))∧(True∧((if fitsF w = false ∨ k < 0 ∨ maskF w < k then 0 else w) = (wvF 1 ws k w)))∧True) (by kernel_rfl)
    ⟨⟨⟩,⟨⟩,⟨⟩,(wconst_ok _ _ _ _ (by omega) (by assumption)),⟨⟨⟩,(by first | rfl | simp [wvF])⟩,⟨⟩⟩ ?_
  refine Ev.seq ?_
  refine Ev.any [(3,.call none false (dB (fitsF (wvF 1 ws k w)))),(6,.val (dB true))] [((bm 7 0),(zg_1_1_0 ws xs k w)),((bm 7 1),(zg_1_1_1 ws xs k w)),((bm 7 2),(zg_1_1_2 ws xs k w)),((bm 7 4),(zg_1_1_3 ws xs k w)),((bm 7 3),(zg_1_1_4 ws xs k w)),((bm 7 5),(zg_1_1_5 ws xs k w)),((bm 7 6),(zg_1_1_6 ws xs k w)),((bm 7 12),(zg_1_1_7 ws xs k w)),((bm 7 7),(zg_1_1_8 ws xs k w)),((bm 7 13),(zg_1_1_9 ws xs k w)),((bm 7 14),(zg_1_1_10 ws xs k w)),((bm 7 15),(zg_1_1_11 ws xs k w)),((bm 7 29),(zg_1_1_12 ws xs k w)),((bm 7 31),(zg_1_1_13 ws xs k w)),((bm 7 63),(zg_1_1_14 ws xs k w)),((bm 7 127),(zg_1_1_15 ws xs k w))] (st0 := (zg_1_1_0 ws xs k w)) (st' := ⟨[(4,(.ptr 1 0 0 0)),(5,(i6 (wvF 1 ws k w))),(6,(dB true))],[(.var 61 [(LI ws),(LI xs),(i6 k),(i6 w)]),(.var 57 [(i6 0),(.fn (.func 52) [] []),(.fn (.func 53) [] [])]),(.var 57 [(i6 0),(.fn (.func 52) [] []),(.fn (.func 53) [] [])])]⟩)
    (p := ((((zg_1_1_1 ws xs k w) : St) = (zg_1_1_1 ws xs k w)∧True∧True)∧(((zg_1_1_2 ws xs k w) : St) = (zg_1_1_2 ws xs k w)∧True∧True)∧(((zg_1_1_3 ws xs k w) : St) = (zg_1_1_3 ws xs k w)∧True∧True)∧True)∧((((zg_1_1_4 ws xs k w) : St) = (zg_1_1_4 ws xs k w)∧True∧True)∧(((zg_1_1_5 ws xs k w) : St) = (zg_1_1_5 ws xs k w)∧True∧True)∧True)∧((((zg_1_1_4 ws xs k w) : St) = (zg_1_1_4 ws xs k w)∧True∧True)∧(((zg_1_1_6 ws xs k w) : St) = (zg_1_1_6 ws xs k w)∧True∧True)∧True)∧((((zg_1_1_5 ws xs k w) : St) = (zg_1_1_5 ws xs k w)∧True∧True)∧(((zg_1_1_6 ws xs k w) : St) = (zg_1_1_6 ws xs k w)∧True∧True)∧(((zg_1_1_7 ws xs k w) : St) = (zg_1_1_7 ws xs k w)∧callOb Try.prog 37 [(.var 61 [(LI ws),(LI xs),(i6 k),(i6 w)]),(.var 57 [(i6 0),(.v .nilf),(.v .nilf)]),(.var 57 [(i6 0),(.fn (.func 52) [] []),(.fn (.func 53) [] [])])] [(i6 (wvF 1 ws k w))] none false (dB (fitsF (wvF 1 ws k w)))∧True)∧True)∧((((zg_1_1_8 ws xs k w) : St) = (zg_1_1_8 ws xs k w)∧True∧True)∧True)∧((((zg_1_1_8 ws xs k w) : St) = (zg_1_1_8 ws xs k w)∧True∧True)∧(((zg_1_1_9 ws xs k w) : St) = (zg_1_1_9 ws xs k w)∧callOb Try.prog 37 [(.var 61 [(LI ws),(LI xs),(i6 k),(i6 w)]),(.var 57 [(i6 0),(.v .nilf),(.v .nilf)]),(.var 57 [(i6 0),(.fn (.func 52) [] []),(.fn (.func 53) [] [])])] [(i6 (wvF 1 ws k w))] none false (dB (fitsF (wvF 1 ws k w)))∧True)∧True)∧((((zg_1_1_8 ws xs k w) : St) = (zg_1_1_8 ws xs k w)∧True∧True)∧(((zg_1_1_10 ws xs k w) : St) = (zg_1_1_10 ws xs k w)∧callOb Try.prog 37 [(.var 61 [(LI ws),(LI xs),(i6 k),(i6 w)]),(.var 57 [(i6 0),(.v .nilf),(.v .nilf)]),(.var 57 [(i6 0),(.fn (.func 52) [] []),(.fn (.func 53) [] [])])] [(i6 (wvF 1 ws k w))] none false (dB (fitsF (wvF 1 ws k w)))∧True)∧True)∧((((zg_1_1_9 ws xs k w) : St) = (zg_1_1_9 ws xs k w)∧True∧True)∧(((zg_1_1_10 ws xs k w) : St) = (zg_1_1_10 ws xs k w)∧True∧True)∧True)∧((((zg_1_1_11 ws xs k w) : St) = (zg_1_1_11 ws xs k w)∧callOb Try.prog 37 [(.var 61 [(LI ws),(LI xs),(i6 k),(i6 w)]),(.var 57 [(i6 0),(.v .nilf),(.v .nilf)]),(.var 57 [(i6 0),(.fn (.func 52) [] []),(.fn (.func 53) [] [])])] [(i6 (wvF 1 ws k w))] none false (dB (fitsF (wvF 1 ws k w)))∧True)∧True)∧((((zg_1_1_11 ws xs k w) : St) = (zg_1_1_11 ws xs k w)∧True∧True)∧(((zg_1_1_12 ws xs k w) : St) = (zg_1_1_12 ws xs k w)∧True∧True)∧True)∧((((zg_1_1_11 ws xs k w) : St) = (zg_1_1_11 ws xs k w)∧True∧True)∧True)∧((((zg_1_1_13 ws xs k w) : St) = (zg_1_1_13 ws xs k w)∧True∧True)∧True)∧((((zg_1_1_13 ws xs k w) : St) = (zg_1_1_13 ws xs k w)∧True∧True)∧True)∧((((zg_1_1_14 ws xs k w) : St) = (zg_1_1_14 ws xs k w)∧True∧True)∧True)∧((((zg_1_1_15 ws xs k w) : St) = (zg_1_1_15 ws xs k w)∧(True∧(fitsF (wvF 1 ws k w)) = true)∧True)∧True)∧True∧True) (by kernel_rfl) (by kernel_rfl) (by kernel_rfl) (by kernel_rfl) (by kernel_rfl) (by kernel_rfl)
    ⟨⟨⟨rfl,⟨⟩,⟨⟩⟩,⟨rfl,⟨⟩,⟨⟩⟩,⟨rfl,⟨⟩,⟨⟩⟩,⟨⟩⟩,⟨⟨rfl,⟨⟩,⟨⟩⟩,⟨rfl,⟨⟩,⟨⟩⟩,⟨⟩⟩,⟨⟨rfl,⟨⟩,⟨⟩⟩,⟨rfl,⟨⟩,⟨⟩⟩,⟨⟩⟩,⟨⟨rfl,⟨⟩,⟨⟩⟩,⟨rfl,⟨⟩,⟨⟩⟩,⟨rfl,(fits_ok _),⟨⟩⟩,⟨⟩⟩,⟨⟨rfl,⟨⟩,⟨⟩⟩,⟨⟩⟩,⟨⟨rfl,⟨⟩,⟨⟩⟩,⟨rfl,(fits_ok _),⟨⟩⟩,⟨⟩⟩,⟨⟨rfl,⟨⟩,⟨⟩⟩,⟨rfl,(fits_ok _),⟨⟩⟩,⟨⟩⟩,⟨⟨rfl,⟨⟩,⟨⟩⟩,⟨rfl,⟨⟩,⟨⟩⟩,⟨⟩⟩,⟨⟨rfl,(fits_ok _),⟨⟩⟩,⟨⟩⟩,⟨⟨rfl,⟨⟩,⟨⟩⟩,⟨rfl,⟨⟩,⟨⟩⟩,⟨⟩⟩,⟨⟨rfl,⟨⟩,⟨⟩⟩,⟨⟩⟩,⟨⟨rfl,⟨⟩,⟨⟩⟩,⟨⟩⟩,⟨⟨rfl,⟨⟩,⟨⟩⟩,⟨⟩⟩,⟨⟨rfl,⟨⟩,⟨⟩⟩,⟨⟩⟩,⟨⟨rfl,⟨⟨⟩,(by first | exact h3 | simpa [wvF] using h3)⟩,⟨⟩⟩,⟨⟩⟩,⟨⟩,⟨⟩⟩ ?_
  refine Ev.ret ?_
  refine ⟨⟨⟨⟩,⟨⟩,⟨⟩,⟨⟩⟩,(?_ : ((0 : Int) = 0∧((.fn (.func 52) [] []) : D) = (.fn (.func 52) [] [])∧((.fn (.func 53) [] []) : D) = (.fn (.func 53) [] [])∧True)∧(wvF 1 ws k w) = (wvF 1 ws k w)∧true = true∧True),.inl rfl⟩
  exact ⟨⟨rfl,rfl,rfl,⟨⟩⟩,rfl,rfl,⟨⟩⟩

set_option maxRecDepth 100000 in
theorem width_bad_1 (ws xs : List Int) (k w : Int) (hw : ws.length ≤ 9223372036854775807) (h : okB 1 ws = false) : CallOk Try.prog 27 [(i6 1),(.agg [(LI ws),(LI xs),(i6 k),(i6 w)])] [] true (.tup [(.agg [(i6 0),(.v .nilf),(.v .nilf)]),(i6 0),(dB false)]) [] := by
  refine CallOk.of_ev Try.func27 rfl rfl rfl ?_
  rintro ⟨_,W,S0,_,susp,_⟩ rfl rfl rfl
  refine Ev.seq ?_
  refine Ev.reg [] [0,3,4] (st' := ⟨[(0,(i6 1)),(3,(.ptr 0 0 0 0)),(4,(.ptr 1 0 0 0))],[(.var 61 [(LI ws),(LI xs),(i6 k),(i6 w)]),(.var 57 [(i6 0),(.v .nilf),(.v .nilf)])]⟩)
    (p := True∧True∧True∧True∧True) (by kernel_rfl)
    ⟨⟨⟩,⟨⟩,⟨⟩,⟨⟩,⟨⟩⟩ ?_
  refine Ev.seq ?_
  refine Ev.reg [(0,.call none false (.v (.mp simpleM))),(2,.idx none)] [0,3,4,7,8] (st' := ⟨[(0,(i6 1)),(3,(.ptr 0 0 0 0)),(4,(.ptr 1 0 0 0)),(7,(.ptr 2 0 0 0)),(8,(dB false))],[(.var 61 [(LI ws),(LI xs),(i6 k),(i6 w)]),(.var 57 [(i6 0),(.v .nilf),(.v .nilf)]),(.var 57 [(i6 0),(.v .nilf),(.v .nilf)])]⟩)
    (p := callOb Try.prog 33 [(.var 61 [(LI ws),(LI xs),(i6 k),(i6 w)]),(.var 57 [(i6 0),(.v .nilf),(.v .nilf)])] [] none false (.v (.mp simpleM))∧True∧(∀ e' ∈ simpleM,1 ≠ e'.1)∧True∧True∧True∧True∧True∧True∧True) (by kernel_rfl)
    ⟨simple_ok,⟨⟩,(by decide),⟨⟩,⟨⟩,⟨⟩,⟨⟩,⟨⟩,⟨⟩,⟨⟩⟩ ?_
  refine Ev.seq ?_
  refine Ev.seq ?_
  refine Ev.reg [] [0,3,4,7,8,17] (st' := ⟨[(0,(i6 1)),(3,(.ptr 0 0 0 0)),(4,(.ptr 1 0 0 0)),(7,(.ptr 2 0 0 0)),(8,(dB false)),(17,(dB true))],[(.var 61 [(LI ws),(LI xs),(i6 k),(i6 w)]),(.var 57 [(i6 0),(.v .nilf),(.v .nilf)]),(.var 57 [(i6 0),(.v .nilf),(.v .nilf)])]⟩)
    (p := True∧True∧True) (by kernel_rfl)
    ⟨⟨⟩,⟨⟩,⟨⟩⟩ ?_
  refine Ev.cond true rfl (fun _ => ?_) (fun h => (by cases h))
  refine Ev.reg [(0,.call none false (.v (.mp othersM))),(2,.idx (some 0))] [3,4,7,8] (st' := ⟨[(3,(.ptr 0 0 0 0)),(4,(.ptr 1 0 0 0)),(7,(.ptr 2 0 0 0)),(8,(dB true))],[(.var 61 [(LI ws),(LI xs),(i6 k),(i6 w)]),(.var 57 [(i6 0),(.v .nilf),(.v .nilf)]),(.var 57 [(i6 0),(.fn (.func 52) [] []),(.fn (.func 53) [] [])])]⟩)
    (p := callOb Try.prog 34 [(.var 61 [(LI ws),(LI xs),(i6 k),(i6 w)]),(.var 57 [(i6 0),(.v .nilf),(.v .nilf)]),(.var 57 [(i6 0),(.v .nilf),(.v .nilf)])] [] none false (.v (.mp othersM))∧True∧((1 : Int) = 1∧∀ e' ∈ othersM.take 0,(1 : Int) ≠ e'.1)∧True∧True∧True∧True∧True∧True) (by kernel_rfl)
    ⟨others_ok,⟨⟩,(by decide),⟨⟩,⟨⟩,⟨⟩,⟨⟩,⟨⟩,⟨⟩⟩ ?_
  refine Ev.seq ?_
  refine Ev.seq ?_
  rcases okB_no h with h1 | ⟨h1,h2⟩
  · skip
    have hA : arityF 1 = 0 := by decide
    rw [hA] at h1
    refine Ev.reg [(8,.val (dB true))] [3,4,7,38] (st' := ⟨[(3,(.ptr 0 0 0 0)),(4,(.ptr 1 0 0 0)),(7,(.ptr 2 0 0 0)),(38,(dB true))],[(.var 61 [(LI ws),(LI xs),(i6 k),(i6 w)]),(.var 57 [(i6 0),(.v .nilf),(.v .nilf)]),(.var 57 [(i6 0),(.fn (.func 52) [] []),(.fn (.func 53) [] [])])]⟩)
      (p := True∧True∧True∧True∧True∧True∧True∧True∧(True∧(((ws.length : Nat) : Int) != 0) = true)∧True∧True∧True∧True∧True∧True∧True) (by kernel_rfl)
      ⟨⟨⟩,⟨⟩,⟨⟩,⟨⟩,⟨⟩,⟨⟩,⟨⟩,⟨⟩,⟨⟨⟩,(by exact bne_iff_ne.2 (by omega))⟩,⟨⟩,⟨⟩,⟨⟩,⟨⟩,⟨⟩,⟨⟩,⟨⟩⟩ ?_
    refine Ev.cond true rfl (fun _ => ?_) (fun h => (by cases h))
    refine Ev.seq ?_
    refine Ev.reg [] [4,5,6] (st' := ⟨[(4,(.ptr 1 0 0 0)),(5,(i6 0)),(6,(dB false))],[(.var 61 [(LI ws),(LI xs),(i6 k),(i6 w)]),(.var 57 [(i6 0),(.v .nilf),(.v .nilf)]),(.var 57 [(i6 0),(.fn (.func 52) [] []),(.fn (.func 53) [] [])])]⟩)
      (p := True∧True∧True∧True∧True) (by kernel_rfl)
      ⟨⟨⟩,⟨⟩,⟨⟩,⟨⟩,⟨⟩⟩ ?_
    refine Ev.ret ?_
    refine ⟨⟨⟨⟩,⟨⟩,⟨⟩,⟨⟩⟩,(?_ : ((0 : Int) = 0∧True∧True∧True)∧(0 : Int) = 0∧false = false∧True),.inl rfl⟩
    exact ⟨⟨rfl,⟨⟩,⟨⟩,⟨⟩⟩,rfl,rfl,⟨⟩⟩
  · skip
    have hA : arityF 1 = 0 := by decide
    rw [hA] at h1
    refine Ev.reg [(8,.val (dB false)),(13,.call none false (dB (!(ws.all fitsF)))),(14,.val (dB true))] [3,4,7,38] (st' := ⟨[(3,(.ptr 0 0 0 0)),(4,(.ptr 1 0 0 0)),(7,(.ptr 2 0 0 0)),(38,(dB true))],[(.var 61 [(LI ws),(LI xs),(i6 k),(i6 w)]),(.var 57 [(i6 0),(.v .nilf),(.v .nilf)]),(.var 57 [(i6 0),(.fn (.func 52) [] []),(.fn (.func 53) [] [])])]⟩)
      (p := True∧True∧True∧True∧True∧True∧True∧True∧(True∧(((ws.length : Nat) : Int) != 0) = false)∧True∧True∧True∧True∧callOb Try.prog 35 [(.var 61 [(LI ws),(LI xs),(i6 k),(i6 w)]),(.var 57 [(i6 0),(.v .nilf),(.v .nilf)]),(.var 57 [(i6 0),(.fn (.func 52) [] []),(.fn (.func 53) [] [])])] [(LI ws),(.fn (.func 36) [] [])] none false (dB (!(ws.all fitsF)))∧(True∧(!(ws.all fitsF)) = true)∧True) (by kernel_rfl)
      ⟨⟨⟩,⟨⟩,⟨⟩,⟨⟩,⟨⟩,⟨⟩,⟨⟩,⟨⟩,⟨⟨⟩,(by rw [h1]; rfl)⟩,⟨⟩,⟨⟩,⟨⟩,⟨⟩,(contains_ok _ (by first | omega | (simp; first | done | omega))),⟨⟨⟩,(by rw [h2]; rfl)⟩,⟨⟩⟩ ?_
    refine Ev.cond true rfl (fun _ => ?_) (fun h => (by cases h))
    refine Ev.seq ?_
    refine Ev.reg [] [4,5,6] (st' := ⟨[(4,(.ptr 1 0 0 0)),(5,(i6 0)),(6,(dB false))],[(.var 61 [(LI ws),(LI xs),(i6 k),(i6 w)]),(.var 57 [(i6 0),(.v .nilf),(.v .nilf)]),(.var 57 [(i6 0),(.fn (.func 52) [] []),(.fn (.func 53) [] [])])]⟩)
      (p := True∧True∧True∧True∧True) (by kernel_rfl)
      ⟨⟨⟩,⟨⟩,⟨⟩,⟨⟩,⟨⟩⟩ ?_
    refine Ev.ret ?_
    refine ⟨⟨⟨⟩,⟨⟩,⟨⟩,⟨⟩⟩,(?_ : ((0 : Int) = 0∧True∧True∧True)∧(0 : Int) = 0∧false = false∧True),.inl rfl⟩
    exact ⟨⟨rfl,⟨⟩,⟨⟩,⟨⟩⟩,rfl,rfl,⟨⟩⟩

def zwv_1_1_0 (ws xs : List Int) (k w : Int) : St := ⟨[(4,(.ptr 1 0 0 0)),(7,(.ptr 2 0 0 0)),(9,(i6 (wvF 1 ws k w)))],[(.var 61 [(LI ws),(LI xs),(i6 k),(i6 w)]),(.var 57 [(i6 0),(.v .nilf),(.v .nilf)]),(.var 57 [(i6 0),(.fn (.func 52) [] []),(.fn (.func 53) [] [])])]⟩
def zwv_1_1_1 (ws xs : List Int) (k w : Int) : St := ⟨[(4,(.ptr 1 0 0 0)),(7,(.ptr 2 0 0 0)),(9,(i6 (wvF 1 ws k w))),(44,(.agg [(i6 0),(.fn (.func 52) [] []),(.fn (.func 53) [] [])]))],[(.var 61 [(LI ws),(LI xs),(i6 k),(i6 w)]),(.var 57 [(i6 0),(.v .nilf),(.v .nilf)]),(.var 57 [(i6 0),(.fn (.func 52) [] []),(.fn (.func 53) [] [])])]⟩
def zwv_1_1_2 (ws xs : List Int) (k w : Int) : St := ⟨[(4,(.ptr 1 0 0 0)),(7,(.ptr 2 0 0 0)),(9,(i6 (wvF 1 ws k w))),(45,(i6 (wvF 1 ws k w)))],[(.var 61 [(LI ws),(LI xs),(i6 k),(i6 w)]),(.var 57 [(i6 0),(.v .nilf),(.v .nilf)]),(.var 57 [(i6 0),(.fn (.func 52) [] []),(.fn (.func 53) [] [])])]⟩
def zwv_1_1_3 (ws xs : List Int) (k w : Int) : St := ⟨[(4,(.ptr 1 0 0 0)),(7,(.ptr 2 0 0 0)),(9,(i6 (wvF 1 ws k w))),(46,(i6 (wvF 1 ws k w)))],[(.var 61 [(LI ws),(LI xs),(i6 k),(i6 w)]),(.var 57 [(i6 0),(.v .nilf),(.v .nilf)]),(.var 57 [(i6 0),(.fn (.func 52) [] []),(.fn (.func 53) [] [])])]⟩
def zwv_1_1_4 (ws xs : List Int) (k w : Int) : St := ⟨[(4,(.ptr 1 0 0 0)),(7,(.ptr 2 0 0 0)),(9,(i6 (wvF 1 ws k w))),(44,(.agg [(i6 0),(.fn (.func 52) [] []),(.fn (.func 53) [] [])])),(45,(i6 (wvF 1 ws k w)))],[(.var 61 [(LI ws),(LI xs),(i6 k),(i6 w)]),(.var 57 [(i6 0),(.v .nilf),(.v .nilf)]),(.var 57 [(i6 0),(.fn (.func 52) [] []),(.fn (.func 53) [] [])])]⟩
def zwv_1_1_5 (ws xs : List Int) (k w : Int) : St := ⟨[(4,(.ptr 1 0 0 0)),(7,(.ptr 2 0 0 0)),(9,(i6 (wvF 1 ws k w))),(44,(.agg [(i6 0),(.fn (.func 52) [] []),(.fn (.func 53) [] [])])),(46,(i6 (wvF 1 ws k w)))],[(.var 61 [(LI ws),(LI xs),(i6 k),(i6 w)]),(.var 57 [(i6 0),(.v .nilf),(.v .nilf)]),(.var 57 [(i6 0),(.fn (.func 52) [] []),(.fn (.func 53) [] [])])]⟩
def zwv_1_1_6 (ws xs : List Int) (k w : Int) : St := ⟨[(4,(.ptr 1 0 0 0)),(7,(.ptr 2 0 0 0)),(9,(i6 (wvF 1 ws k w))),(45,(i6 (wvF 1 ws k w))),(46,(i6 (wvF 1 ws k w)))],[(.var 61 [(LI ws),(LI xs),(i6 k),(i6 w)]),(.var 57 [(i6 0),(.v .nilf),(.v .nilf)]),(.var 57 [(i6 0),(.fn (.func 52) [] []),(.fn (.func 53) [] [])])]⟩
def zwv_1_1_7 (ws xs : List Int) (k w : Int) : St := ⟨[(4,(.ptr 1 0 0 0)),(7,(.ptr 2 0 0 0)),(9,(i6 (wvF 1 ws k w))),(46,(i6 (wvF 1 ws k w))),(47,(dB (fitsF (wvF 1 ws k w))))],[(.var 61 [(LI ws),(LI xs),(i6 k),(i6 w)]),(.var 57 [(i6 0),(.v .nilf),(.v .nilf)]),(.var 57 [(i6 0),(.fn (.func 52) [] []),(.fn (.func 53) [] [])])]⟩
def zwv_1_1_8 (ws xs : List Int) (k w : Int) : St := ⟨[(4,(.ptr 1 0 0 0)),(7,(.ptr 2 0 0 0)),(9,(i6 (wvF 1 ws k w))),(44,(.agg [(i6 0),(.fn (.func 52) [] []),(.fn (.func 53) [] [])])),(45,(i6 (wvF 1 ws k w))),(46,(i6 (wvF 1 ws k w)))],[(.var 61 [(LI ws),(LI xs),(i6 k),(i6 w)]),(.var 57 [(i6 0),(.v .nilf),(.v .nilf)]),(.var 57 [(i6 0),(.fn (.func 52) [] []),(.fn (.func 53) [] [])])]⟩
def zwv_1_1_9 (ws xs : List Int) (k w : Int) : St := ⟨[(4,(.ptr 1 0 0 0)),(7,(.ptr 2 0 0 0)),(9,(i6 (wvF 1 ws k w))),(44,(.agg [(i6 0),(.fn (.func 52) [] []),(.fn (.func 53) [] [])])),(46,(i6 (wvF 1 ws k w))),(47,(dB (fitsF (wvF 1 ws k w))))],[(.var 61 [(LI ws),(LI xs),(i6 k),(i6 w)]),(.var 57 [(i6 0),(.v .nilf),(.v .nilf)]),(.var 57 [(i6 0),(.fn (.func 52) [] []),(.fn (.func 53) [] [])])]⟩
def zwv_1_1_10 (ws xs : List Int) (k w : Int) : St := ⟨[(4,(.ptr 1 0 0 0)),(7,(.ptr 2 0 0 0)),(9,(i6 (wvF 1 ws k w))),(45,(i6 (wvF 1 ws k w))),(46,(i6 (wvF 1 ws k w))),(47,(dB (fitsF (wvF 1 ws k w))))],[(.var 61 [(LI ws),(LI xs),(i6 k),(i6 w)]),(.var 57 [(i6 0),(.v .nilf),(.v .nilf)]),(.var 57 [(i6 0),(.fn (.func 52) [] []),(.fn (.func 53) [] [])])]⟩
def zwv_1_1_11 (ws xs : List Int) (k w : Int) : St := ⟨[(4,(.ptr 1 0 0 0)),(7,(.ptr 2 0 0 0)),(9,(i6 (wvF 1 ws k w))),(44,(.agg [(i6 0),(.fn (.func 52) [] []),(.fn (.func 53) [] [])])),(45,(i6 (wvF 1 ws k w))),(46,(i6 (wvF 1 ws k w))),(47,(dB (fitsF (wvF 1 ws k w))))],[(.var 61 [(LI ws),(LI xs),(i6 k),(i6 w)]),(.var 57 [(i6 0),(.v .nilf),(.v .nilf)]),(.var 57 [(i6 0),(.fn (.func 52) [] []),(.fn (.func 53) [] [])])]⟩
def zwv_1_1_12 (ws xs : List Int) (k w : Int) : St := ⟨[(4,(.ptr 1 0 0 0)),(7,(.ptr 2 0 0 0)),(9,(i6 (wvF 1 ws k w))),(44,(.agg [(i6 0),(.fn (.func 52) [] []),(.fn (.func 53) [] [])])),(46,(i6 (wvF 1 ws k w))),(47,(dB (fitsF (wvF 1 ws k w))))],[(.var 61 [(LI ws),(LI xs),(i6 k),(i6 w)]),(.var 57 [(i6 0),(.fn (.func 52) [] []),(.fn (.func 53) [] [])]),(.var 57 [(i6 0),(.fn (.func 52) [] []),(.fn (.func 53) [] [])])]⟩
def zwv_1_1_13 (ws xs : List Int) (k w : Int) : St := ⟨[(4,(.ptr 1 0 0 0)),(7,(.ptr 2 0 0 0)),(9,(i6 (wvF 1 ws k w))),(44,(.agg [(i6 0),(.fn (.func 52) [] []),(.fn (.func 53) [] [])])),(45,(i6 (wvF 1 ws k w))),(46,(i6 (wvF 1 ws k w))),(47,(dB (fitsF (wvF 1 ws k w))))],[(.var 61 [(LI ws),(LI xs),(i6 k),(i6 w)]),(.var 57 [(i6 0),(.fn (.func 52) [] []),(.fn (.func 53) [] [])]),(.var 57 [(i6 0),(.fn (.func 52) [] []),(.fn (.func 53) [] [])])]⟩
def zwv_1_1_14 (ws xs : List Int) (k w : Int) : St := ⟨[(4,(.ptr 1 0 0 0)),(5,(i6 (wvF 1 ws k w))),(7,(.ptr 2 0 0 0)),(9,(i6 (wvF 1 ws k w))),(44,(.agg [(i6 0),(.fn (.func 52) [] []),(.fn (.func 53) [] [])])),(45,(i6 (wvF 1 ws k w))),(46,(i6 (wvF 1 ws k w))),(47,(dB (fitsF (wvF 1 ws k w))))],[(.var 61 [(LI ws),(LI xs),(i6 k),(i6 w)]),(.var 57 [(i6 0),(.fn (.func 52) [] []),(.fn (.func 53) [] [])]),(.var 57 [(i6 0),(.fn (.func 52) [] []),(.fn (.func 53) [] [])])]⟩
def zwv_1_1_15 (ws xs : List Int) (k w : Int) : St := ⟨[(4,(.ptr 1 0 0 0)),(5,(i6 (wvF 1 ws k w))),(6,(dB false))],[(.var 61 [(LI ws),(LI xs),(i6 k),(i6 w)]),(.var 57 [(i6 0),(.fn (.func 52) [] []),(.fn (.func 53) [] [])]),(.var 57 [(i6 0),(.fn (.func 52) [] []),(.fn (.func 53) [] [])])]⟩
set_option maxRecDepth 100000 in
theorem width_wv_1 (ws xs : List Int) (k w : Int) (hw : ws.length ≤ 9223372036854775807) (h : okB 1 ws = true) (h3 : fitsF (wvF 1 ws k w) = false) : CallOk Try.prog 27 [(i6 1),(.agg [(LI ws),(LI xs),(i6 k),(i6 w)])] [] true (.tup [(.agg [(i6 0),(.fn (.func 52) [] []),(.fn (.func 53) [] [])]),(i6 (wvF 1 ws k w)),(dB false)]) [] := by
  refine CallOk.of_ev Try.func27 rfl rfl rfl ?_
  rintro ⟨_,W,S0,_,susp,_⟩ rfl rfl rfl
  obtain ⟨h1,h2⟩ := okB_yes h
  have hA : arityF 1 = 0 := by decide
  rw [hA] at h1
  refine Ev.seq ?_
  refine Ev.reg [] [0,3,4] (st' := ⟨[(0,(i6 1)),(3,(.ptr 0 0 0 0)),(4,(.ptr 1 0 0 0))],[(.var 61 [(LI ws),(LI xs),(i6 k),(i6 w)]),(.var 57 [(i6 0),(.v .nilf),(.v .nilf)])]⟩)
    (p := True∧True∧True∧True∧True) (by kernel_rfl)
    ⟨⟨⟩,⟨⟩,⟨⟩,⟨⟩,⟨⟩⟩ ?_
  refine Ev.seq ?_
  refine Ev.reg [(0,.call none false (.v (.mp simpleM))),(2,.idx none)] [0,3,4,7,8] (st' := ⟨[(0,(i6 1)),(3,(.ptr 0 0 0 0)),(4,(.ptr 1 0 0 0)),(7,(.ptr 2 0 0 0)),(8,(dB false))],[(.var 61 [(LI ws),(LI xs),(i6 k),(i6 w)]),(.var 57 [(i6 0),(.v .nilf),(.v .nilf)]),(.var 57 [(i6 0),(.v .nilf),(.v .nilf)])]⟩)
    (p := callOb Try.prog 33 [(.var 61 [(LI ws),(LI xs),(i6 k),(i6 w)]),(.var 57 [(i6 0),(.v .nilf),(.v .nilf)])] [] none false (.v (.mp simpleM))∧True∧(∀ e' ∈ simpleM,1 ≠ e'.1)∧True∧True∧True∧True∧True∧True∧True) (by kernel_rfl)
    ⟨simple_ok,⟨⟩,(by decide),⟨⟩,⟨⟩,⟨⟩,⟨⟩,⟨⟩,⟨⟩,⟨⟩⟩ ?_
  refine Ev.seq ?_
  refine Ev.seq ?_
  refine Ev.reg [] [0,3,4,7,8,17] (st' := ⟨[(0,(i6 1)),(3,(.ptr 0 0 0 0)),(4,(.ptr 1 0 0 0)),(7,(.ptr 2 0 0 0)),(8,(dB false)),(17,(dB true))],[(.var 61 [(LI ws),(LI xs),(i6 k),(i6 w)]),(.var 57 [(i6 0),(.v .nilf),(.v .nilf)]),(.var 57 [(i6 0),(.v .nilf),(.v .nilf)])]⟩)
    (p := True∧True∧True) (by kernel_rfl)
    ⟨⟨⟩,⟨⟩,⟨⟩⟩ ?_
  refine Ev.cond true rfl (fun _ => ?_) (fun h => (by cases h))
  refine Ev.reg [(0,.call none false (.v (.mp othersM))),(2,.idx (some 0))] [3,4,7,8] (st' := ⟨[(3,(.ptr 0 0 0 0)),(4,(.ptr 1 0 0 0)),(7,(.ptr 2 0 0 0)),(8,(dB true))],[(.var 61 [(LI ws),(LI xs),(i6 k),(i6 w)]),(.var 57 [(i6 0),(.v .nilf),(.v .nilf)]),(.var 57 [(i6 0),(.fn (.func 52) [] []),(.fn (.func 53) [] [])])]⟩)
    (p := callOb Try.prog 34 [(.var 61 [(LI ws),(LI xs),(i6 k),(i6 w)]),(.var 57 [(i6 0),(.v .nilf),(.v .nilf)]),(.var 57 [(i6 0),(.v .nilf),(.v .nilf)])] [] none false (.v (.mp othersM))∧True∧((1 : Int) = 1∧∀ e' ∈ othersM.take 0,(1 : Int) ≠ e'.1)∧True∧True∧True∧True∧True∧True) (by kernel_rfl)
    ⟨others_ok,⟨⟩,(by decide),⟨⟩,⟨⟩,⟨⟩,⟨⟩,⟨⟩,⟨⟩⟩ ?_
  refine Ev.seq ?_
  refine Ev.seq ?_
  refine Ev.reg [(8,.val (dB false)),(13,.call none false (dB (!(ws.all fitsF)))),(14,.val (dB false))] [3,4,7,38] (st' := ⟨[(3,(.ptr 0 0 0 0)),(4,(.ptr 1 0 0 0)),(7,(.ptr 2 0 0 0)),(38,(dB false))],[(.var 61 [(LI ws),(LI xs),(i6 k),(i6 w)]),(.var 57 [(i6 0),(.v .nilf),(.v .nilf)]),(.var 57 [(i6 0),(.fn (.func 52) [] []),(.fn (.func 53) [] [])])]⟩)
    (p := True∧True∧True∧True∧True∧True∧True∧True∧(True∧(((ws.length : Nat) : Int) != 0) = false)∧True∧True∧True∧True∧callOb Try.prog 35 [(.var 61 [(LI ws),(LI xs),(i6 k),(i6 w)]),(.var 57 [(i6 0),(.v .nilf),(.v .nilf)]),(.var 57 [(i6 0),(.fn (.func 52) [] []),(.fn (.func 53) [] [])])] [(LI ws),(.fn (.func 36) [] [])] none false (dB (!(ws.all fitsF)))∧(True∧(!(ws.all fitsF)) = false)∧True) (by kernel_rfl)
    ⟨⟨⟩,⟨⟩,⟨⟩,⟨⟩,⟨⟩,⟨⟩,⟨⟩,⟨⟩,⟨⟨⟩,(by rw [h1]; rfl)⟩,⟨⟩,⟨⟩,⟨⟩,⟨⟩,(contains_ok _ (by first | omega | (simp; first | done | omega))),⟨⟨⟩,(by rw [h2]; rfl)⟩,⟨⟩⟩ ?_
  refine Ev.cond false rfl (fun h => (by cases h)) (fun _ => ?_)
  refine Ev.skip ?_
  refine Ev.seq ?_
  refine Ev.reg [(3,.call none false (i6 (if fitsF w = false ∨ k < 0 ∨ maskF w < k then 0 else w))),(4,.val (i6 (wvF 1 ws k w)))] [4,7,9] (st' := ⟨[(4,(.ptr 1 0 0 0)),(7,(.ptr 2 0 0 0)),(9,(i6 (wvF 1 ws k w)))],[(.var 61 [(LI ws),(LI xs),(i6 k),(i6 w)]),(.var 57 [(i6 0),(.v .nilf),(.v .nilf)]),(.var 57 [(i6 0),(.fn (.func 52) [] []),(.fn (.func 53) [] [])])]⟩)
    (p := True∧True∧True∧(callOb Try.prog 52 [(.var 61 [(LI ws),(LI xs),(i6 k),(i6 w)]),(.var 57 [(i6 0),(.v .nilf),(.v .nilf)]),(.var 57 [(i6 0),(.fn (.func 52) [] []),(.fn (.func 53) [] [])])] [(.agg [(LI ws),(LI xs),(i6 k),(i6 w)])] none false (i6 (if fitsF w = false ∨ k < 0 ∨ maskF w < k then 0 else w)))∧(True∧((if fitsF w = false ∨ k < 0 ∨ maskF w < k then 0 else w) = (wvF 1 ws k w)))∧True) (by kernel_rfl)
    ⟨⟨⟩,⟨⟩,⟨⟩,(wconst_ok _ _ _ _ (by omega) (by assumption)),⟨⟨⟩,(by first | rfl | simp [wvF])⟩,⟨⟩⟩ ?_
  refine Ev.seq ?_
  refine Ev.any [(3,.call none false (dB (fitsF (wvF 1 ws k w)))),(6,.val (dB false))] [((bm 7 0),(zwv_1_1_0 ws xs k w)),((bm 7 1),(zwv_1_1_1 ws xs k w)),((bm 7 2),(zwv_1_1_2 ws xs k w)),((bm 7 4),(zwv_1_1_3 ws xs k w)),((bm 7 3),(zwv_1_1_4 ws xs k w)),((bm 7 5),(zwv_1_1_5 ws xs k w)),((bm 7 6),(zwv_1_1_6 ws xs k w)),((bm 7 12),(zwv_1_1_7 ws xs k w)),((bm 7 7),(zwv_1_1_8 ws xs k w)),((bm 7 13),(zwv_1_1_9 ws xs k w)),((bm 7 14),(zwv_1_1_10 ws xs k w)),((bm 7 15),(zwv_1_1_11 ws xs k w)),((bm 7 29),(zwv_1_1_12 ws xs k w)),((bm 7 31),(zwv_1_1_13 ws xs k w)),((bm 7 63),(zwv_1_1_14 ws xs k w)),((bm 7 127),(zwv_1_1_15 ws xs k w))] (st0 := (zwv_1_1_0 ws xs k w)) (st' := ⟨[(4,(.ptr 1 0 0 0)),(5,(i6 (wvF 1 ws k w))),(6,(dB false))],[(.var 61 [(LI ws),(LI xs),(i6 k),(i6 w)]),(.var 57 [(i6 0),(.fn (.func 52) [] []),(.fn (.func 53) [] [])]),(.var 57 [(i6 0),(.fn (.func 52) [] []),(.fn (.func 53) [] [])])]⟩)
    (p := ((((zwv_1_1_1 ws xs k w) : St) = (zwv_1_1_1 ws xs k w)∧True∧True)∧(((zwv_1_1_2 ws xs k w) : St) = (zwv_1_1_2 ws xs k w)∧True∧True)∧(((zwv_1_1_3 ws xs k w) : St) = (zwv_1_1_3 ws xs k w)∧True∧True)∧True)∧((((zwv_1_1_4 ws xs k w) : St) = (zwv_1_1_4 ws xs k w)∧True∧True)∧(((zwv_1_1_5 ws xs k w) : St) = (zwv_1_1_5 ws xs k w)∧True∧True)∧True)∧((((zwv_1_1_4 ws xs k w) : St) = (zwv_1_1_4 ws xs k w)∧True∧True)∧(((zwv_1_1_6 ws xs k w) : St) = (zwv_1_1_6 ws xs k w)∧True∧True)∧True)∧((((zwv_1_1_5 ws xs k w) : St) = (zwv_1_1_5 ws xs k w)∧True∧True)∧(((zwv_1_1_6 ws xs k w) : St) = (zwv_1_1_6 ws xs k w)∧True∧True)∧(((zwv_1_1_7 ws xs k w) : St) = (zwv_1_1_7 ws xs k w)∧callOb Try.prog 37 [(.var 61 [(LI ws),(LI xs),(i6 k),(i6 w)]),(.var 57 [(i6 0),(.v .nilf),(.v .nilf)]),(.var 57 [(i6 0),(.fn (.func 52) [] []),(.fn (.func 53) [] [])])] [(i6 (wvF 1 ws k w))] none false (dB (fitsF (wvF 1 ws k w)))∧True)∧True)∧((((zwv_1_1_8 ws xs k w) : St) = (zwv_1_1_8 ws xs k w)∧True∧True)∧True)∧((((zwv_1_1_8 ws xs k w) : St) = (zwv_1_1_8 ws xs k w)∧True∧True)∧(((zwv_1_1_9 ws xs k w) : St) = (zwv_1_1_9 ws xs k w)∧callOb Try.prog 37 [(.var 61 [(LI ws),(LI xs),(i6 k),(i6 w)]),(.var 57 [(i6 0),(.v .nilf),(.v .nilf)]),(.var 57 [(i6 0),(.fn (.func 52) [] []),(.fn (.func 53) [] [])])] [(i6 (wvF 1 ws k w))] none false (dB (fitsF (wvF 1 ws k w)))∧True)∧True)∧((((zwv_1_1_8 ws xs k w) : St) = (zwv_1_1_8 ws xs k w)∧True∧True)∧(((zwv_1_1_10 ws xs k w) : St) = (zwv_1_1_10 ws xs k w)∧callOb Try.prog 37 [(.var 61 [(LI ws),(LI xs),(i6 k),(i6 w)]),(.var 57 [(i6 0),(.v .nilf),(.v .nilf)]),(.var 57 [(i6 0),(.fn (.func 52) [] []),(.fn (.func 53) [] [])])] [(i6 (wvF 1 ws k w))] none false (dB (fitsF (wvF 1 ws k w)))∧True)∧True)∧((((zwv_1_1_9 ws xs k w) : St) = (zwv_1_1_9 ws xs k w)∧True∧True)∧(((zwv_1_1_10 ws xs k w) : St) = (zwv_1_1_10 ws xs k w)∧True∧True)∧True)∧((((zwv_1_1_11 ws xs k w) : St) = (zwv_1_1_11 ws xs k w)∧callOb Try.prog 37 [(.var 61 [(LI ws),(LI xs),(i6 k),(i6 w)]),(.var 57 [(i6 0),(.v .nilf),(.v .nilf)]),(.var 57 [(i6 0),(.fn (.func 52) [] []),(.fn (.func 53) [] [])])] [(i6 (wvF 1 ws k w))] none false (dB (fitsF (wvF 1 ws k w)))∧True)∧True)∧((((zwv_1_1_11 ws xs k w) : St) = (zwv_1_1_11 ws xs k w)∧True∧True)∧(((zwv_1_1_12 ws xs k w) : St) = (zwv_1_1_12 ws xs k w)∧True∧True)∧True)∧((((zwv_1_1_11 ws xs k w) : St) = (zwv_1_1_11 ws xs k w)∧True∧True)∧True)∧((((zwv_1_1_13 ws xs k w) : St) = (zwv_1_1_13 ws xs k w)∧True∧True)∧True)∧((((zwv_1_1_13 ws xs k w) : St) = (zwv_1_1_13 ws xs k w)∧True∧True)∧True)∧((((zwv_1_1_14 ws xs k w) : St) = (zwv_1_1_14 ws xs k w)∧True∧True)∧True)∧((((zwv_1_1_15 ws xs k w) : St) = (zwv_1_1_15 ws xs k w)∧(True∧(fitsF (wvF 1 ws k w)) = false)∧True)∧True)∧True∧True) (by kernel_rfl) (by kernel_rfl) (by kernel_rfl) (by kernel_rfl) (by kernel_rfl) (by kernel_rfl)
    ⟨⟨⟨rfl,⟨⟩,⟨⟩⟩,⟨rfl,⟨⟩,⟨⟩⟩,⟨rfl,⟨⟩,⟨⟩⟩,⟨⟩⟩,⟨⟨rfl,⟨⟩,⟨⟩⟩,⟨rfl,⟨⟩,⟨⟩⟩,⟨⟩⟩,⟨⟨rfl,⟨⟩,⟨⟩⟩,⟨rfl,⟨⟩,⟨⟩⟩,⟨⟩⟩,⟨⟨rfl,⟨⟩,⟨⟩⟩,⟨rfl,⟨⟩,⟨⟩⟩,⟨rfl,(fits_ok _),⟨⟩⟩,⟨⟩⟩,⟨⟨rfl,⟨⟩,⟨⟩⟩,⟨⟩⟩,⟨⟨rfl,⟨⟩,⟨⟩⟩,⟨rfl,(fits_ok _),⟨⟩⟩,⟨⟩⟩,⟨⟨rfl,⟨⟩,⟨⟩⟩,⟨rfl,(fits_ok _),⟨⟩⟩,⟨⟩⟩,⟨⟨rfl,⟨⟩,⟨⟩⟩,⟨rfl,⟨⟩,⟨⟩⟩,⟨⟩⟩,⟨⟨rfl,(fits_ok _),⟨⟩⟩,⟨⟩⟩,⟨⟨rfl,⟨⟩,⟨⟩⟩,⟨rfl,⟨⟩,⟨⟩⟩,⟨⟩⟩,⟨⟨rfl,⟨⟩,⟨⟩⟩,⟨⟩⟩,⟨⟨rfl,⟨⟩,⟨⟩⟩,⟨⟩⟩,⟨⟨rfl,⟨⟩,⟨⟩⟩,⟨⟩⟩,⟨⟨rfl,⟨⟩,⟨⟩⟩,⟨⟩⟩,⟨⟨rfl,⟨⟨⟩,(by first | exact h3 | simpa [wvF] using h3)⟩,⟨⟩⟩,⟨⟩⟩,⟨⟩,⟨⟩⟩ ?_
  refine Ev.ret ?_
  refine ⟨⟨⟨⟩,⟨⟩,⟨⟩,⟨⟩⟩,(?_ : ((0 : Int) = 0∧((.fn (.func 52) [] []) : D) = (.fn (.func 52) [] [])∧((.fn (.func 53) [] []) : D) = (.fn (.func 53) [] [])∧True)∧(wvF 1 ws k w) = (wvF 1 ws k w)∧false = false∧True),.inl rfl⟩
  exact ⟨⟨rfl,rfl,rfl,⟨⟩⟩,rfl,rfl,⟨⟩⟩

def zg_2_1_0 (ws xs : List Int) (k w : Int) : St := ⟨[(4,(.ptr 1 0 0 0)),(7,(.ptr 2 0 0 0)),(9,(i6 (wvF 2 ws k w)))],[(.var 61 [(LI ws),(LI xs),(i6 k),(i6 w)]),(.var 57 [(i6 0),(.v .nilf),(.v .nilf)]),(.var 57 [(i6 1),(.fn (.func 40) [] []),(.fn (.func 41) [] [])])]⟩
def zg_2_1_1 (ws xs : List Int) (k w : Int) : St := ⟨[(4,(.ptr 1 0 0 0)),(7,(.ptr 2 0 0 0)),(9,(i6 (wvF 2 ws k w))),(44,(.agg [(i6 1),(.fn (.func 40) [] []),(.fn (.func 41) [] [])]))],[(.var 61 [(LI ws),(LI xs),(i6 k),(i6 w)]),(.var 57 [(i6 0),(.v .nilf),(.v .nilf)]),(.var 57 [(i6 1),(.fn (.func 40) [] []),(.fn (.func 41) [] [])])]⟩
def zg_2_1_2 (ws xs : List Int) (k w : Int) : St := ⟨[(4,(.ptr 1 0 0 0)),(7,(.ptr 2 0 0 0)),(9,(i6 (wvF 2 ws k w))),(45,(i6 (wvF 2 ws k w)))],[(.var 61 [(LI ws),(LI xs),(i6 k),(i6 w)]),(.var 57 [(i6 0),(.v .nilf),(.v .nilf)]),(.var 57 [(i6 1),(.fn (.func 40) [] []),(.fn (.func 41) [] [])])]⟩
def zg_2_1_3 (ws xs : List Int) (k w : Int) : St := ⟨[(4,(.ptr 1 0 0 0)),(7,(.ptr 2 0 0 0)),(9,(i6 (wvF 2 ws k w))),(46,(i6 (wvF 2 ws k w)))],[(.var 61 [(LI ws),(LI xs),(i6 k),(i6 w)]),(.var 57 [(i6 0),(.v .nilf),(.v .nilf)]),(.var 57 [(i6 1),(.fn (.func 40) [] []),(.fn (.func 41) [] [])])]⟩
def zg_2_1_4 (ws xs : List Int) (k w : Int) : St := ⟨[(4,(.ptr 1 0 0 0)),(7,(.ptr 2 0 0 0)),(9,(i6 (wvF 2 ws k w))),(44,(.agg [(i6 1),(.fn (.func 40) [] []),(.fn (.func 41) [] [])])),(45,(i6 (wvF 2 ws k w)))],[(.var 61 [(LI ws),(LI xs),(i6 k),(i6 w)]),(.var 57 [(i6 0),(.v .nilf),(.v .nilf)]),(.var 57 [(i6 1),(.fn (.func 40) [] []),(.fn (.func 41) [] [])])]⟩
def zg_2_1_5 (ws xs : List Int) (k w : Int) : St := ⟨[(4,(.ptr 1 0 0 0)),(7,(.ptr 2 0 0 0)),(9,(i6 (wvF 2 ws k w))),(44,(.agg [(i6 1),(.fn (.func 40) [] []),(.fn (.func 41) [] [])])),(46,(i6 (wvF 2 ws k w)))],[(.var 61 [(LI ws),(LI xs),(i6 k),(i6 w)]),(.var 57 [(i6 0),(.v .nilf),(.v .nilf)]),(.var 57 [(i6 1),(.fn (.func 40) [] []),(.fn (.func 41) [] [])])]⟩
def zg_2_1_6 (ws xs : List Int) (k w : Int) : St := ⟨[(4,(.ptr 1 0 0 0)),(7,(.ptr 2 0 0 0)),(9,(i6 (wvF 2 ws k w))),(45,(i6 (wvF 2 ws k w))),(46,(i6 (wvF 2 ws k w)))],[(.var 61 [(LI ws),(LI xs),(i6 k),(i6 w)]),(.var 57 [(i6 0),(.v .nilf),(.v .nilf)]),(.var 57 [(i6 1),(.fn (.func 40) [] []),(.fn (.func 41) [] [])])]⟩
def zg_2_1_7 (ws xs : List Int) (k w : Int) : St := ⟨[(4,(.ptr 1 0 0 0)),(7,(.ptr 2 0 0 0)),(9,(i6 (wvF 2 ws k w))),(46,(i6 (wvF 2 ws k w))),(47,(dB (fitsF (wvF 2 ws k w))))],[(.var 61 [(LI ws),(LI xs),(i6 k),(i6 w)]),(.var 57 [(i6 0),(.v .nilf),(.v .nilf)]),(.var 57 [(i6 1),(.fn (.func 40) [] []),(.fn (.func 41) [] [])])]⟩
def zg_2_1_8 (ws xs : List Int) (k w : Int) : St := ⟨[(4,(.ptr 1 0 0 0)),(7,(.ptr 2 0 0 0)),(9,(i6 (wvF 2 ws k w))),(44,(.agg [(i6 1),(.fn (.func 40) [] []),(.fn (.func 41) [] [])])),(45,(i6 (wvF 2 ws k w))),(46,(i6 (wvF 2 ws k w)))],[(.var 61 [(LI ws),(LI xs),(i6 k),(i6 w)]),(.var 57 [(i6 0),(.v .nilf),(.v .nilf)]),(.var 57 [(i6 1),(.fn (.func 40) [] []),(.fn (.func 41) [] [])])]⟩
def zg_2_1_9 (ws xs : List Int) (k w : Int) : St := ⟨[(4,(.ptr 1 0 0 0)),(7,(.ptr 2 0 0 0)),(9,(i6 (wvF 2 ws k w))),(44,(.agg [(i6 1),(.fn (.func 40) [] []),(.fn (.func 41) [] [])])),(46,(i6 (wvF 2 ws k w))),(47,(dB (fitsF (wvF 2 ws k w))))],[(.var 61 [(LI ws),(LI xs),(i6 k),(i6 w)]),(.var 57 [(i6 0),(.v .nilf),(.v .nilf)]),(.var 57 [(i6 1),(.fn (.func 40) [] []),(.fn (.func 41) [] [])])]⟩
def zg_2_1_10 (ws xs : List Int) (k w : Int) : St := ⟨[(4,(.ptr 1 0 0 0)),(7,(.ptr 2 0 0 0)),(9,(i6 (wvF 2 ws k w))),(45,(i6 (wvF 2 ws k w))),(46,(i6 (wvF 2 ws k w))),(47,(dB (fitsF (wvF 2 ws k w))))],[(.var 61 [(LI ws),(LI xs),(i6 k),(i6 w)]),(.var 57 [(i6 0),(.v .nilf),(.v .nilf)]),(.var 57 [(i6 1),(.fn (.func 40) [] []),(.fn (.func 41) [] [])])]⟩
def zg_2_1_11 (ws xs : List Int) (k w : Int) : St := ⟨[(4,(.ptr 1 0 0 0)),(7,(.ptr 2 0 0 0)),(9,(i6 (wvF 2 ws k w))),(44,(.agg [(i6 1),(.fn (.func 40) [] []),(.fn (.func 41) [] [])])),(45,(i6 (wvF 2 ws k w))),(46,(i6 (wvF 2 ws k w))),(47,(dB (fitsF (wvF 2 ws k w))))],[(.var 61 [(LI ws),(LI xs),(i6 k),(i6 w)]),(.var 57 [(i6 0),(.v .nilf),(.v .nilf)]),(.var 57 [(i6 1),(.fn (.func 40) [] []),(.fn (.func 41) [] [])])]⟩
def zg_2_1_12 (ws xs : List Int) (k w : Int) : St := ⟨[(4,(.ptr 1 0 0 0)),(7,(.ptr 2 0 0 0)),(9,(i6 (wvF 2 ws k w))),(44,(.agg [(i6 1),(.fn (.func 40) [] []),(.fn (.func 41) [] [])])),(46,(i6 (wvF 2 ws k w))),(47,(dB (fitsF (wvF 2 ws k w))))],[(.var 61 [(LI ws),(LI xs),(i6 k),(i6 w)]),(.var 57 [(i6 1),(.fn (.func 40) [] []),(.fn (.func 41) [] [])]),(.var 57 [(i6 1),(.fn (.func 40) [] []),(.fn (.func 41) [] [])])]⟩
def zg_2_1_13 (ws xs : List Int) (k w : Int) : St := ⟨[(4,(.ptr 1 0 0 0)),(7,(.ptr 2 0 0 0)),(9,(i6 (wvF 2 ws k w))),(44,(.agg [(i6 1),(.fn (.func 40) [] []),(.fn (.func 41) [] [])])),(45,(i6 (wvF 2 ws k w))),(46,(i6 (wvF 2 ws k w))),(47,(dB (fitsF (wvF 2 ws k w))))],[(.var 61 [(LI ws),(LI xs),(i6 k),(i6 w)]),(.var 57 [(i6 1),(.fn (.func 40) [] []),(.fn (.func 41) [] [])]),(.var 57 [(i6 1),(.fn (.func 40) [] []),(.fn (.func 41) [] [])])]⟩
def zg_2_1_14 (ws xs : List Int) (k w : Int) : St := ⟨[(4,(.ptr 1 0 0 0)),(5,(i6 (wvF 2 ws k w))),(7,(.ptr 2 0 0 0)),(9,(i6 (wvF 2 ws k w))),(44,(.agg [(i6 1),(.fn (.func 40) [] []),(.fn (.func 41) [] [])])),(45,(i6 (wvF 2 ws k w))),(46,(i6 (wvF 2 ws k w))),(47,(dB (fitsF (wvF 2 ws k w))))],[(.var 61 [(LI ws),(LI xs),(i6 k),(i6 w)]),(.var 57 [(i6 1),(.fn (.func 40) [] []),(.fn (.func 41) [] [])]),(.var 57 [(i6 1),(.fn (.func 40) [] []),(.fn (.func 41) [] [])])]⟩
def zg_2_1_15 (ws xs : List Int) (k w : Int) : St := ⟨[(4,(.ptr 1 0 0 0)),(5,(i6 (wvF 2 ws k w))),(6,(dB true))],[(.var 61 [(LI ws),(LI xs),(i6 k),(i6 w)]),(.var 57 [(i6 1),(.fn (.func 40) [] []),(.fn (.func 41) [] [])]),(.var 57 [(i6 1),(.fn (.func 40) [] []),(.fn (.func 41) [] [])])]⟩
set_option maxRecDepth 100000 in
theorem width_good_2 (ws xs : List Int) (k w : Int) (hw : ws.length ≤ 9223372036854775807) (h : okF 2 ws k w = true) : CallOk Try.prog 27 [(i6 2),(.agg [(LI ws),(LI xs),(i6 k),(i6 w)])] [] true (.tup [(.agg [(i6 1),(.fn (.func 40) [] []),(.fn (.func 41) [] [])]),(i6 (wvF 2 ws k w)),(dB true)]) [] := by
  refine CallOk.of_ev Try.func27 rfl rfl rfl ?_
  rintro ⟨_,W,S0,_,susp,_⟩ rfl rfl rfl
  obtain ⟨h1,h2,h3⟩ := ok_yes h
  have hA : arityF 2 = 1 := by decide
  rw [hA] at h1
  refine Ev.seq ?_
  refine Ev.reg [] [0,3,4] (st' := ⟨[(0,(i6 2)),(3,(.ptr 0 0 0 0)),(4,(.ptr 1 0 0 0))],[(.var 61 [(LI ws),(LI xs),(i6 k),(i6 w)]),(.var 57 [(i6 0),(.v .nilf),(.v .nilf)])]⟩)
    (p := True∧True∧True∧True∧True) (by kernel_rfl)
    ⟨⟨⟩,⟨⟩,⟨⟩,⟨⟩,⟨⟩⟩ ?_
  refine Ev.seq ?_
  refine Ev.reg [(0,.call none false (.v (.mp simpleM))),(2,.idx (some 0))] [0,3,4,7,8] (st' := ⟨[(0,(i6 2)),(3,(.ptr 0 0 0 0)),(4,(.ptr 1 0 0 0)),(7,(.ptr 2 0 0 0)),(8,(dB true))],[(.var 61 [(LI ws),(LI xs),(i6 k),(i6 w)]),(.var 57 [(i6 0),(.v .nilf),(.v .nilf)]),(.var 57 [(i6 1),(.fn (.func 40) [] []),(.fn (.func 41) [] [])])]⟩)
    (p := callOb Try.prog 33 [(.var 61 [(LI ws),(LI xs),(i6 k),(i6 w)]),(.var 57 [(i6 0),(.v .nilf),(.v .nilf)])] [] none false (.v (.mp simpleM))∧True∧((2 : Int) = 2∧∀ e' ∈ simpleM.take 0,(2 : Int) ≠ e'.1)∧True∧True∧True∧True∧True∧True∧True) (by kernel_rfl)
    ⟨simple_ok,⟨⟩,(by decide),⟨⟩,⟨⟩,⟨⟩,⟨⟩,⟨⟩,⟨⟩,⟨⟩⟩ ?_
  refine Ev.seq ?_
  refine Ev.seq ?_
  refine Ev.reg [] [0,3,4,7,8,17] (st' := ⟨[(0,(i6 2)),(3,(.ptr 0 0 0 0)),(4,(.ptr 1 0 0 0)),(7,(.ptr 2 0 0 0)),(8,(dB true)),(17,(dB false))],[(.var 61 [(LI ws),(LI xs),(i6 k),(i6 w)]),(.var 57 [(i6 0),(.v .nilf),(.v .nilf)]),(.var 57 [(i6 1),(.fn (.func 40) [] []),(.fn (.func 41) [] [])])]⟩)
    (p := True∧True∧True) (by kernel_rfl)
    ⟨⟨⟩,⟨⟩,⟨⟩⟩ ?_
  refine Ev.cond false rfl (fun h => (by cases h)) (fun _ => ?_)
  refine Ev.skip ?_
  refine Ev.seq ?_
  refine Ev.seq ?_
  refine Ev.reg [(8,.val (dB false)),(13,.call none false (dB (!(ws.all fitsF)))),(14,.val (dB false))] [3,4,7,38] (st' := ⟨[(3,(.ptr 0 0 0 0)),(4,(.ptr 1 0 0 0)),(7,(.ptr 2 0 0 0)),(38,(dB false))],[(.var 61 [(LI ws),(LI xs),(i6 k),(i6 w)]),(.var 57 [(i6 0),(.v .nilf),(.v .nilf)]),(.var 57 [(i6 1),(.fn (.func 40) [] []),(.fn (.func 41) [] [])])]⟩)
    (p := True∧True∧True∧True∧True∧True∧True∧True∧(True∧(((ws.length : Nat) : Int) != 1) = false)∧True∧True∧True∧True∧callOb Try.prog 35 [(.var 61 [(LI ws),(LI xs),(i6 k),(i6 w)]),(.var 57 [(i6 0),(.v .nilf),(.v .nilf)]),(.var 57 [(i6 1),(.fn (.func 40) [] []),(.fn (.func 41) [] [])])] [(LI ws),(.fn (.func 36) [] [])] none false (dB (!(ws.all fitsF)))∧(True∧(!(ws.all fitsF)) = false)∧True) (by kernel_rfl)
    ⟨⟨⟩,⟨⟩,⟨⟩,⟨⟩,⟨⟩,⟨⟩,⟨⟩,⟨⟩,⟨⟨⟩,(by rw [h1]; rfl)⟩,⟨⟩,⟨⟩,⟨⟩,⟨⟩,(contains_ok _ (by first | omega | (simp; first | done | omega))),⟨⟨⟩,(by rw [h2]; rfl)⟩,⟨⟩⟩ ?_
  refine Ev.cond false rfl (fun h => (by cases h)) (fun _ => ?_)
  refine Ev.skip ?_
  refine Ev.seq ?_
  refine Ev.reg [(3,.call none false (i6 (ws.getD 0 0))),(4,.val (i6 (wvF 2 ws k w)))] [4,7,9] (st' := ⟨[(4,(.ptr 1 0 0 0)),(7,(.ptr 2 0 0 0)),(9,(i6 (wvF 2 ws k w)))],[(.var 61 [(LI ws),(LI xs),(i6 k),(i6 w)]),(.var 57 [(i6 0),(.v .nilf),(.v .nilf)]),(.var 57 [(i6 1),(.fn (.func 40) [] []),(.fn (.func 41) [] [])])]⟩)
    (p := True∧True∧True∧callOb Try.prog 40 [(.var 61 [(LI ws),(LI xs),(i6 k),(i6 w)]),(.var 57 [(i6 0),(.v .nilf),(.v .nilf)]),(.var 57 [(i6 1),(.fn (.func 40) [] []),(.fn (.func 41) [] [])])] [(.agg [(LI ws),(LI xs),(i6 k),(i6 w)])] none false (i6 (ws.getD 0 0))∧(True∧(ws.getD 0 0) = (wvF 2 ws k w))∧True) (by kernel_rfl)
    ⟨⟨⟩,⟨⟩,⟨⟩,(first_ok _ _ _ _ (by omega) (by assumption)),⟨⟨⟩,(by first | rfl | simp [wvF])⟩,⟨⟩⟩ ?_
  refine Ev.seq ?_
  refine Ev.any [(3,.call none false (dB (fitsF (wvF 2 ws k w)))),(6,.val (dB true))] [((bm 7 0),(zg_2_1_0 ws xs k w)),((bm 7 1),(zg_2_1_1 ws xs k w)),((bm 7 2),(zg_2_1_2 ws xs k w)),((bm 7 4),(zg_2_1_3 ws xs k w)),((bm 7 3),(zg_2_1_4 ws xs k w)),((bm 7 5),(zg_2_1_5 ws xs k w)),((bm 7 6),(zg_2_1_6 ws xs k w)),((bm 7 12),(zg_2_1_7 ws xs k w)),((bm 7 7),(zg_2_1_8 ws xs k w)),((bm 7 13),(zg_2_1_9 ws xs k w)),((bm 7 14),(zg_2_1_10 ws xs k w)),((bm 7 15),(zg_2_1_11 ws xs k w)),((bm 7 29),(zg_2_1_12 ws xs k w)),((bm 7 31),(zg_2_1_13 ws xs k w)),((bm 7 63),(zg_2_1_14 ws xs k w)),((bm 7 127),(zg_2_1_15 ws xs k w))] (st0 := (zg_2_1_0 ws xs k w)) (st' := ⟨[(4,(.ptr 1 0 0 0)),(5,(i6 (wvF 2 ws k w))),(6,(dB true))],[(.var 61 [(LI ws),(LI xs),(i6 k),(i6 w)]),(.var 57 [(i6 1),(.fn (.func 40) [] []),(.fn (.func 41) [] [])]),(.var 57 [(i6 1),(.fn (.func 40) [] []),(.fn (.func 41) [] [])])]⟩)
    (p := ((((zg_2_1_1 ws xs k w) : St) = (zg_2_1_1 ws xs k w)∧True∧True)∧(((zg_2_1_2 ws xs k w) : St) = (zg_2_1_2 ws xs k w)∧True∧True)∧(((zg_2_1_3 ws xs k w) : St) = (zg_2_1_3 ws xs k w)∧True∧True)∧True)∧((((zg_2_1_4 ws xs k w) : St) = (zg_2_1_4 ws xs k w)∧True∧True)∧(((zg_2_1_5 ws xs k w) : St) = (zg_2_1_5 ws xs k w)∧True∧True)∧True)∧((((zg_2_1_4 ws xs k w) : St) = (zg_2_1_4 ws xs k w)∧True∧True)∧(((zg_2_1_6 ws xs k w) : St) = (zg_2_1_6 ws xs k w)∧True∧True)∧True)∧((((zg_2_1_5 ws xs k w) : St) = (zg_2_1_5 ws xs k w)∧True∧True)∧(((zg_2_1_6 ws xs k w) : St) = (zg_2_1_6 ws xs k w)∧True∧True)∧(((zg_2_1_7 ws xs k w) : St) = (zg_2_1_7 ws xs k w)∧callOb Try.prog 37 [(.var 61 [(LI ws),(LI xs),(i6 k),(i6 w)]),(.var 57 [(i6 0),(.v .nilf),(.v .nilf)]),(.var 57 [(i6 1),(.fn (.func 40) [] []),(.fn (.func 41) [] [])])] [(i6 (wvF 2 ws k w))] none false (dB (fitsF (wvF 2 ws k w)))∧True)∧True)∧((((zg_2_1_8 ws xs k w) : St) = (zg_2_1_8 ws xs k w)∧True∧True)∧True)∧((((zg_2_1_8 ws xs k w) : St) = (zg_2_1_8 ws xs k w)∧True∧True)∧(((zg_2_1_9 ws xs k w) : St) = (zg_2_1_9 ws xs k w)∧callOb Try.prog 37 [(.var 61 [(LI ws),(LI xs),(i6 k),(i6 w)]),(.var 57 [(i6 0),(.v .nilf),(.v .nilf)]),(.var 57 [(i6 1),(.fn (.func 40) [] []),(.fn (.func 41) [] [])])] [(i6 (wvF 2 ws k w))] none false (dB (fitsF (wvF 2 ws k w)))∧True)∧True)∧((((zg_2_1_8 ws xs k w) : St) = (zg_2_1_8 ws xs k w)∧True∧True)∧(((zg_2_1_10 ws xs k w) : St) = (zg_2_1_10 ws xs k w)∧callOb Try.prog 37 [(.var 61 [(LI ws),(LI xs),(i6 k),(i6 w)]),(.var 57 [(i6 0),(.v .nilf),(.v .nilf)]),(.var 57 [(i6 1),(.fn (.func 40) [] []),(.fn (.func 41) [] [])])] [(i6 (wvF 2 ws k w))] none false (dB (fitsF (wvF 2 ws k w)))∧True)∧True)∧((((zg_2_1_9 ws xs k w) : St) = (zg_2_1_9 ws xs k w)∧True∧True)∧(((zg_2_1_10 ws xs k w) : St) = (zg_2_1_10 ws xs k w)∧True∧True)∧True)∧((((zg_2_1_11 ws xs k w) : St) = (zg_2_1_11 ws xs k w)∧callOb Try.prog 37 [(.var 61 [(LI ws),(LI xs),(i6 k),(i6 w)]),(.var 57 [(i6 0),(.v .nilf),(.v .nilf)]),(.var 57 [(i6 1),(.fn (.func 40) [] []),(.fn (.func 41) [] [])])] [(i6 (wvF 2 ws k w))] none false (dB (fitsF (wvF 2 ws k w)))∧True)∧True)∧((((zg_2_1_11 ws xs k w) : St) = (zg_2_1_11 ws xs k w)∧True∧True)∧(((zg_2_1_12 ws xs k w) : St) = (zg_2_1_12 ws xs k w)∧True∧True)∧True)∧((((zg_2_1_11 ws xs k w) : St) = (zg_2_1_11 ws xs k w)∧True∧True)∧True)∧((((zg_2_1_13 ws xs k w) : St) = (zg_2_1_13 ws xs k w)∧True∧True)∧True)∧((((zg_2_1_13 ws xs k w) : St) = (zg_2_1_13 ws xs k w)∧True∧True)∧True)∧((((zg_2_1_14 ws xs k w) : St) = (zg_2_1_14 ws xs k w)∧True∧True)∧True)∧((((zg_2_1_15 ws xs k w) : St) = (zg_2_1_15 ws xs k w)∧(True∧(fitsF (wvF 2 ws k w)) = true)∧True)∧True)∧True∧True) (by kernel_rfl) (by kernel_rfl) (by kernel_rfl) (by kernel_rfl) (by kernel_rfl) (by kernel_rfl)
    ⟨⟨⟨rfl,⟨⟩,⟨⟩⟩,⟨rfl,⟨⟩,⟨⟩⟩,⟨rfl,⟨⟩,⟨⟩⟩,⟨⟩⟩,⟨⟨rfl,⟨⟩,⟨⟩⟩,⟨rfl,⟨⟩,⟨⟩⟩,⟨⟩⟩,⟨⟨rfl,⟨⟩,⟨⟩⟩,⟨rfl,⟨⟩,⟨⟩⟩,⟨⟩⟩,⟨⟨rfl,⟨⟩,⟨⟩⟩,⟨rfl,⟨⟩,⟨⟩⟩,⟨rfl,(fits_ok _),⟨⟩⟩,⟨⟩⟩,⟨⟨rfl,⟨⟩,⟨⟩⟩,⟨⟩⟩,⟨⟨rfl,⟨⟩,⟨⟩⟩,⟨rfl,(fits_ok _),⟨⟩⟩,⟨⟩⟩,⟨⟨rfl,⟨⟩,⟨⟩⟩,⟨rfl,(fits_ok _),⟨⟩⟩,⟨⟩⟩,⟨⟨rfl,⟨⟩,⟨⟩⟩,⟨rfl,⟨⟩,⟨⟩⟩,⟨⟩⟩,⟨⟨rfl,(fits_ok _),⟨⟩⟩,⟨⟩⟩,⟨⟨rfl,⟨⟩,⟨⟩⟩,⟨rfl,⟨⟩,⟨⟩⟩,⟨⟩⟩,⟨⟨rfl,⟨⟩,⟨⟩⟩,⟨⟩⟩,⟨⟨rfl,⟨⟩,⟨⟩⟩,⟨⟩⟩,⟨⟨rfl,⟨⟩,⟨⟩⟩,⟨⟩⟩,⟨⟨rfl,⟨⟩,⟨⟩⟩,⟨⟩⟩,⟨⟨rfl,⟨⟨⟩,(by first | exact h3 | simpa [wvF] using h3)⟩,⟨⟩⟩,⟨⟩⟩,⟨⟩,⟨⟩⟩ ?_
  refine Ev.ret ?_
  refine ⟨⟨⟨⟩,⟨⟩,⟨⟩,⟨⟩⟩,(?_ : ((1 : Int) = 1∧((.fn (.func 40) [] []) : D) = (.fn (.func 40) [] [])∧((.fn (.func 41) [] []) : D) = (.fn (.func 41) [] [])∧True)∧(wvF 2 ws k w) = (wvF 2 ws k w)∧true = true∧True),.inl rfl⟩
  exact ⟨⟨rfl,rfl,rfl,⟨⟩⟩,rfl,rfl,⟨⟩⟩

set_option maxRecDepth 100000 in
theorem width_bad_2 (ws xs : List Int) (k w : Int) (hw : ws.length ≤ 9223372036854775807) (h : okB 2 ws = false) : CallOk Try.prog 27 [(i6 2),(.agg [(LI ws),(LI xs),(i6 k),(i6 w)])] [] true (.tup [(.agg [(i6 0),(.v .nilf),(.v .nilf)]),(i6 0),(dB false)]) [] := by
  refine CallOk.of_ev Try.func27 rfl rfl rfl ?_
  rintro ⟨_,W,S0,_,susp,_⟩ rfl rfl rfl
  refine Ev.seq ?_
  refine Ev.reg [] [0,3,4] (st' := ⟨[(0,(i6 2)),(3,(.ptr 0 0 0 0)),(4,(.ptr 1 0 0 0))],[(.var 61 [(LI ws),(LI xs),(i6 k),(i6 w)]),(.var 57 [(i6 0),(.v .nilf),(.v .nilf)])]⟩)
    (p := True∧True∧True∧True∧True) (by kernel_rfl)
    ⟨⟨⟩,⟨⟩,⟨⟩,⟨⟩,⟨⟩⟩ ?_
  refine Ev.seq ?_
  refine Ev.reg [(0,.call none false (.v (.mp simpleM))),(2,.idx (some 0))] [0,3,4,7,8] (st' := ⟨[(0,(i6 2)),(3,(.ptr 0 0 0 0)),(4,(.ptr 1 0 0 0)),(7,(.ptr 2 0 0 0)),(8,(dB true))],[(.var 61 [(LI ws),(LI xs),(i6 k),(i6 w)]),(.var 57 [(i6 0),(.v .nilf),(.v .nilf)]),(.var 57 [(i6 1),(.fn (.func 40) [] []),(.fn (.func 41) [] [])])]⟩)
    (p := callOb Try.prog 33 [(.var 61 [(LI ws),(LI xs),(i6 k),(i6 w)]),(.var 57 [(i6 0),(.v .nilf),(.v .nilf)])] [] none false (.v (.mp simpleM))∧True∧((2 : Int) = 2∧∀ e' ∈ simpleM.take 0,(2 : Int) ≠ e'.1)∧True∧True∧True∧True∧True∧True∧True) (by kernel_rfl)
    ⟨simple_ok,⟨⟩,(by decide),⟨⟩,⟨⟩,⟨⟩,⟨⟩,⟨⟩,⟨⟩,⟨⟩⟩ ?_
  refine Ev.seq ?_
  refine Ev.seq ?_
  refine Ev.reg [] [0,3,4,7,8,17] (st' := ⟨[(0,(i6 2)),(3,(.ptr 0 0 0 0)),(4,(.ptr 1 0 0 0)),(7,(.ptr 2 0 0 0)),(8,(dB true)),(17,(dB false))],[(.var 61 [(LI ws),(LI xs),(i6 k),(i6 w)]),(.var 57 [(i6 0),(.v .nilf),(.v .nilf)]),(.var 57 [(i6 1),(.fn (.func 40) [] []),(.fn (.func 41) [] [])])]⟩)
    (p := True∧True∧True) (by kernel_rfl)
    ⟨⟨⟩,⟨⟩,⟨⟩⟩ ?_
  refine Ev.cond false rfl (fun h => (by cases h)) (fun _ => ?_)
  refine Ev.skip ?_
  refine Ev.seq ?_
  refine Ev.seq ?_
  rcases okB_no h with h1 | ⟨h1,h2⟩
  · skip
    have hA : arityF 2 = 1 := by decide
    rw [hA] at h1
    refine Ev.reg [(8,.val (dB true))] [3,4,7,38] (st' := ⟨[(3,(.ptr 0 0 0 0)),(4,(.ptr 1 0 0 0)),(7,(.ptr 2 0 0 0)),(38,(dB true))],[(.var 61 [(LI ws),(LI xs),(i6 k),(i6 w)]),(.var 57 [(i6 0),(.v .nilf),(.v .nilf)]),(.var 57 [(i6 1),(.fn (.func 40) [] []),(.fn (.func 41) [] [])])]⟩)
      (p := True∧True∧True∧True∧True∧True∧True∧True∧(True∧(((ws.length : Nat) : Int) != 1) = true)∧True∧True∧True∧True∧True∧True∧True) (by kernel_rfl)
      ⟨⟨⟩,⟨⟩,⟨⟩,⟨⟩,⟨⟩,⟨⟩,⟨⟩,⟨⟩,⟨⟨⟩,(by exact bne_iff_ne.2 (by omega))⟩,⟨⟩,⟨⟩,⟨⟩,⟨⟩,⟨⟩,⟨⟩,⟨⟩⟩ ?_
    refine Ev.cond true rfl (fun _ => ?_) (fun h => (by cases h))
    refine Ev.seq ?_
    refine Ev.reg [] [4,5,6] (st' := ⟨[(4,(.ptr 1 0 0 0)),(5,(i6 0)),(6,(dB false))],[(.var 61 [(LI ws),(LI xs),(i6 k),(i6 w)]),(.var 57 [(i6 0),(.v .nilf),(.v .nilf)]),(.var 57 [(i6 1),(.fn (.func 40) [] []),(.fn (.func 41) [] [])])]⟩)
      (p := True∧True∧True∧True∧True) (by kernel_rfl)
      ⟨⟨⟩,⟨⟩,⟨⟩,⟨⟩,⟨⟩⟩ ?_
    refine Ev.ret ?_
    refine ⟨⟨⟨⟩,⟨⟩,⟨⟩,⟨⟩⟩,(?_ : ((0 : Int) = 0∧True∧True∧True)∧(0 : Int) = 0∧false = false∧True),.inl rfl⟩
    exact ⟨⟨rfl,⟨⟩,⟨⟩,⟨⟩⟩,rfl,rfl,⟨⟩⟩
  · skip
    have hA : arityF 2 = 1 := by decide
    rw [hA] at h1
    refine Ev.reg [(8,.val (dB false)),(13,.call none false (dB (!(ws.all fitsF)))),(14,.val (dB true))] [3,4,7,38] (st' := ⟨[(3,(.ptr 0 0 0 0)),(4,(.ptr 1 0 0 0)),(7,(.ptr 2 0 0 0)),(38,(dB true))],[(.var 61 [(LI ws),(LI xs),(i6 k),(i6 w)]),(.var 57 [(i6 0),(.v .nilf),(.v .nilf)]),(.var 57 [(i6 1),(.fn (.func 40) [] []),(.fn (.func 41) [] [])])]⟩)
      (p := True∧True∧True∧True∧True∧True∧True∧True∧(True∧(((ws.length : Nat) : Int) != 1) = false)∧True∧True∧True∧True∧callOb Try.prog 35 [(.var 61 [(LI ws),(LI xs),(i6 k),(i6 w)]),(.var 57 [(i6 0),(.v .nilf),(.v .nilf)]),(.var 57 [(i6 1),(.fn (.func 40) [] []),(.fn (.func 41) [] [])])] [(LI ws),(.fn (.func 36) [] [])] none false (dB (!(ws.all fitsF)))∧(True∧(!(ws.all fitsF)) = true)∧True) (by kernel_rfl)
      ⟨⟨⟩,⟨⟩,⟨⟩,⟨⟩,⟨⟩,⟨⟩,⟨⟩,⟨⟩,⟨⟨⟩,(by rw [h1]; rfl)⟩,⟨⟩,⟨⟩,⟨⟩,⟨⟩,(contains_ok _ (by first | omega | (simp; first | done | omega))),⟨⟨⟩,(by rw [h2]; rfl)⟩,⟨⟩⟩ ?_
    refine Ev.cond true rfl (fun _ => ?_) (fun h => (by cases h))
    refine Ev.seq ?_
    refine Ev.reg [] [4,5,6] (st' := ⟨[(4,(.ptr 1 0 0 0)),(5,(i6 0)),(6,(dB false))],[(.var 61 [(LI ws),(LI xs),(i6 k),(i6 w)]),(.var 57 [(i6 0),(.v .nilf),(.v .nilf)]),(.var 57 [(i6 1),(.fn (.func 40) [] []),(.fn (.func 41) [] [])])]⟩)
      (p := True∧True∧True∧True∧True) (by kernel_rfl)
      ⟨⟨⟩,⟨⟩,⟨⟩,⟨⟩,⟨⟩⟩ ?_
    refine Ev.ret ?_
    refine ⟨⟨⟨⟩,⟨⟩,⟨⟩,⟨⟩⟩,(?_ : ((0 : Int) = 0∧True∧True∧True)∧(0 : Int) = 0∧false = false∧True),.inl rfl⟩
    exact ⟨⟨rfl,⟨⟩,⟨⟩,⟨⟩⟩,rfl,rfl,⟨⟩⟩

def zwv_2_1_0 (ws xs : List Int) (k w : Int) : St := ⟨[(4,(.ptr 1 0 0 0)),(7,(.ptr 2 0 0 0)),(9,(i6 (wvF 2 ws k w)))],[(.var 61 [(LI ws),(LI xs),(i6 k),(i6 w)]),(.var 57 [(i6 0),(.v .nilf),(.v .nilf)]),(.var 57 [(i6 1),(.fn (.func 40) [] []),(.fn (.func 41) [] [])])]⟩
def zwv_2_1_1 (ws xs : List Int) (k w : Int) : St := ⟨[(4,(.ptr 1 0 0 0)),(7,(.ptr 2 0 0 0)),(9,(i6 (wvF 2 ws k w))),(44,(.agg [(i6 1),(.fn (.func 40) [] []),(.fn (.func 41) [] [])]))],[(.var 61 [(LI ws),(LI xs),(i6 k),(i6 w)]),(.var 57 [(i6 0),(.v .nilf),(.v .nilf)]),(.var 57 [(i6 1),(.fn (.func 40) [] []),(.fn (.func 41) [] [])])]⟩
def zwv_2_1_2 (ws xs : List Int) (k w : Int) : St := ⟨[(4,(.ptr 1 0 0 0)),(7,(.ptr 2 0 0 0)),(9,(i6 (wvF 2 ws k w))),(45,(i6 (wvF 2 ws k w)))],[(.var 61 [(LI ws),(LI xs),(i6 k),(i6 w)]),(.var 57 [(i6 0),(.v .nilf),(.v .nilf)]),(.var 57 [(i6 1),(.fn (.func 40) [] []),(.fn (.func 41) [] [])])]⟩
def zwv_2_1_3 (ws xs : List Int) (k w : Int) : St := ⟨[(4,(.ptr 1 0 0 0)),(7,(.ptr 2 0 0 0)),(9,(i6 (wvF 2 ws k w))),(46,(i6 (wvF 2 ws k w)))],[(.var 61 [(LI ws),(LI xs),(i6 k),(i6 w)]),(.var 57 [(i6 0),(.v .nilf),(.v .nilf)]),(.var 57 [(i6 1),(.fn (.func 40) [] []),(.fn (.func 41) [] [])])]⟩
def zwv_2_1_4 (ws xs : List Int) (k w : Int) : St := ⟨[(4,(.ptr 1 0 0 0)),(7,(.ptr 2 0 0 0)),(9,(i6 (wvF 2 ws k w))),(44,(.agg [(i6 1),(.fn (.func 40) [] []),(.fn (.func 41) [] [])])),(45,(i6 (wvF 2 ws k w)))],[(.var 61 [(LI ws),(LI xs),(i6 k),(i6 w)]),(.var 57 [(i6 0),(.v .nilf),(.v .nilf)]),(.var 57 [(i6 1),(.fn (.func 40) [] []),(.fn (.func 41) [] [])])]⟩
def zwv_2_1_5 (ws xs : List Int) (k w : Int) : St := ⟨[(4,(.ptr 1 0 0 0)),(7,(.ptr 2 0 0 0)),(9,(i6 (wvF 2 ws k w))),(44,(.agg [(i6 1),(.fn (.func 40) [] []),(.fn (.func 41) [] [])])),(46,(i6 (wvF 2 ws k w)))],[(.var 61 [(LI ws),(LI xs),(i6 k),(i6 w)]),(.var 57 [(i6 0),(.v .nilf),(.v .nilf)]),(.var 57 [(i6 1),(.fn (.func 40) [] []),(.fn (.func 41) [] [])])]⟩
def zwv_2_1_6 (ws xs : List Int) (k w : Int) : St := ⟨[(4,(.ptr 1 0 0 0)),(7,(.ptr 2 0 0 0)),(9,(i6 (wvF 2 ws k w))),(45,(i6 (wvF 2 ws k w))),(46,(i6 (wvF 2 ws k w)))],[(.var 61 [(LI ws),(LI xs),(i6 k),(i6 w)]),(.var 57 [(i6 0),(.v .nilf),(.v .nilf)]),(.var 57 [(i6 1),(.fn (.func 40) [] []),(.fn (.func 41) [] [])])]⟩
def zwv_2_1_7 (ws xs : List Int) (k w : Int) : St := ⟨[(4,(.ptr 1 0 0 0)),(7,(.ptr 2 0 0 0)),(9,(i6 (wvF 2 ws k w))),(46,(i6 (wvF 2 ws k w))),(47,(dB (fitsF (wvF 2 ws k w))))],[(.var 61 [(LI ws),(LI xs),(i6 k),(i6 w)]),(.var 57 [(i6 0),(.v .nilf),(.v .nilf)]),(.var 57 [(i6 1),(.fn (.func 40) [] []),(.fn (.func 41) [] [])])]⟩
def zwv_2_1_8 (ws xs : List Int) (k w : Int) : St := ⟨[(4,(.ptr 1 0 0 0)),(7,(.ptr 2 0 0 0)),(9,(i6 (wvF 2 ws k w))),(44,(.agg [(i6 1),(.fn (.func 40) [] []),(.fn (.func 41) [] [])])),(45,(i6 (wvF 2 ws k w))),(46,(i6 (wvF 2 ws k w)))],[(.var 61 [(LI ws),(LI xs),(i6 k),(i6 w)]),(.var 57 [(i6 0),(.v .nilf),(.v .nilf)]),(.var 57 [(i6 1),(.fn (.func 40) [] []),(.fn (.func 41) [] [])])]⟩
def zwv_2_1_9 (ws xs : List Int) (k w : Int) : St := ⟨[(4,(.ptr 1 0 0 0)),(7,(.ptr 2 0 0 0)),(9,(i6 (wvF 2 ws k w))),(44,(.agg [(i6 1),(.fn (.func 40) [] []),(.fn (.func 41) [] [])])),(46,(i6 (wvF 2 ws k w))),(47,(dB (fitsF (wvF 2 ws k w))))],[(.var 61 [(LI ws),(LI xs),(i6 k),(i6 w)]),(.var 57 [(i6 0),(.v .nilf),(.v .nilf)]),(.var 57 [(i6 1),(.fn (.func 40) [] []),(.fn (.func 41) [] [])])]⟩
def zwv_2_1_10 (ws xs : List Int) (k w : Int) : St := ⟨[(4,(.ptr 1 0 0 0)),(7,(.ptr 2 0 0 0)),(9,(i6 (wvF 2 ws k w))),(45,(i6 (wvF 2 ws k w))),(46,(i6 (wvF 2 ws k w))),(47,(dB (fitsF (wvF 2 ws k w))))],[(.var 61 [(LI ws),(LI xs),(i6 k),(i6 w)]),(.var 57 [(i6 0),(.v .nilf),(.v .nilf)]),(.var 57 [(i6 1),(.fn (.func 40) [] []),(.fn (.func 41) [] [])])]⟩
def zwv_2_1_11 (ws xs : List Int) (k w : Int) : St := ⟨[(4,(.ptr 1 0 0 0)),(7,(.ptr 2 0 0 0)),(9,(i6 (wvF 2 ws k w))),(44,(.agg [(i6 1),(.fn (.func 40) [] []),(.fn (.func 41) [] [])])),(45,(i6 (wvF 2 ws k w))),(46,(i6 (wvF 2 ws k w))),(47,(dB (fitsF (wvF 2 ws k w))))],[(.var 61 [(LI ws),(LI xs),(i6 k),(i6 w)]),(.var 57 [(i6 0),(.v .nilf),(.v .nilf)]),(.var 57 [(i6 1),(.fn (.func 40) [] []),(.fn (.func 41) [] [])])]⟩
def zwv_2_1_12 (ws xs : List Int) (k w : Int) : St := ⟨[(4,(.ptr 1 0 0 0)),(7,(.ptr 2 0 0 0)),(9,(i6 (wvF 2 ws k w))),(44,(.agg [(i6 1),(.fn (.func 40) [] []),(.fn (.func 41) [] [])])),(46,(i6 (wvF 2 ws k w))),(47,(dB (fitsF (wvF 2 ws k w))))],[(.var 61 [(LI ws),(LI xs),(i6 k),(i6 w)]),(.var 57 [(i6 1),(.fn (.func 40) [] []),(.fn (.func 41) [] [])]),(.var 57 [(i6 1),(.fn (.func 40) [] []),(.fn (.func 41) [] [])])]⟩
def zwv_2_1_13 (ws xs : List Int) (k w : Int) : St := ⟨[(4,(.ptr 1 0 0 0)),(7,(.ptr 2 0 0 0)),(9,(i6 (wvF 2 ws k w))),(44,(.agg [(i6 1),(.fn (.func 40) [] []),(.fn (.func 41) [] [])])),(45,(i6 (wvF 2 ws k w))),(46,(i6 (wvF 2 ws k w))),(47,(dB (fitsF (wvF 2 ws k w))))],[(.var 61 [(LI ws),(LI xs),(i6 k),(i6 w)]),(.var 57 [(i6 1),(.fn (.func 40) [] []),(.fn (.func 41) [] [])]),(.var 57 [(i6 1),(.fn (.func 40) [] []),(.fn (.func 41) [] [])])]⟩
def zwv_2_1_14 (ws xs : List Int) (k w : Int) : St := ⟨[(4,(.ptr 1 0 0 0)),(5,(i6 (wvF 2 ws k w))),(7,(.ptr 2 0 0 0)),(9,(i6 (wvF 2 ws k w))),(44,(.agg [(i6 1),(.fn (.func 40) [] []),(.fn (.func 41) [] [])])),(45,(i6 (wvF 2 ws k w))),(46,(i6 (wvF 2 ws k w))),(47,(dB (fitsF (wvF 2 ws k w))))],[(.var 61 [(LI ws),(LI xs),(i6 k),(i6 w)]),(.var 57 [(i6 1),(.fn (.func 40) [] []),(.fn (.func 41) [] [])]),(.var 57 [(i6 1),(.fn (.func 40) [] []),(.fn (.func 41) [] [])])]⟩
def zwv_2_1_15 (ws xs : List Int) (k w : Int) : St := ⟨[(4,(.ptr 1 0 0 0)),(5,(i6 (wvF 2 ws k w))),(6,(dB false))],[(.var 61 [(LI ws),(LI xs),(i6 k),(i6 w)]),(.var 57 [(i6 1),(.fn (.func 40) [] []),(.fn (.func 41) [] [])]),(.var 57 [(i6 1),(.fn (.func 40) [] []),(.fn (.func 41) [] [])])]⟩
set_option maxRecDepth 100000 in
theorem width_wv_2 (ws xs : List Int) (k w : Int) (hw : ws.length ≤ 9223372036854775807) (h : okB 2 ws = true) (h3 : fitsF (wvF 2 ws k w) = false) : CallOk Try.prog 27 [(i6 2),(.agg [(LI ws),(LI xs),(i6 k),(i6 w)])] [] true (.tup [(.agg [(i6 1),(.fn (.func 40) [] []),(.fn (.func 41) [] [])]),(i6 (wvF 2 ws k w)),(dB false)]) [] := by
  refine CallOk.of_ev Try.func27 rfl rfl rfl ?_
  rintro ⟨_,W,S0,_,susp,_⟩ rfl rfl rfl
  obtain ⟨h1,h2⟩ := okB_yes h
  have hA : arityF 2 = 1 := by decide
  rw [hA] at h1
  refine Ev.seq ?_
  refine Ev.reg [] [0,3,4] (st' := ⟨[(0,(i6 2)),(3,(.ptr 0 0 0 0)),(4,(.ptr 1 0 0 0))],[(.var 61 [(LI ws),(LI xs),(i6 k),(i6 w)]),(.var 57 [(i6 0),(.v .nilf),(.v .nilf)])]⟩)
    (p := True∧True∧True∧True∧True) (by kernel_rfl)
    ⟨⟨⟩,⟨⟩,⟨⟩,⟨⟩,⟨⟩⟩ ?_
  refine Ev.seq ?_
  refine Ev.reg [(0,.call none false (.v (.mp simpleM))),(2,.idx (some 0))] [0,3,4,7,8] (st' := ⟨[(0,(i6 2)),(3,(.ptr 0 0 0 0)),(4,(.ptr 1 0 0 0)),(7,(.ptr 2 0 0 0)),(8,(dB true))],[(.var 61 [(LI ws),(LI xs),(i6 k),(i6 w)]),(.var 57 [(i6 0),(.v .nilf),(.v .nilf)]),(.var 57 [(i6 1),(.fn (.func 40) [] []),(.fn (.func 41) [] [])])]⟩)
    (p := callOb Try.prog 33 [(.var 61 [(LI ws),(LI xs),(i6 k),(i6 w)]),(.var 57 [(i6 0),(.v .nilf),(.v .nilf)])] [] none false (.v (.mp simpleM))∧True∧((2 : Int) = 2∧∀ e' ∈ simpleM.take 0,(2 : Int) ≠ e'.1)∧True∧True∧True∧True∧True∧True∧True) (by kernel_rfl)
    ⟨simple_ok,⟨⟩,(by decide),⟨⟩,⟨⟩,⟨⟩,⟨⟩,⟨⟩,⟨⟩,⟨⟩⟩ ?_
  refine Ev.seq ?_
  refine Ev.seq ?_
  refine Ev.reg [] [0,3,4,7,8,17] (st' := ⟨[(0,(i6 2)),(3,(.ptr 0 0 0 0)),(4,(.ptr 1 0 0 0)),(7,(.ptr 2 0 0 0)),(8,(dB true)),(17,(dB false))],[(.var 61 [(LI ws),(LI xs),(i6 k),(i6 w)]),(.var 57 [(i6 0),(.v .nilf),(.v .nilf)]),(.var 57 [(i6 1),(.fn (.func 40) [] []),(.fn (.func 41) [] [])])]⟩)
    (p := True∧True∧True) (by kernel_rfl)
    ⟨⟨⟩,⟨⟩,⟨⟩⟩ ?_
  refine Ev.cond false rfl (fun h => (by cases h)) (fun _ => ?_)
  refine Ev.skip ?_
  refine Ev.seq ?_
  refine Ev.seq ?_
  refine Ev.reg [(8,.val (dB false)),(13,.call none false (dB (!(ws.all fitsF)))),(14,.val (dB false))] [3,4,7,38] (st' := ⟨[(3,(.ptr 0 0 0 0)),(4,(.ptr 1 0 0 0)),(7,(.ptr 2 0 0 0)),(38,(dB false))],[(.var 61 [(LI ws),(LI xs),(i6 k),(i6 w)]),(.var 57 [(i6 0),(.v .nilf),(.v .nilf)]),(.var 57 [(i6 1),(.fn (.func 40) [] []),(.fn (.func 41) [] [])])]⟩)
    (p := True∧True∧True∧True∧True∧True∧True∧True∧(True∧(((ws.length : Nat) : Int) != 1) = false)∧True∧True∧True∧True∧callOb Try.prog 35 [(.var 61 [(LI ws),(LI xs),(i6 k),(i6 w)]),(.var 57 [(i6 0),(.v .nilf),(.v .nilf)]),(.var 57 [(i6 1),(.fn (.func 40) [] []),(.fn (.func 41) [] [])])] [(LI ws),(.fn (.func 36) [] [])] none false (dB (!(ws.all fitsF)))∧(True∧(!(ws.all fitsF)) = false)∧True) (by kernel_rfl)
    ⟨⟨⟩,⟨⟩,⟨⟩,⟨⟩,⟨⟩,⟨⟩,⟨⟩,⟨⟩,⟨⟨⟩,(by rw [h1]; rfl)⟩,⟨⟩,⟨⟩,⟨⟩,⟨⟩,(contains_ok _ (by first | omega | (simp; first | done | omega))),⟨⟨⟩,(by rw [h2]; rfl)⟩,⟨⟩⟩ ?_
  refine Ev.cond false rfl (fun h => (by cases h)) (fun _ => ?_)
  refine Ev.skip ?_
  refine Ev.seq ?_
  refine Ev.reg [(3,.call none false (i6 (ws.getD 0 0))),(4,.val (i6 (wvF 2 ws k w)))] [4,7,9] (st' := ⟨[(4,(.ptr 1 0 0 0)),(7,(.ptr 2 0 0 0)),(9,(i6 (wvF 2 ws k w)))],[(.var 61 [(LI ws),(LI xs),(i6 k),(i6 w)]),(.var 57 [(i6 0),(.v .nilf),(.v .nilf)]),(.var 57 [(i6 1),(.fn (.func 40) [] []),(.fn (.func 41) [] [])])]⟩)
    (p := True∧True∧True∧callOb Try.prog 40 [(.var 61 [(LI ws),(LI xs),(i6 k),(i6 w)]),(.var 57 [(i6 0),(.v .nilf),(.v .nilf)]),(.var 57 [(i6 1),(.fn (.func 40) [] []),(.fn (.func 41) [] [])])] [(.agg [(LI ws),(LI xs),(i6 k),(i6 w)])] none false (i6 (ws.getD 0 0))∧(True∧(ws.getD 0 0) = (wvF 2 ws k w))∧True) (by kernel_rfl)
    ⟨⟨⟩,⟨⟩,⟨⟩,(first_ok _ _ _ _ (by omega) (by assumption)),⟨⟨⟩,(by first | rfl | simp [wvF])⟩,⟨⟩⟩ ?_
  refine Ev.seq ?_
  refine Ev.any [(3,.call none false (dB (fitsF (wvF 2 ws k w)))),(6,.val (dB false))] [((bm 7 0),(zwv_2_1_0 ws xs k w)),((bm 7 1),(zwv_2_1_1 ws xs k w)),((bm 7 2),(zwv_2_1_2 ws xs k w)),((bm 7 4),(zwv_2_1_3 ws xs k w)),((bm 7 3),(zwv_2_1_4 ws xs k w)),((bm 7 5),(zwv_2_1_5 ws xs k w)),((bm 7 6),(zwv_2_1_6 ws xs k w)),((bm 7 12),(zwv_2_1_7 ws xs k w)),((bm 7 7),(zwv_2_1_8 ws xs k w)),((bm 7 13),(zwv_2_1_9 ws xs k w)),((bm 7 14),(zwv_2_1_10 ws xs k w)),((bm 7 15),(zwv_2_1_11 ws xs k w)),((bm 7 29),(zwv_2_1_12 ws xs k w)),((bm 7 31),(zwv_2_1_13 ws xs k w)),((bm 7 63),(zwv_2_1_14 ws xs k w)),((bm 7 127),(zwv_2_1_15 ws xs k w))] (st0 := (zwv_2_1_0 ws xs k w)) (st' := ⟨[(4,(.ptr 1 0 0 0)),(5,(i6 (wvF 2 ws k w))),(6,(dB false))],[(.var 61 [(LI ws),(LI xs),(i6 k),(i6 w)]),(.var 57 [(i6 1),(.fn (.func 40) [] []),(.fn (.func 41) [] [])]),(.var 57 [(i6 1),(.fn (.func 40) [] []),(.fn (.func 41) [] [])])]⟩)
    (p := ((((zwv_2_1_1 ws xs k w) : St) = (zwv_2_1_1 ws xs k w)∧True∧True)∧(((zwv_2_1_2 ws xs k w) : St) = (zwv_2_1_2 ws xs k w)∧True∧True)∧(((zwv_2_1_3 ws xs k w) : St) = (zwv_2_1_3 ws xs k w)∧True∧True)∧True)∧((((zwv_2_1_4 ws xs k w) : St) = (zwv_2_1_4 ws xs k w)∧True∧True)∧(((zwv_2_1_5 ws xs k w) : St) = (zwv_2_1_5 ws xs k w)∧True∧True)∧True)∧((((zwv_2_1_4 ws xs k w) : St) = (zwv_2_1_4 ws xs k w)∧True∧True)∧(((zwv_2_1_6 ws xs k w) : St) = (zwv_2_1_6 ws xs k w)∧True∧True)∧True)∧((((zwv_2_1_5 ws xs k w) : St) = (zwv_2_1_5 ws xs k w)∧True∧True)∧(((zwv_2_1_6 ws xs k w) : St) = (zwv_2_1_6 ws xs k w)∧True∧True)∧(((zwv_2_1_7 ws xs k w) : St) = (zwv_2_1_7 ws xs k w)∧callOb Try.prog 37 [(.var 61 [(LI ws),(LI xs),(i6 k),(i6 w)]),(.var 57 [(i6 0),(.v .nilf),(.v .nilf)]),(.var 57 [(i6 1),(.fn (.func 40) [] []),(.fn (.func 41) [] [])])] [(i6 (wvF 2 ws k w))] none false (dB (fitsF (wvF 2 ws k w)))∧True)∧True)∧((((zwv_2_1_8 ws xs k w) : St) = (zwv_2_1_8 ws xs k w)∧True∧True)∧True)∧((((zwv_2_1_8 ws xs k w) : St) = (zwv_2_1_8 ws xs k w)∧True∧True)∧(((zwv_2_1_9 ws xs k w) : St) = (zwv_2_1_9 ws xs k w)∧callOb Try.prog 37 [(.var 61 [(LI ws),(LI xs),(i6 k),(i6 w)]),(.var 57 [(i6 0),(.v .nilf),(.v .nilf)]),(.var 57 [(i6 1),(.fn (.func 40) [] []),(.fn (.func 41) [] [])])] [(i6 (wvF 2 ws k w))] none false (dB (fitsF (wvF 2 ws k w)))∧True)∧True)∧((((zwv_2_1_8 ws xs k w) : St) = (zwv_2_1_8 ws xs k w)∧True∧True)∧(((zwv_2_1_10 ws xs k w) : St) = (zwv_2_1_10 ws xs k w)∧callOb Try.prog 37 [(.var 61 [(LI ws),(LI xs),(i6 k),(i6 w)]),(.var 57 [(i6 0),(.v .nilf),(.v .nilf)]),(.var 57 [(i6 1),(.fn (.func 40) [] []),(.fn (.func 41) [] [])])] [(i6 (wvF 2 ws k w))] none false (dB (fitsF (wvF 2 ws k w)))∧True)∧True)∧((((zwv_2_1_9 ws xs k w) : St) = (zwv_2_1_9 ws xs k w)∧True∧True)∧(((zwv_2_1_10 ws xs k w) : St) = (zwv_2_1_10 ws xs k w)∧True∧True)∧True)∧((((zwv_2_1_11 ws xs k w) : St) = (zwv_2_1_11 ws xs k w)∧callOb Try.prog 37 [(.var 61 [(LI ws),(LI xs),(i6 k),(i6 w)]),(.var 57 [(i6 0),(.v .nilf),(.v .nilf)]),(.var 57 [(i6 1),(.fn (.func 40) [] []),(.fn (.func 41) [] [])])] [(i6 (wvF 2 ws k w))] none false (dB (fitsF (wvF 2 ws k w)))∧True)∧True)∧((((zwv_2_1_11 ws xs k w) : St) = (zwv_2_1_11 ws xs k w)∧True∧True)∧(((zwv_2_1_12 ws xs k w) : St) = (zwv_2_1_12 ws xs k w)∧True∧True)∧True)∧((((zwv_2_1_11 ws xs k w) : St) = (zwv_2_1_11 ws xs k w)∧True∧True)∧True)∧((((zwv_2_1_13 ws xs k w) : St) = (zwv_2_1_13 ws xs k w)∧True∧True)∧True)∧((((zwv_2_1_13 ws xs k w) : St) = (zwv_2_1_13 ws xs k w)∧True∧True)∧True)∧((((zwv_2_1_14 ws xs k w) : St) = (zwv_2_1_14 ws xs k w)∧True∧True)∧True)∧((((zwv_2_1_15 ws xs k w) : St) = (zwv_2_1_15 ws xs k w)∧(True∧(fitsF (wvF 2 ws k w)) = false)∧True)∧True)∧True∧True) (by kernel_rfl) (by kernel_rfl) (by kernel_rfl) (by kernel_rfl) (by kernel_rfl) (by kernel_rfl)
    ⟨⟨⟨rfl,⟨⟩,⟨⟩⟩,⟨rfl,⟨⟩,⟨⟩⟩,⟨rfl,⟨⟩,⟨⟩⟩,⟨⟩⟩,⟨⟨rfl,⟨⟩,⟨⟩⟩,⟨rfl,⟨⟩,⟨⟩⟩,⟨⟩⟩,⟨⟨rfl,⟨⟩,⟨⟩⟩,⟨rfl,⟨⟩,⟨⟩⟩,⟨⟩⟩,⟨⟨rfl,⟨⟩,⟨⟩⟩,⟨rfl,⟨⟩,⟨⟩⟩,⟨rfl,(fits_ok _),⟨⟩⟩,⟨⟩⟩,⟨⟨rfl,⟨⟩,⟨⟩⟩,⟨⟩⟩,⟨⟨rfl,⟨⟩,⟨⟩⟩,⟨rfl,(fits_ok _),⟨⟩⟩,⟨⟩⟩,⟨⟨rfl,⟨⟩,⟨⟩⟩,⟨rfl,(fits_ok _),⟨⟩⟩,⟨⟩⟩,⟨⟨rfl,⟨⟩,⟨⟩⟩,⟨rfl,⟨⟩,⟨⟩⟩,⟨⟩⟩,⟨⟨rfl,(fits_ok _),⟨⟩⟩,⟨⟩⟩,⟨⟨rfl,⟨⟩,⟨⟩⟩,⟨rfl,⟨⟩,⟨⟩⟩,⟨⟩⟩,⟨⟨rfl,⟨⟩,⟨⟩⟩,⟨⟩⟩,⟨⟨rfl,⟨⟩,⟨⟩⟩,⟨⟩⟩,⟨⟨rfl,⟨⟩,⟨⟩⟩,⟨⟩⟩,⟨⟨rfl,⟨⟩,⟨⟩⟩,⟨⟩⟩,⟨⟨rfl,⟨⟨⟩,(by first | exact h3 | simpa [wvF] using h3)⟩,⟨⟩⟩,⟨⟩⟩,⟨⟩,⟨⟩⟩ ?_
  refine Ev.ret ?_
  refine ⟨⟨⟨⟩,⟨⟩,⟨⟩,⟨⟩⟩,(?_ : ((1 : Int) = 1∧((.fn (.func 40) [] []) : D) = (.fn (.func 40) [] [])∧((.fn (.func 41) [] []) : D) = (.fn (.func 41) [] [])∧True)∧(wvF 2 ws k w) = (wvF 2 ws k w)∧false = false∧True),.inl rfl⟩
  exact ⟨⟨rfl,rfl,rfl,⟨⟩⟩,rfl,rfl,⟨⟩⟩

def zg_3_1_0 (ws xs : List Int) (k w : Int) : St := ⟨[(4,(.ptr 1 0 0 0)),(7,(.ptr 2 0 0 0)),(9,(i6 (wvF 3 ws k w)))],[(.var 61 [(LI ws),(LI xs),(i6 k),(i6 w)]),(.var 57 [(i6 0),(.v .nilf),(.v .nilf)]),(.var 57 [(i6 2),(.fn (.func 43) [] []),(.fn (.func 44) [] [])])]⟩
def zg_3_1_1 (ws xs : List Int) (k w : Int) : St := ⟨[(4,(.ptr 1 0 0 0)),(7,(.ptr 2 0 0 0)),(9,(i6 (wvF 3 ws k w))),(44,(.agg [(i6 2),(.fn (.func 43) [] []),(.fn (.func 44) [] [])]))],[(.var 61 [(LI ws),(LI xs),(i6 k),(i6 w)]),(.var 57 [(i6 0),(.v .nilf),(.v .nilf)]),(.var 57 [(i6 2),(.fn (.func 43) [] []),(.fn (.func 44) [] [])])]⟩
def zg_3_1_2 (ws xs : List Int) (k w : Int) : St := ⟨[(4,(.ptr 1 0 0 0)),(7,(.ptr 2 0 0 0)),(9,(i6 (wvF 3 ws k w))),(45,(i6 (wvF 3 ws k w)))],[(.var 61 [(LI ws),(LI xs),(i6 k),(i6 w)]),(.var 57 [(i6 0),(.v .nilf),(.v .nilf)]),(.var 57 [(i6 2),(.fn (.func 43) [] []),(.fn (.func 44) [] [])])]⟩
def zg_3_1_3 (ws xs : List Int) (k w : Int) : St := ⟨[(4,(.ptr 1 0 0 0)),(7,(.ptr 2 0 0 0)),(9,(i6 (wvF 3 ws k w))),(46,(i6 (wvF 3 ws k w)))],[(.var 61 [(LI ws),(LI xs),(i6 k),(i6 w)]),(.var 57 [(i6 0),(.v .nilf),(.v .nilf)]),(.var 57 [(i6 2),(.fn (.func 43) [] []),(.fn (.func 44) [] [])])]⟩
def zg_3_1_4 (ws xs : List Int) (k w : Int) : St := ⟨[(4,(.ptr 1 0 0 0)),(7,(.ptr 2 0 0 0)),(9,(i6 (wvF 3 ws k w))),(44,(.agg [(i6 2),(.fn (.func 43) [] []),(.fn (.func 44) [] [])])),(45,(i6 (wvF 3 ws k w)))],[(.var 61 [(LI ws),(LI xs),(i6 k),(i6 w)]),(.var 57 [(i6 0),(.v .nilf),(.v .nilf)]),(.var 57 [(i6 2),(.fn (.func 43) [] []),(.fn (.func 44) [] [])])]⟩
def zg_3_1_5 (ws xs : List Int) (k w : Int) : St := ⟨[(4,(.ptr 1 0 0 0)),(7,(.ptr 2 0 0 0)),(9,(i6 (wvF 3 ws k w))),(44,(.agg [(i6 2),(.fn (.func 43) [] []),(.fn (.func 44) [] [])])),(46,(i6 (wvF 3 ws k w)))],[(.var 61 [(LI ws),(LI xs),(i6 k),(i6 w)]),(.var 57 [(i6 0),(.v .nilf),(.v .nilf)]),(.var 57 [(i6 2),(.fn (.func 43) [] []),(.fn (.func 44) [] [])])]⟩
def zg_3_1_6 (ws xs : List Int) (k w : Int) : St := ⟨[(4,(.ptr 1 0 0 0)),(7,(.ptr 2 0 0 0)),(9,(i6 (wvF 3 ws k w))),(45,(i6 (wvF 3 ws k w))),(46,(i6 (wvF 3 ws k w)))],[(.var 61 [(LI ws),(LI xs),(i6 k),(i6 w)]),(.var 57 [(i6 0),(.v .nilf),(.v .nilf)]),(.var 57 [(i6 2),(.fn (.func 43) [] []),(.fn (.func 44) [] [])])]⟩
def zg_3_1_7 (ws xs : List Int) (k w : Int) : St := ⟨[(4,(.ptr 1 0 0 0)),(7,(.ptr 2 0 0 0)),(9,(i6 (wvF 3 ws k w))),(46,(i6 (wvF 3 ws k w))),(47,(dB (fitsF (wvF 3 ws k w))))],[(.var 61 [(LI ws),(LI xs),(i6 k),(i6 w)]),(.var 57 [(i6 0),(.v .nilf),(.v .nilf)]),(.var 57 [(i6 2),(.fn (.func 43) [] []),(.fn (.func 44) [] [])])]⟩
def zg_3_1_8 (ws xs : List Int) (k w : Int) : St := ⟨[(4,(.ptr 1 0 0 0)),(7,(.ptr 2 0 0 0)),(9,(i6 (wvF 3 ws k w))),(44,(.agg [(i6 2),(.fn (.func 43) [] []),(.fn (.func 44) [] [])])),(45,(i6 (wvF 3 ws k w))),(46,(i6 (wvF 3 ws k w)))],[(.var 61 [(LI ws),(LI xs),(i6 k),(i6 w)]),(.var 57 [(i6 0),(.v .nilf),(.v .nilf)]),(.var 57 [(i6 2),(.fn (.func 43) [] []),(.fn (.func 44) [] [])])]⟩
def zg_3_1_9 (ws xs : List Int) (k w : Int) : St := ⟨[(4,(.ptr 1 0 0 0)),(7,(.ptr 2 0 0 0)),(9,(i6 (wvF 3 ws k w))),(44,(.agg [(i6 2),(.fn (.func 43) [] []),(.fn (.func 44) [] [])])),(46,(i6 (wvF 3 ws k w))),(47,(dB (fitsF (wvF 3 ws k w))))],[(.var 61 [(LI ws),(LI xs),(i6 k),(i6 w)]),(.var 57 [(i6 0),(.v .nilf),(.v .nilf)]),(.var 57 [(i6 2),(.fn (.func 43) [] []),(.fn (.func 44) [] [])])]⟩
def zg_3_1_10 (ws xs : List Int) (k w : Int) : St := ⟨[(4,(.ptr 1 0 0 0)),(7,(.ptr 2 0 0 0)),(9,(i6 (wvF 3 ws k w))),(45,(i6 (wvF 3 ws k w))),(46,(i6 (wvF 3 ws k w))),(47,(dB (fitsF (wvF 3 ws k w))))],[(.var 61 [(LI ws),(LI xs),(i6 k),(i6 w)]),(.var 57 [(i6 0),(.v .nilf),(.v .nilf)]),(.var 57 [(i6 2),(.fn (.func 43) [] []),(.fn (.func 44) [] [])])]⟩
def zg_3_1_11 (ws xs : List Int) (k w : Int) : St := ⟨[(4,(.ptr 1 0 0 0)),(7,(.ptr 2 0 0 0)),(9,(i6 (wvF 3 ws k w))),(44,(.agg [(i6 2),(.fn (.func 43) [] []),(.fn (.func 44) [] [])])),(45,(i6 (wvF 3 ws k w))),(46,(i6 (wvF 3 ws k w))),(47,(dB (fitsF (wvF 3 ws k w))))],[(.var 61 [(LI ws),(LI xs),(i6 k),(i6 w)]),(.var 57 [(i6 0),(.v .nilf),(.v .nilf)]),(.var 57 [(i6 2),(.fn (.func 43) [] []),(.fn (.func 44) [] [])])]⟩
def zg_3_1_12 (ws xs : List Int) (k w : Int) : St := ⟨[(4,(.ptr 1 0 0 0)),(7,(.ptr 2 0 0 0)),(9,(i6 (wvF 3 ws k w))),(44,(.agg [(i6 2),(.fn (.func 43) [] []),(.fn (.func 44) [] [])])),(46,(i6 (wvF 3 ws k w))),(47,(dB (fitsF (wvF 3 ws k w))))],[(.var 61 [(LI ws),(LI xs),(i6 k),(i6 w)]),(.var 57 [(i6 2),(.fn (.func 43) [] []),(.fn (.func 44) [] [])]),(.var 57 [(i6 2),(.fn (.func 43) [] []),(.fn (.func 44) [] [])])]⟩
def zg_3_1_13 (ws xs : List Int) (k w : Int) : St := ⟨[(4,(.ptr 1 0 0 0)),(7,(.ptr 2 0 0 0)),(9,(i6 (wvF 3 ws k w))),(44,(.agg [(i6 2),(.fn (.func 43) [] []),(.fn (.func 44) [] [])])),(45,(i6 (wvF 3 ws k w))),(46,(i6 (wvF 3 ws k w))),(47,(dB (fitsF (wvF 3 ws k w))))],[(.var 61 [(LI ws),(LI xs),(i6 k),(i6 w)]),(.var 57 [(i6 2),(.fn (.func 43) [] []),(.fn (.func 44) [] [])]),(.var 57 [(i6 2),(.fn (.func 43) [] []),(.fn (.func 44) [] [])])]⟩
def zg_3_1_14 (ws xs : List Int) (k w : Int) : St := ⟨[(4,(.ptr 1 0 0 0)),(5,(i6 (wvF 3 ws k w))),(7,(.ptr 2 0 0 0)),(9,(i6 (wvF 3 ws k w))),(44,(.agg [(i6 2),(.fn (.func 43) [] []),(.fn (.func 44) [] [])])),(45,(i6 (wvF 3 ws k w))),(46,(i6 (wvF 3 ws k w))),(47,(dB (fitsF (wvF 3 ws k w))))],[(.var 61 [(LI ws),(LI xs),(i6 k),(i6 w)]),(.var 57 [(i6 2),(.fn (.func 43) [] []),(.fn (.func 44) [] [])]),(.var 57 [(i6 2),(.fn (.func 43) [] []),(.fn (.func 44) [] [])])]⟩
def zg_3_1_15 (ws xs : List Int) (k w : Int) : St := ⟨[(4,(.ptr 1 0 0 0)),(5,(i6 (wvF 3 ws k w))),(6,(dB true))],[(.var 61 [(LI ws),(LI xs),(i6 k),(i6 w)]),(.var 57 [(i6 2),(.fn (.func 43) [] []),(.fn (.func 44) [] [])]),(.var 57 [(i6 2),(.fn (.func 43) [] []),(.fn (.func 44) [] [])])]⟩
set_option maxRecDepth 100000 in
theorem width_good_3 (ws xs : List Int) (k w : Int) (hw : ws.length ≤ 9223372036854775807) (h : okF 3 ws k w = true) : CallOk Try.prog 27 [(i6 3),(.agg [(LI ws),(LI xs),(i6 k),(i6 w)])] [] true (.tup [(.agg [(i6 2),(.fn (.func 43) [] []),(.fn (.func 44) [] [])]),(i6 (wvF 3 ws k w)),(dB true)]) [] := by
  refine CallOk.of_ev Try.func27 rfl rfl rfl ?_
  rintro ⟨_,W,S0,_,susp,_⟩ rfl rfl rfl
  obtain ⟨h1,h2,h3⟩ := ok_yes h
  have hA : arityF 3 = 2 := by decide
  rw [hA] at h1
  refine Ev.seq ?_
  refine Ev.reg [] [0,3,4] (st' := ⟨[(0,(i6 3)),(3,(.ptr 0 0 0 0)),(4,(.ptr 1 0 0 0))],[(.var 61 [(LI ws),(LI xs),(i6 k),(i6 w)]),(.var 57 [(i6 0),(.v .nilf),(.v .nilf)])]⟩)
    (p := True∧True∧True∧True∧True) (by kernel_rfl)
    ⟨⟨⟩,⟨⟩,⟨⟩,⟨⟩,⟨⟩⟩ ?_
  refine Ev.seq ?_
  refine Ev.reg [(0,.call none false (.v (.mp simpleM))),(2,.idx (some 1))] [0,3,4,7,8] (st' := ⟨[(0,(i6 3)),(3,(.ptr 0 0 0 0)),(4,(.ptr 1 0 0 0)),(7,(.ptr 2 0 0 0)),(8,(dB true))],[(.var 61 [(LI ws),(LI xs),(i6 k),(i6 w)]),(.var 57 [(i6 0),(.v .nilf),(.v .nilf)]),(.var 57 [(i6 2),(.fn (.func 43) [] []),(.fn (.func 44) [] [])])]⟩)
    (p := callOb Try.prog 33 [(.var 61 [(LI ws),(LI xs),(i6 k),(i6 w)]),(.var 57 [(i6 0),(.v .nilf),(.v .nilf)])] [] none false (.v (.mp simpleM))∧True∧((3 : Int) = 3∧∀ e' ∈ simpleM.take 1,(3 : Int) ≠ e'.1)∧True∧True∧True∧True∧True∧True∧True) (by kernel_rfl)
    ⟨simple_ok,⟨⟩,(by decide),⟨⟩,⟨⟩,⟨⟩,⟨⟩,⟨⟩,⟨⟩,⟨⟩⟩ ?_
  refine Ev.seq ?_
  refine Ev.seq ?_
  refine Ev.reg [] [0,3,4,7,8,17] (st' := ⟨[(0,(i6 3)),(3,(.ptr 0 0 0 0)),(4,(.ptr 1 0 0 0)),(7,(.ptr 2 0 0 0)),(8,(dB true)),(17,(dB false))],[(.var 61 [(LI ws),(LI xs),(i6 k),(i6 w)]),(.var 57 [(i6 0),(.v .nilf),(.v .nilf)]),(.var 57 [(i6 2),(.fn (.func 43) [] []),(.fn (.func 44) [] [])])]⟩)
    (p := True∧True∧True) (by kernel_rfl)
    ⟨⟨⟩,⟨⟩,⟨⟩⟩ ?_
  refine Ev.cond false rfl (fun h => (by cases h)) (fun _ => ?_)
  refine Ev.skip ?_
  refine Ev.seq ?_
  refine Ev.seq ?_
  refine Ev.reg [(8,.val (dB false)),(13,.call none false (dB (!(ws.all fitsF)))),(14,.val (dB false))] [3,4,7,38] (st' := ⟨[(3,(.ptr 0 0 0 0)),(4,(.ptr 1 0 0 0)),(7,(.ptr 2 0 0 0)),(38,(dB false))],[(.var 61 [(LI ws),(LI xs),(i6 k),(i6 w)]),(.var 57 [(i6 0),(.v .nilf),(.v .nilf)]),(.var 57 [(i6 2),(.fn (.func 43) [] []),(.fn (.func 44) [] [])])]⟩)
    (p := True∧True∧True∧True∧True∧True∧True∧True∧(True∧(((ws.length : Nat) : Int) != 2) = false)∧True∧True∧True∧True∧callOb Try.prog 35 [(.var 61 [(LI ws),(LI xs),(i6 k),(i6 w)]),(.var 57 [(i6 0),(.v .nilf),(.v .nilf)]),(.var 57 [(i6 2),(.fn (.func 43) [] []),(.fn (.func 44) [] [])])] [(LI ws),(.fn (.func 36) [] [])] none false (dB (!(ws.all fitsF)))∧(True∧(!(ws.all fitsF)) = false)∧True) (by kernel_rfl)
    ⟨⟨⟩,⟨⟩,⟨⟩,⟨⟩,⟨⟩,⟨⟩,⟨⟩,⟨⟩,⟨⟨⟩,(by rw [h1]; rfl)⟩,⟨⟩,⟨⟩,⟨⟩,⟨⟩,(contains_ok _ (by first | omega | (simp; first | done | omega))),⟨⟨⟩,(by rw [h2]; rfl)⟩,⟨⟩⟩ ?_
  refine Ev.cond false rfl (fun h => (by cases h)) (fun _ => ?_)
  refine Ev.skip ?_
  refine Ev.seq ?_
  refine Ev.reg [(3,.call none false (i6 (alikeF ws))),(4,.val (i6 (wvF 3 ws k w)))] [4,7,9] (st' := ⟨[(4,(.ptr 1 0 0 0)),(7,(.ptr 2 0 0 0)),(9,(i6 (wvF 3 ws k w)))],[(.var 61 [(LI ws),(LI xs),(i6 k),(i6 w)]),(.var 57 [(i6 0),(.v .nilf),(.v .nilf)]),(.var 57 [(i6 2),(.fn (.func 43) [] []),(.fn (.func 44) [] [])])]⟩)
    (p := True∧True∧True∧callOb Try.prog 43 [(.var 61 [(LI ws),(LI xs),(i6 k),(i6 w)]),(.var 57 [(i6 0),(.v .nilf),(.v .nilf)]),(.var 57 [(i6 2),(.fn (.func 43) [] []),(.fn (.func 44) [] [])])] [(.agg [(LI ws),(LI xs),(i6 k),(i6 w)])] none false (i6 (alikeF ws))∧(True∧(alikeF ws) = (wvF 3 ws k w))∧True) (by kernel_rfl)
    ⟨⟨⟩,⟨⟩,⟨⟩,(alike_ok _ _ _ _ (by omega) (by assumption)),⟨⟨⟩,(by first | rfl | simp [wvF])⟩,⟨⟩⟩ ?_
  refine Ev.seq ?_
  refine Ev.any [(3,.call none false (dB (fitsF (wvF 3 ws k w)))),(6,.val (dB true))] [((bm 7 0),(zg_3_1_0 ws xs k w)),((bm 7 1),(zg_3_1_1 ws xs k w)),((bm 7 2),(zg_3_1_2 ws xs k w)),((bm 7 4),(zg_3_1_3 ws xs k w)),((bm 7 3),(zg_3_1_4 ws xs k w)),((bm 7 5),(zg_3_1_5 ws xs k w)),((bm 7 6),(zg_3_1_6 ws xs k w)),((bm 7 12),(zg_3_1_7 ws xs k w)),((bm 7 7),(zg_3_1_8 ws xs k w)),((bm 7 13),(zg_3_1_9 ws xs k w)),((bm 7 14),(zg_3_1_10 ws xs k w)),((bm 7 15),(zg_3_1_11 ws xs k w)),((bm 7 29),(zg_3_1_12 ws xs k w)),((bm 7 31),(zg_3_1_13 ws xs k w)),((bm 7 63),(zg_3_1_14 ws xs k w)),((bm 7 127),(zg_3_1_15 ws xs k w))] (st0 := (zg_3_1_0 ws xs k w)) (st' := ⟨[(4,(.ptr 1 0 0 0)),(5,(i6 (wvF 3 ws k w))),(6,(dB true))],[(.var 61 [(LI ws),(LI xs),(i6 k),(i6 w)]),(.var 57 [(i6 2),(.fn (.func 43) [] []),(.fn (.func 44) [] [])]),(.var 57 [(i6 2),(.fn (.func 43) [] []),(.fn (.func 44) [] [])])]⟩)
    (p := ((((zg_3_1_1 ws xs k w) : St) = (zg_3_1_1 ws xs k w)∧True∧True)∧(((zg_3_1_2 ws xs k w) : St) = (zg_3_1_2 ws xs k w)∧True∧True)∧(((zg_3_1_3 ws xs k w) : St) = (zg_3_1_3 ws xs k w)∧True∧True)∧True)∧((((zg_3_1_4 ws xs k w) : St) = (zg_3_1_4 ws xs k w)∧True∧True)∧(((zg_3_1_5 ws xs k w) : St) = (zg_3_1_5 ws xs k w)∧True∧True)∧True)∧((((zg_3_1_4 ws xs k w) : St) = (zg_3_1_4 ws xs k w)∧True∧True)∧(((zg_3_1_6 ws xs k w) : St) = (zg_3_1_6 ws xs k w)∧True∧True)∧True)∧((((zg_3_1_5 ws xs k w) : St) = (zg_3_1_5 ws xs k w)∧True∧True)∧(((zg_3_1_6 ws xs k w) : St) = (zg_3_1_6 ws xs k w)∧True∧True)∧(((zg_3_1_7 ws xs k w) : St) = (zg_3_1_7 ws xs k w)∧callOb Try.prog 37 [(.var 61 [(LI ws),(LI xs),(i6 k),(i6 w)]),(.var 57 [(i6 0),(.v .nilf),(.v .nilf)]),(.var 57 [(i6 2),(.fn (.func 43) [] []),(.fn (.func 44) [] [])])] [(i6 (wvF 3 ws k w))] none false (dB (fitsF (wvF 3 ws k w)))∧True)∧True)∧((((zg_3_1_8 ws xs k w) : St) = (zg_3_1_8 ws xs k w)∧True∧True)∧True)∧((((zg_3_1_8 ws xs k w) : St) = (zg_3_1_8 ws xs k w)∧True∧True)∧(((zg_3_1_9 ws xs k w) : St) = (zg_3_1_9 ws xs k w)∧callOb Try.prog 37 [(.var 61 [(LI ws),(LI xs),(i6 k),(i6 w)]),(.var 57 [(i6 0),(.v .nilf),(.v .nilf)]),(.var 57 [(i6 2),(.fn (.func 43) [] []),(.fn (.func 44) [] [])])] [(i6 (wvF 3 ws k w))] none false (dB (fitsF (wvF 3 ws k w)))∧True)∧True)∧((((zg_3_1_8 ws xs k w) : St) = (zg_3_1_8 ws xs k w)∧True∧True)∧(((zg_3_1_10 ws xs k w) : St) = (zg_3_1_10 ws xs k w)∧callOb Try.prog 37 [(.var 61 [(LI ws),(LI xs),(i6 k),(i6 w)]),(.var 57 [(i6 0),(.v .nilf),(.v .nilf)]),(.var 57 [(i6 2),(.fn (.func 43) [] []),(.fn (.func 44) [] [])])] [(i6 (wvF 3 ws k w))] none false (dB (fitsF (wvF 3 ws k w)))∧True)∧True)∧((((zg_3_1_9 ws xs k w) : St) = (zg_3_1_9 ws xs k w)∧True∧True)∧(((zg_3_1_10 ws xs k w) : St) = (zg_3_1_10 ws xs k w)∧True∧True)∧True)∧((((zg_3_1_11 ws xs k w) : St) = (zg_3_1_11 ws xs k w)∧callOb Try.prog 37 [(.var 61 [(LI ws),(LI xs),(i6 k),(i6 w)]),(.var 57 [(i6 0),(.v .nilf),(.v .nilf)]),(.var 57 [(i6 2),(.fn (.func 43) [] []),(.fn (.func 44) [] [])])] [(i6 (wvF 3 ws k w))] none false (dB (fitsF (wvF 3 ws k w)))∧True)∧True)∧((((zg_3_1_11 ws xs k w) : St) = (zg_3_1_11 ws xs k w)∧True∧True)∧(((zg_3_1_12 ws xs k w) : St) = (zg_3_1_12 ws xs k w)∧True∧True)∧True)∧((((zg_3_1_11 ws xs k w) : St) = (zg_3_1_11 ws xs k w)∧True∧True)∧True)∧((((zg_3_1_13 ws xs k w) : St) = (zg_3_1_13 ws xs k w)∧True∧True)∧True)∧((((zg_3_1_13 ws xs k w) : St) = (zg_3_1_13 ws xs k w)∧True∧True)∧True)∧((((zg_3_1_14 ws xs k w) : St) = (zg_3_1_14 ws xs k w)∧True∧True)∧True)∧((((zg_3_1_15 ws xs k w) : St) = (zg_3_1_15 ws xs k w)∧(True∧(fitsF (wvF 3 ws k w)) = true)∧True)∧True)∧True∧True) (by kernel_rfl) (by kernel_rfl) (by kernel_rfl) (by kernel_rfl) (by kernel_rfl) (by kernel_rfl)
    ⟨⟨⟨rfl,⟨⟩,⟨⟩⟩,⟨rfl,⟨⟩,⟨⟩⟩,⟨rfl,⟨⟩,⟨⟩⟩,⟨⟩⟩,⟨⟨rfl,⟨⟩,⟨⟩⟩,⟨rfl,⟨⟩,⟨⟩⟩,⟨⟩⟩,⟨⟨rfl,⟨⟩,⟨⟩⟩,⟨rfl,⟨⟩,⟨⟩⟩,⟨⟩⟩,⟨⟨rfl,⟨⟩,⟨⟩⟩,⟨rfl,⟨⟩,⟨⟩⟩,⟨rfl,(fits_ok _),⟨⟩⟩,⟨⟩⟩,⟨⟨rfl,⟨⟩,⟨⟩⟩,⟨⟩⟩,⟨⟨rfl,⟨⟩,⟨⟩⟩,⟨rfl,(fits_ok _),⟨⟩⟩,⟨⟩⟩,⟨⟨rfl,⟨⟩,⟨⟩⟩,⟨rfl,(fits_ok _),⟨⟩⟩,⟨⟩⟩,⟨⟨rfl,⟨⟩,⟨⟩⟩,⟨rfl,⟨⟩,⟨⟩⟩,⟨⟩⟩,⟨⟨rfl,(fits_ok _),⟨⟩⟩,⟨⟩⟩,⟨⟨rfl,⟨⟩,⟨⟩⟩,⟨rfl,⟨⟩,⟨⟩⟩,⟨⟩⟩,⟨⟨rfl,⟨⟩,⟨⟩⟩,⟨⟩⟩,⟨⟨rfl,⟨⟩,⟨⟩⟩,⟨⟩⟩,⟨⟨rfl,⟨⟩,⟨⟩⟩,⟨⟩⟩,⟨⟨rfl,⟨⟩,⟨⟩⟩,⟨⟩⟩,⟨⟨rfl,⟨⟨⟩,(by first | exact h3 | simpa [wvF] using h3)⟩,⟨⟩⟩,⟨⟩⟩,⟨⟩,⟨⟩⟩ ?_
  refine Ev.ret ?_
  refine ⟨⟨⟨⟩,⟨⟩,⟨⟩,⟨⟩⟩,(?_ : ((2 : Int) = 2∧((.fn (.func 43) [] []) : D) = (.fn (.func 43) [] [])∧((.fn (.func 44) [] []) : D) = (.fn (.func 44) [] [])∧True)∧(wvF 3 ws k w) = (wvF 3 ws k w)∧true = true∧True),.inl rfl⟩
  exact ⟨⟨rfl,rfl,rfl,⟨⟩⟩,rfl,rfl,⟨⟩⟩

set_option maxRecDepth 100000 in
theorem width_bad_3 (ws xs : List Int) (k w : Int) (hw : ws.length ≤ 9223372036854775807) (h : okB 3 ws = false) : CallOk Try.prog 27 [(i6 3),(.agg [(LI ws),(LI xs),(i6 k),(i6 w)])] [] true (.tup [(.agg [(i6 0),(.v .nilf),(.v .nilf)]),(i6 0),(dB false)]) [] := by
  refine CallOk.of_ev Try.func27 rfl rfl rfl ?_
  rintro ⟨_,W,S0,_,susp,_⟩ rfl rfl rfl
  refine Ev.seq ?_
  refine Ev.reg [] [0,3,4] (st' := ⟨[(0,(i6 3)),(3,(.ptr 0 0 0 0)),(4,(.ptr 1 0 0 0))],[(.var 61 [(LI ws),(LI xs),(i6 k),(i6 w)]),(.var 57 [(i6 0),(.v .nilf),(.v .nilf)])]⟩)
    (p := True∧True∧True∧True∧True) (by kernel_rfl)
    ⟨⟨⟩,⟨⟩,⟨⟩,⟨⟩,⟨⟩⟩ ?_
  refine Ev.seq ?_
  refine Ev.reg [(0,.call none false (.v (.mp simpleM))),(2,.idx (some 1))] [0,3,4,7,8] (st' := ⟨[(0,(i6 3)),(3,(.ptr 0 0 0 0)),(4,(.ptr 1 0 0 0)),(7,(.ptr 2 0 0 0)),(8,(dB true))],[(.var 61 [(LI ws),(LI xs),(i6 k),(i6 w)]),(.var 57 [(i6 0),(.v .nilf),(.v .nilf)]),(.var 57 [(i6 2),(.fn (.func 43) [] []),(.fn (.func 44) [] [])])]⟩)
    (p := callOb Try.prog 33 [(.var 61 [(LI ws),(LI xs),(i6 k),(i6 w)]),(.var 57 [(i6 0),(.v .nilf),(.v .nilf)])] [] none false (.v (.mp simpleM))∧True∧((3 : Int) = 3∧∀ e' ∈ simpleM.take 1,(3 : Int) ≠ e'.1)∧True∧True∧True∧True∧True∧True∧True) (by kernel_rfl)
    ⟨simple_ok,⟨⟩,(by decide),⟨⟩,⟨⟩,⟨⟩,⟨⟩,⟨⟩,⟨⟩,⟨⟩⟩ ?_
  refine Ev.seq ?_
  refine Ev.seq ?_
  refine Ev.reg [] [0,3,4,7,8,17] (st' := ⟨[(0,(i6 3)),(3,(.ptr 0 0 0 0)),(4,(.ptr 1 0 0 0)),(7,(.ptr 2 0 0 0)),(8,(dB true)),(17,(dB false))],[(.var 61 [(LI ws),(LI xs),(i6 k),(i6 w)]),(.var 57 [(i6 0),(.v .nilf),(.v .nilf)]),(.var 57 [(i6 2),(.fn (.func 43) [] []),(.fn (.func 44) [] [])])]⟩)
    (p := True∧True∧True) (by kernel_rfl)
    ⟨⟨⟩,⟨⟩,⟨⟩⟩ ?_
  refine Ev.cond false rfl (fun h => (by cases h)) (fun _ => ?_)
  refine Ev.skip ?_
  refine Ev.seq ?_
  refine Ev.seq ?_
  rcases okB_no h with h1 | ⟨h1,h2⟩
  · skip
    have hA : arityF 3 = 2 := by decide
    rw [hA] at h1
    refine Ev.reg [(8,.val (dB true))] [3,4,7,38] (st' := ⟨[(3,(.ptr 0 0 0 0)),(4,(.ptr 1 0 0 0)),(7,(.ptr 2 0 0 0)),(38,(dB true))],[(.var 61 [(LI ws),(LI xs),(i6 k),(i6 w)]),(.var 57 [(i6 0),(.v .nilf),(.v .nilf)]),(.var 57 [(i6 2),(.fn (.func 43) [] []),(.fn (.func 44) [] [])])]⟩)
      (p := True∧True∧True∧True∧True∧True∧True∧True∧(True∧(((ws.length : Nat) : Int) != 2) = true)∧True∧True∧True∧True∧True∧True∧True) (by kernel_rfl)
      ⟨⟨⟩,⟨⟩,⟨⟩,⟨⟩,⟨⟩,⟨⟩,⟨⟩,⟨⟩,⟨⟨⟩,(by exact bne_iff_ne.2 (by omega))⟩,⟨⟩,⟨⟩,⟨⟩,⟨⟩,⟨⟩,⟨⟩,⟨⟩⟩ ?_
    refine Ev.cond true rfl (fun _ => ?_) (fun h => (by cases h))
    refine Ev.seq ?_
    refine Ev.reg [] [4,5,6] (st' := ⟨[(4,(.ptr 1 0 0 0)),(5,(i6 0)),(6,(dB false))],[(.var 61 [(LI ws),(LI xs),(i6 k),(i6 w)]),(.var 57 [(i6 0),(.v .nilf),(.v .nilf)]),(.var 57 [(i6 2),(.fn (.func 43) [] []),(.fn (.func 44) [] [])])]⟩)
      (p := True∧True∧True∧True∧True) (by kernel_rfl)
      ⟨⟨⟩,⟨⟩,⟨⟩,⟨⟩,⟨⟩⟩ ?_
    refine Ev.ret ?_
    refine ⟨⟨⟨⟩,⟨⟩,⟨⟩,⟨⟩⟩,(?_ : ((0 : Int) = 0∧True∧True∧True)∧(0 : Int) = 0∧false = false∧True),.inl rfl⟩
    exact ⟨⟨rfl,⟨⟩,⟨⟩,⟨⟩⟩,rfl,rfl,⟨⟩⟩
  · skip
    have hA : arityF 3 = 2 := by decide
    rw [hA] at h1
    refine Ev.reg [(8,.val (dB false)),(13,.call none false (dB (!(ws.all fitsF)))),(14,.val (dB true))] [3,4,7,38] (st' := ⟨[(3,(.ptr 0 0 0 0)),(4,(.ptr 1 0 0 0)),(7,(.ptr 2 0 0 0)),(38,(dB true))],[(.var 61 [(LI ws),(LI xs),(i6 k),(i6 w)]),(.var 57 [(i6 0),(.v .nilf),(.v .nilf)]),(.var 57 [(i6 2),(.fn (.func 43) [] []),(.fn (.func 44) [] [])])]⟩)
      (p := True∧True∧True∧True∧True∧True∧True∧True∧(True∧(((ws.length : Nat) : Int) != 2) = false)∧True∧True∧True∧True∧callOb Try.prog 35 [(.var 61 [(LI ws),(LI xs),(i6 k),(i6 w)]),(.var 57 [(i6 0),(.v .nilf),(.v .nilf)]),(.var 57 [(i6 2),(.fn (.func 43) [] []),(.fn (.func 44) [] [])])] [(LI ws),(.fn (.func 36) [] [])] none false (dB (!(ws.all fitsF)))∧(True∧(!(ws.all fitsF)) = true)∧True) (by kernel_rfl)
      ⟨⟨⟩,⟨⟩,⟨⟩,⟨⟩,⟨⟩,⟨⟩,⟨⟩,⟨⟩,⟨⟨⟩,(by rw [h1]; rfl)⟩,⟨⟩,⟨⟩,⟨⟩,⟨⟩,(contains_ok _ (by first | omega | (simp; first | done | omega))),⟨⟨⟩,(by rw [h2]; rfl)⟩,⟨⟩⟩ ?_
    refine Ev.cond true rfl (fun _ => ?_) (fun h => (by cases h))
    refine Ev.seq ?_
    refine Ev.reg [] [4,5,6] (st' := ⟨[(4,(.ptr 1 0 0 0)),(5,(i6 0)),(6,(dB false))],[(.var 61 [(LI ws),(LI xs),(i6 k),(i6 w)]),(.var 57 [(i6 0),(.v .nilf),(.v .nilf)]),(.var 57 [(i6 2),(.fn (.func 43) [] []),(.fn (.func 44) [] [])])]⟩)
      (p := True∧True∧True∧True∧True) (by kernel_rfl)
      ⟨⟨⟩,⟨⟩,⟨⟩,⟨⟩,⟨⟩⟩ ?_
    refine Ev.ret ?_
    refine ⟨⟨⟨⟩,⟨⟩,⟨⟩,⟨⟩⟩,(?_ : ((0 : Int) = 0∧True∧True∧True)∧(0 : Int) = 0∧false = false∧True),.inl rfl⟩
    exact ⟨⟨rfl,⟨⟩,⟨⟩,⟨⟩⟩,rfl,rfl,⟨⟩⟩

def zwv_3_1_0 (ws xs : List Int) (k w : Int) : St := ⟨[(4,(.ptr 1 0 0 0)),(7,(.ptr 2 0 0 0)),(9,(i6 (wvF 3 ws k w)))],[(.var 61 [(LI ws),(LI xs),(i6 k),(i6 w)]),(.var 57 [(i6 0),(.v .nilf),(.v .nilf)]),(.var 57 [(i6 2),(.fn (.func 43) [] []),(.fn (.func 44) [] [])])]⟩
def zwv_3_1_1 (ws xs : List Int) (k w : Int) : St := ⟨[(4,(.ptr 1 0 0 0)),(7,(.ptr 2 0 0 0)),(9,(i6 (wvF 3 ws k w))),(44,(.agg [(i6 2),(.fn (.func 43) [] []),(.fn (.func 44) [] [])]))],[(.var 61 [(LI ws),(LI xs),(i6 k),(i6 w)]),(.var 57 [(i6 0),(.v .nilf),(.v .nilf)]),(.var 57 [(i6 2),(.fn (.func 43) [] []),(.fn (.func 44) [] [])])]⟩
def zwv_3_1_2 (ws xs : List Int) (k w : Int) : St := ⟨[(4,(.ptr 1 0 0 0)),(7,(.ptr 2 0 0 0)),(9,(i6 (wvF 3 ws k w))),(45,(i6 (wvF 3 ws k w)))],[(.var 61 [(LI ws),(LI xs),(i6 k),(i6 w)]),(.var 57 [(i6 0),(.v .nilf),(.v .nilf)]),(.var 57 [(i6 2),(.fn (.func 43) [] []),(.fn (.func 44) [] [])])]⟩
def zwv_3_1_3 (ws xs : List Int) (k w : Int) : St := ⟨[(4,(.ptr 1 0 0 0)),(7,(.ptr 2 0 0 0)),(9,(i6 (wvF 3 ws k w))),(46,(i6 (wvF 3 ws k w)))],[(.var 61 [(LI ws),(LI xs),(i6 k),(i6 w)]),(.var 57 [(i6 0),(.v .nilf),(.v .nilf)]),(.var 57 [(i6 2),(.fn (.func 43) [] []),(.fn (.func 44) [] [])])]⟩
def zwv_3_1_4 (ws xs : List Int) (k w : Int) : St := ⟨[(4,(.ptr 1 0 0 0)),(7,(.ptr 2 0 0 0)),(9,(i6 (wvF 3 ws k w))),(44,(.agg [(i6 2),(.fn (.func 43) [] []),(.fn (.func 44) [] [])])),(45,(i6 (wvF 3 ws k w)))],[(.var 61 [(LI ws),(LI xs),(i6 k),(i6 w)]),(.var 57 [(i6 0),(.v .nilf),(.v .nilf)]),(.var 57 [(i6 2),(.fn (.func 43) [] []),(.fn (.func 44) [] [])])]⟩
def zwv_3_1_5 (ws xs : List Int) (k w : Int) : St := ⟨[(4,(.ptr 1 0 0 0)),(7,(.ptr 2 0 0 0)),(9,(i6 (wvF 3 ws k w))),(44,(.agg [(i6 2),(.fn (.func 43) [] []),(.fn (.func 44) [] [])])),(46,(i6 (wvF 3 ws k w)))],[(.var 61 [(LI ws),(LI xs),(i6 k),(i6 w)]),(.var 57 [(i6 0),(.v .nilf),(.v .nilf)]),(.var 57 [(i6 2),(.fn (.func 43) [] []),(.fn (.func 44) [] [])])]⟩
def zwv_3_1_6 (ws xs : List Int) (k w : Int) : St := ⟨[(4,(.ptr 1 0 0 0)),(7,(.ptr 2 0 0 0)),(9,(i6 (wvF 3 ws k w))),(45,(i6 (wvF 3 ws k w))),(46,(i6 (wvF 3 ws k w)))],[(.var 61 [(LI ws),(LI xs),(i6 k),(i6 w)]),(.var 57 [(i6 0),(.v .nilf),(.v .nilf)]),(.var 57 [(i6 2),(.fn (.func 43) [] []),(.fn (.func 44) [] [])])]⟩
def zwv_3_1_7 (ws xs : List Int) (k w : Int) : St := ⟨[(4,(.ptr 1 0 0 0)),(7,(.ptr 2 0 0 0)),(9,(i6 (wvF 3 ws k w))),(46,(i6 (wvF 3 ws k w))),(47,(dB (fitsF (wvF 3 ws k w))))],[(.var 61 [(LI ws),(LI xs),(i6 k),(i6 w)]),(.var 57 [(i6 0),(.v .nilf),(.v .nilf)]),(.var 57 [(i6 2),(.fn (.func 43) [] []),(.fn (.func 44) [] [])])]⟩
def zwv_3_1_8 (ws xs : List Int) (k w : Int) : St := ⟨[(4,(.ptr 1 0 0 0)),(7,(.ptr 2 0 0 0)),(9,(i6 (wvF 3 ws k w))),(44,(.agg [(i6 2),(.fn (.func 43) [] []),(.fn (.func 44) [] [])])),(45,(i6 (wvF 3 ws k w))),(46,(i6 (wvF 3 ws k w)))],[(.var 61 [(LI ws),(LI xs),(i6 k),(i6 w)]),(.var 57 [(i6 0),(.v .nilf),(.v .nilf)]),(.var 57 [(i6 2),(.fn (.func 43) [] []),(.fn (.func 44) [] [])])]⟩
def zwv_3_1_9 (ws xs : List Int) (k w : Int) : St := ⟨[(4,(.ptr 1 0 0 0)),(7,(.ptr 2 0 0 0)),(9,(i6 (wvF 3 ws k w))),(44,(.agg [(i6 2),(.fn (.func 43) [] []),(.fn (.func 44) [] [])])),(46,(i6 (wvF 3 ws k w))),(47,(dB (fitsF (wvF 3 ws k w))))],[(.var 61 [(LI ws),(LI xs),(i6 k),(i6 w)]),(.var 57 [(i6 0),(.v .nilf),(.v .nilf)]),(.var 57 [(i6 2),(.fn (.func 43) [] []),(.fn (.func 44) [] [])])]⟩
def zwv_3_1_10 (ws xs : List Int) (k w : Int) : St := ⟨[(4,(.ptr 1 0 0 0)),(7,(.ptr 2 0 0 0)),(9,(i6 (wvF 3 ws k w))),(45,(i6 (wvF 3 ws k w))),(46,(i6 (wvF 3 ws k w))),(47,(dB (fitsF (wvF 3 ws k w))))],[(.var 61 [(LI ws),(LI xs),(i6 k),(i6 w)]),(.var 57 [(i6 0),(.v .nilf),(.v .nilf)]),(.var 57 [(i6 2),(.fn (.func 43) [] []),(.fn (.func 44) [] [])])]⟩
def zwv_3_1_11 (ws xs : List Int) (k w : Int) : St := ⟨[(4,(.ptr 1 0 0 0)),(7,(.ptr 2 0 0 0)),(9,(i6 (wvF 3 ws k w))),(44,(.agg [(i6 2),(.fn (.func 43) [] []),(.fn (.func 44) [] [])])),(45,(i6 (wvF 3 ws k w))),(46,(i6 (wvF 3 ws k w))),(47,(dB (fitsF (wvF 3 ws k w))))],[(.var 61 [(LI ws),(LI xs),(i6 k),(i6 w)]),(.var 57 [(i6 0),(.v .nilf),(.v .nilf)]),(.var 57 [(i6 2),(.fn (.func 43) [] []),(.fn (.func 44) [] [])])]⟩
def zwv_3_1_12 (ws xs : List Int) (k w : Int) : St := ⟨[(4,(.ptr 1 0 0 0)),(7,(.ptr 2 0 0 0)),(9,(i6 (wvF 3 ws k w))),(44,(.agg [(i6 2),(.fn (.func 43) [] []),(.fn (.func 44) [] [])])),(46,(i6 (wvF 3 ws k w))),(47,(dB (fitsF (wvF 3 ws k w))))],[(.var 61 [(LI ws),(LI xs),(i6 k),(i6 w)]),(.var 57 [(i6 2),(.fn (.func 43) [] []),(.fn (.func 44) [] [])]),(.var 57 [(i6 2),(.fn (.func 43) [] []),(.fn (.func 44) [] [])])]⟩
def zwv_3_1_13 (ws xs : List Int) (k w : Int) : St := ⟨[(4,(.ptr 1 0 0 0)),(7,(.ptr 2 0 0 0)),(9,(i6 (wvF 3 ws k w))),(44,(.agg [(i6 2),(.fn (.func 43) [] []),(.fn (.func 44) [] [])])),(45,(i6 (wvF 3 ws k w))),(46,(i6 (wvF 3 ws k w))),(47,(dB (fitsF (wvF 3 ws k w))))],[(.var 61 [(LI ws),(LI xs),(i6 k),(i6 w)]),(.var 57 [(i6 2),(.fn (.func 43) [] []),(.fn (.func 44) [] [])]),(.var 57 [(i6 2),(.fn (.func 43) [] []),(.fn (.func 44) [] [])])]⟩
def zwv_3_1_14 (ws xs : List Int) (k w : Int) : St := ⟨[(4,(.ptr 1 0 0 0)),(5,(i6 (wvF 3 ws k w))),(7,(.ptr 2 0 0 0)),(9,(i6 (wvF 3 ws k w))),(44,(.agg [(i6 2),(.fn (.func 43) [] []),(.fn (.func 44) [] [])])),(45,(i6 (wvF 3 ws k w))),(46,(i6 (wvF 3 ws k w))),(47,(dB (fitsF (wvF 3 ws k w))))],[(.var 61 [(LI ws),(LI xs),(i6 k),(i6 w)]),(.var 57 [(i6 2),(.fn (.func 43) [] []),(.fn (.func 44) [] [])]),(.var 57 [(i6 2),(.fn (.func 43) [] []),(.fn (.func 44) [] [])])]⟩
def zwv_3_1_15 (ws xs : List Int) (k w : Int) : St := ⟨[(4,(.ptr 1 0 0 0)),(5,(i6 (wvF 3 ws k w))),(6,(dB false))],[(.var 61 [(LI ws),(LI xs),(i6 k),(i6 w)]),(.var 57 [(i6 2),(.fn (.func 43) [] []),(.fn (.func 44) [] [])]),(.var 57 [(i6 2),(.fn (.func 43) [] []),(.fn (.func 44) [] [])])]⟩
set_option maxRecDepth 100000 in
theorem width_wv_3 (ws xs : List Int) (k w : Int) (hw : ws.length ≤ 9223372036854775807) (h : okB 3 ws = true) (h3 : fitsF (wvF 3 ws k w) = false) : CallOk Try.prog 27 [(i6 3),(.agg [(LI ws),(LI xs),(i6 k),(i6 w)])] [] true (.tup [(.agg [(i6 2),(.fn (.func 43) [] []),(.fn (.func 44) [] [])]),(i6 (wvF 3 ws k w)),(dB false)]) [] := by
  refine CallOk.of_ev Try.func27 rfl rfl rfl ?_
  rintro ⟨_,W,S0,_,susp,_⟩ rfl rfl rfl
  obtain ⟨h1,h2⟩ := okB_yes h
  have hA : arityF 3 = 2 := by decide
  rw [hA] at h1
  refine Ev.seq ?_
  refine Ev.reg [] [0,3,4] (st' := ⟨[(0,(i6 3)),(3,(.ptr 0 0 0 0)),(4,(.ptr 1 0 0 0))],[(.var 61 [(LI ws),(LI xs),(i6 k),(i6 w)]),(.var 57 [(i6 0),(.v .nilf),(.v .nilf)])]⟩)
    (p := True∧True∧True∧True∧True) (by kernel_rfl)
    ⟨⟨⟩,⟨⟩,⟨⟩,⟨⟩,⟨⟩⟩ ?_
  refine Ev.seq ?_
  refine Ev.reg [(0,.call none false (.v (.mp simpleM))),(2,.idx (some 1))] [0,3,4,7,8] (st' := ⟨[(0,(i6 3)),(3,(.ptr 0 0 0 0)),(4,(.ptr 1 0 0 0)),(7,(.ptr 2 0 0 0)),(8,(dB true))],[(.var 61 [(LI ws),(LI xs),(i6 k),(i6 w)]),(.var 57 [(i6 0),(.v .nilf),(.v .nilf)]),(.var 57 [(i6 2),(.fn (.func 43) [] []),(.fn (.func 44) [] [])])]⟩)
    (p := callOb Try.prog 33 [(.var 61 [(LI ws),(LI xs),(i6 k),(i6 w)]),(.var 57 [(i6 0),(.v .nilf),(.v .nilf)])] [] none false (.v (.mp simpleM))∧True∧((3 : Int) = 3∧∀ e' ∈ simpleM.take 1,(3 : Int) ≠ e'.1)∧True∧True∧True∧True∧True∧True∧True) (by kernel_rfl)
    ⟨simple_ok,⟨⟩,(by decide),⟨⟩,⟨⟩,⟨⟩,⟨⟩,⟨⟩,⟨⟩,⟨⟩⟩ ?_
  refine Ev.seq ?_
  refine Ev.seq ?_
  refine Ev.reg [] [0,3,4,7,8,17] (st' := ⟨[(0,(i6 3)),(3,(.ptr 0 0 0 0)),(4,(.ptr 1 0 0 0)),(7,(.ptr 2 0 0 0)),(8,(dB true)),(17,(dB false))],[(.var 61 [(LI ws),(LI xs),(i6 k),(i6 w)]),(.var 57 [(i6 0),(.v .nilf),(.v .nilf)]),(.var 57 [(i6 2),(.fn (.func 43) [] []),(.fn (.func 44) [] [])])]⟩)
    (p := True∧True∧True) (by kernel_rfl)
    ⟨⟨⟩,⟨⟩,⟨⟩⟩ ?_
  refine Ev.cond false rfl (fun h => (by cases h)) (fun _ => ?_)
  refine Ev.skip ?_
  refine Ev.seq ?_
  refine Ev.seq ?_
  refine Ev.reg [(8,.val (dB false)),(13,.call none false (dB (!(ws.all fitsF)))),(14,.val (dB false))] [3,4,7,38] (st' := ⟨[(3,(.ptr 0 0 0 0)),(4,(.ptr 1 0 0 0)),(7,(.ptr 2 0 0 0)),(38,(dB false))],[(.var 61 [(LI ws),(LI xs),(i6 k),(i6 w)]),(.var 57 [(i6 0),(.v .nilf),(.v .nilf)]),(.var 57 [(i6 2),(.fn (.func 43) [] []),(.fn (.func 44) [] [])])]⟩)
    (p := True∧True∧True∧True∧True∧True∧True∧True∧(True∧(((ws.length : Nat) : Int) != 2) = false)∧True∧True∧True∧True∧callOb Try.prog 35 [(.var 61 [(LI ws),(LI xs),(i6 k),(i6 w)]),(.var 57 [(i6 0),(.v .nilf),(.v .nilf)]),(.var 57 [(i6 2),(.fn (.func 43) [] []),(.fn (.func 44) [] [])])] [(LI ws),(.fn (.func 36) [] [])] none false (dB (!(ws.all fitsF)))∧(True∧(!(ws.all fitsF)) = false)∧True) (by kernel_rfl)
    ⟨⟨⟩,⟨⟩,⟨⟩,⟨⟩,⟨⟩,⟨⟩,⟨⟩,⟨⟩,⟨⟨⟩,(by rw [h1]; rfl)⟩,⟨⟩,⟨⟩,⟨⟩,⟨⟩,(contains_ok _ (by first | omega | (simp; first | done | omega))),⟨⟨⟩,(by rw [h2]; rfl)⟩,⟨⟩⟩ ?_
  refine Ev.cond false rfl (fun h => (by cases h)) (fun _ => ?_)
  refine Ev.skip ?_
  refine Ev.seq ?_
  refine Ev.reg [(3,.call none false (i6 (alikeF ws))),(4,.val (i6 (wvF 3 ws k w)))] [4,7,9] (st' := ⟨[(4,(.ptr 1 0 0 0)),(7,(.ptr 2 0 0 0)),(9,(i6 (wvF 3 ws k w)))],[(.var 61 [(LI ws),(LI xs),(i6 k),(i6 w)]),(.var 57 [(i6 0),(.v .nilf),(.v .nilf)]),(.var 57 [(i6 2),(.fn (.func 43) [] []),(.fn (.func 44) [] [])])]⟩)
    (p := True∧True∧True∧callOb Try.prog 43 [(.var 61 [(LI ws),(LI xs),(i6 k),(i6 w)]),(.var 57 [(i6 0),(.v .nilf),(.v .nilf)]),(.var 57 [(i6 2),(.fn (.func 43) [] []),(.fn (.func 44) [] [])])] [(.agg [(LI ws),(LI xs),(i6 k),(i6 w)])] none false (i6 (alikeF ws))∧(True∧(alikeF ws) = (wvF 3 ws k w))∧True) (by kernel_rfl)
    ⟨⟨⟩,⟨⟩,⟨⟩,(alike_ok _ _ _ _ (by omega) (by assumption)),⟨⟨⟩,(by first | rfl | simp [wvF])⟩,⟨⟩⟩ ?_
  refine Ev.seq ?_
  refine Ev.any [(3,.call none false (dB (fitsF (wvF 3 ws k w)))),(6,.val (dB false))] [((bm 7 0),(zwv_3_1_0 ws xs k w)),((bm 7 1),(zwv_3_1_1 ws xs k w)),((bm 7 2),(zwv_3_1_2 ws xs k w)),((bm 7 4),(zwv_3_1_3 ws xs k w)),((bm 7 3),(zwv_3_1_4 ws xs k w)),((bm 7 5),(zwv_3_1_5 ws xs k w)),((bm 7 6),(zwv_3_1_6 ws xs k w)),((bm 7 12),(zwv_3_1_7 ws xs k w)),((bm 7 7),(zwv_3_1_8 ws xs k w)),((bm 7 13),(zwv_3_1_9 ws xs k w)),((bm 7 14),(zwv_3_1_10 ws xs k w)),((bm 7 15),(zwv_3_1_11 ws xs k w)),((bm 7 29),(zwv_3_1_12 ws xs k w)),((bm 7 31),(zwv_3_1_13 ws xs k w)),((bm 7 63),(zwv_3_1_14 ws xs k w)),((bm 7 127),(zwv_3_1_15 ws xs k w))] (st0 := (zwv_3_1_0 ws xs k w)) (st' := ⟨[(4,(.ptr 1 0 0 0)),(5,(i6 (wvF 3 ws k w))),(6,(dB false))],[(.var 61 [(LI ws),(LI xs),(i6 k),(i6 w)]),(.var 57 [(i6 2),(.fn (.func 43) [] []),(.fn (.func 44) [] [])]),(.var 57 [(i6 2),(.fn (.func 43) [] []),(.fn (.func 44) [] [])])]⟩)
    (p := ((((zwv_3_1_1 ws xs k w) : St) = (zwv_3_1_1 ws xs k w)∧True∧True)∧(((zwv_3_1_2 ws xs k w) : St) = (zwv_3_1_2 ws xs k w)∧True∧True)∧(((zwv_3_1_3 ws xs k w) : St) = (zwv_3_1_3 ws xs k w)∧True∧True)∧True)∧((((zwv_3_1_4 ws xs k w) : St) = (zwv_3_1_4 ws xs k w)∧True∧True)∧(((zwv_3_1_5 ws xs k w) : St) = (zwv_3_1_5 ws xs k w)∧True∧True)∧True)∧((((zwv_3_1_4 ws xs k w) : St) = (zwv_3_1_4 ws xs k w)∧True∧True)∧(((zwv_3_1_6 ws xs k w) : St) = (zwv_3_1_6 ws xs k w)∧True∧True)∧True)∧((((zwv_3_1_5 ws xs k w) : St) = (zwv_3_1_5 ws xs k w)∧True∧True)∧(((zwv_3_1_6 ws xs k w) : St) = (zwv_3_1_6 ws xs k w)∧True∧True)∧(((zwv_3_1_7 ws xs k w) : St) = (zwv_3_1_7 ws xs k w)∧callOb Try.prog 37 [(.var 61 [(LI ws),(LI xs),(i6 k),(i6 w)]),(.var 57 [(i6 0),(.v .nilf),(.v .nilf)]),(.var 57 [(i6 2),(.fn (.func 43) [] []),(.fn (.func 44) [] [])])] [(i6 (wvF 3 ws k w))] none false (dB (fitsF (wvF 3 ws k w)))∧True)∧True)∧((((zwv_3_1_8 ws xs k w) : St) = (zwv_3_1_8 ws xs k w)∧True∧True)∧True)∧((((zwv_3_1_8 ws xs k w) : St) = (zwv_3_1_8 ws xs k w)∧True∧True)∧(((zwv_3_1_9 ws xs k w) : St) = (zwv_3_1_9 ws xs k w)∧callOb Try.prog 37 [(.var 61 [(LI ws),(LI xs),(i6 k),(i6 w)]),(.var 57 [(i6 0),(.v .nilf),(.v .nilf)]),(.var 57 [(i6 2),(.fn (.func 43) [] []),(.fn (.func 44) [] [])])] [(i6 (wvF 3 ws k w))] none false (dB (fitsF (wvF 3 ws k w)))∧True)∧True)∧((((zwv_3_1_8 ws xs k w) : St) = (zwv_3_1_8 ws xs k w)∧True∧True)∧(((zwv_3_1_10 ws xs k w) : St) = (zwv_3_1_10 ws xs k w)∧callOb Try.prog 37 [(.var 61 [(LI ws),(LI xs),(i6 k),(i6 w)]),(.var 57 [(i6 0),(.v .nilf),(.v .nilf)]),(.var 57 [(i6 2),(.fn (.func 43) [] []),(.fn (.func 44) [] [])])] [(i6 (wvF 3 ws k w))] none false (dB (fitsF (wvF 3 ws k w)))∧True)∧True)∧((((zwv_3_1_9 ws xs k w) : St) = (zwv_3_1_9 ws xs k w)∧True∧True)∧(((zwv_3_1_10 ws xs k w) : St) = (zwv_3_1_10 ws xs k w)∧True∧True)∧True)∧((((zwv_3_1_11 ws xs k w) : St) = (zwv_3_1_11 ws xs k w)∧callOb Try.prog 37 [(.var 61 [(LI ws),(LI xs),(i6 k),(i6 w)]),(.var 57 [(i6 0),(.v .nilf),(.v .nilf)]),(.var 57 [(i6 2),(.fn (.func 43) [] []),(.fn (.func 44) [] [])])] [(i6 (wvF 3 ws k w))] none false (dB (fitsF (wvF 3 ws k w)))∧True)∧True)∧((((zwv_3_1_11 ws xs k w) : St) = (zwv_3_1_11 ws xs k w)∧True∧True)∧(((zwv_3_1_12 ws xs k w) : St) = (zwv_3_1_12 ws xs k w)∧True∧True)∧True)∧((((zwv_3_1_11 ws xs k w) : St) = (zwv_3_1_11 ws xs k w)∧True∧True)∧True)∧((((zwv_3_1_13 ws xs k w) : St) = (zwv_3_1_13 ws xs k w)∧True∧True)∧True)∧((((zwv_3_1_13 ws xs k w) : St) = (zwv_3_1_13 ws xs k w)∧True∧True)∧True)∧((((zwv_3_1_14 ws xs k w) : St) = (zwv_3_1_14 ws xs k w)∧True∧True)∧True)∧((((zwv_3_1_15 ws xs k w) : St) = (zwv_3_1_15 ws xs k w)∧(True∧(fitsF (wvF 3 ws k w)) = false)∧True)∧True)∧True∧True) (by kernel_rfl) (by kernel_rfl) (by kernel_rfl) (by kernel_rfl) (by kernel_rfl) (by kernel_rfl)
    ⟨⟨⟨rfl,⟨⟩,⟨⟩⟩,⟨rfl,⟨⟩,⟨⟩⟩,⟨rfl,⟨⟩,⟨⟩⟩,⟨⟩⟩,⟨⟨rfl,⟨⟩,⟨⟩⟩,⟨rfl,⟨⟩,⟨⟩⟩,⟨⟩⟩,⟨⟨rfl,⟨⟩,⟨⟩⟩,⟨rfl,⟨⟩,⟨⟩⟩,⟨⟩⟩,⟨⟨rfl,⟨⟩,⟨⟩⟩,⟨rfl,⟨⟩,⟨⟩⟩,⟨rfl,(fits_ok _),⟨⟩⟩,⟨⟩⟩,⟨⟨rfl,⟨⟩,⟨⟩⟩,⟨⟩⟩,⟨⟨rfl,⟨⟩,⟨⟩⟩,⟨rfl,(fits_ok _),⟨⟩⟩,⟨⟩⟩,⟨⟨rfl,⟨⟩,⟨⟩⟩,⟨rfl,(fits_ok _),⟨⟩⟩,⟨⟩⟩,⟨⟨rfl,⟨⟩,⟨⟩⟩,⟨rfl,⟨⟩,⟨⟩⟩,⟨⟩⟩,⟨⟨rfl,(fits_ok _),⟨⟩⟩,⟨⟩⟩,⟨⟨rfl,⟨⟩,⟨⟩⟩,⟨rfl,⟨⟩,⟨⟩⟩,⟨⟩⟩,⟨⟨rfl,⟨⟩,⟨⟩⟩,⟨⟩⟩,⟨⟨rfl,⟨⟩,⟨⟩⟩,⟨⟩⟩,⟨⟨rfl,⟨⟩,⟨⟩⟩,⟨⟩⟩,⟨⟨rfl,⟨⟩,⟨⟩⟩,⟨⟩⟩,⟨⟨rfl,⟨⟨⟩,(by first | exact h3 | simpa [wvF] using h3)⟩,⟨⟩⟩,⟨⟩⟩,⟨⟩,⟨⟩⟩ ?_
  refine Ev.ret ?_
  refine ⟨⟨⟨⟩,⟨⟩,⟨⟩,⟨⟩⟩,(?_ : ((2 : Int) = 2∧((.fn (.func 43) [] []) : D) = (.fn (.func 43) [] [])∧((.fn (.func 44) [] []) : D) = (.fn (.func 44) [] [])∧True)∧(wvF 3 ws k w) = (wvF 3 ws k w)∧false = false∧True),.inl rfl⟩
  exact ⟨⟨rfl,rfl,rfl,⟨⟩⟩,rfl,rfl,⟨⟩⟩

def zg_4_1_0 (ws xs : List Int) (k w : Int) : St := ⟨[(4,(.ptr 1 0 0 0)),(7,(.ptr 2 0 0 0)),(9,(i6 (wvF 4 ws k w)))],[(.var 61 [(LI ws),(LI xs),(i6 k),(i6 w)]),(.var 57 [(i6 0),(.v .nilf),(.v .nilf)]),(.var 57 [(i6 2),(.fn (.func 43) [] []),(.fn (.func 45) [] [])])]⟩
def zg_4_1_1 (ws xs : List Int) (k w : Int) : St := ⟨[(4,(.ptr 1 0 0 0)),(7,(.ptr 2 0 0 0)),(9,(i6 (wvF 4 ws k w))),(44,(.agg [(i6 2),(.fn (.func 43) [] []),(.fn (.func 45) [] [])]))],[(.var 61 [(LI ws),(LI xs),(i6 k),(i6 w)]),(.var 57 [(i6 0),(.v .nilf),(.v .nilf)]),(.var 57 [(i6 2),(.fn (.func 43) [] []),(.fn (.func 45) [] [])])]⟩
def zg_4_1_2 (ws xs : List Int) (k w : Int) : St := ⟨[(4,(.ptr 1 0 0 0)),(7,(.ptr 2 0 0 0)),(9,(i6 (wvF 4 ws k w))),(45,(i6 (wvF 4 ws k w)))],[(.var 61 [(LI ws),(LI xs),(i6 k),(i6 w)]),(.var 57 [(i6 0),(.v .nilf),(.v .nilf)]),(.var 57 [(i6 2),(.fn (.func 43) [] []),(.fn (.func 45) [] [])])]⟩
def zg_4_1_3 (ws xs : List Int) (k w : Int) : St := ⟨[(4,(.ptr 1 0 0 0)),(7,(.ptr 2 0 0 0)),(9,(i6 (wvF 4 ws k w))),(46,(i6 (wvF 4 ws k w)))],[(.var 61 [(LI ws),(LI xs),(i6 k),(i6 w)]),(.var 57 [(i6 0),(.v .nilf),(.v .nilf)]),(.var 57 [(i6 2),(.fn (.func 43) [] []),(.fn (.func 45) [] [])])]⟩
def zg_4_1_4 (ws xs : List Int) (k w : Int) : St := ⟨[(4,(.ptr 1 0 0 0)),(7,(.ptr 2 0 0 0)),(9,(i6 (wvF 4 ws k w))),(44,(.agg [(i6 2),(.fn (.func 43) [] []),(.fn (.func 45) [] [])])),(45,(i6 (wvF 4 ws k w)))],[(.var 61 [(LI ws),(LI xs),(i6 k),(i6 w)]),(.var 57 [(i6 0),(.v .nilf),(.v .nilf)]),(.var 57 [(i6 2),(.fn (.func 43) [] []),(.fn (.func 45) [] [])])]⟩
def zg_4_1_5 (ws xs : List Int) (k w : Int) : St := ⟨[(4,(.ptr 1 0 0 0)),(7,(.ptr 2 0 0 0)),(9,(i6 (wvF 4 ws k w))),(44,(.agg [(i6 2),(.fn (.func 43) [] []),(.fn (.func 45) [] [])])),(46,(i6 (wvF 4 ws k w)))],[(.var 61 [(LI ws),(LI xs),(i6 k),(i6 w)]),(.var 57 [(i6 0),(.v .nilf),(.v .nilf)]),(.var 57 [(i6 2),(.fn (.func 43) [] []),(.fn (.func 45) [] [])])]⟩
def zg_4_1_6 (ws xs : List Int) (k w : Int) : St := ⟨[(4,(.ptr 1 0 0 0)),(7,(.ptr 2 0 0 0)),(9,(i6 (wvF 4 ws k w))),(45,(i6 (wvF 4 ws k w))),(46,(i6 (wvF 4 ws k w)))],[(.var 61 [(LI ws),(LI xs),(i6 k),(i6 w)]),(.var 57 [(i6 0),(.v .nilf),(.v .nilf)]),(.var 57 [(i6 2),(.fn (.func 43) [] []),(.fn (.func 45) [] [])])]⟩
def zg_4_1_7 (ws xs : List Int) (k w : Int) : St := ⟨[(4,(.ptr 1 0 0 0)),(7,(.ptr 2 0 0 0)),(9,(i6 (wvF 4 ws k w))),(46,(i6 (wvF 4 ws k w))),(47,(dB (fitsF (wvF 4 ws k w))))],[(.var 61 [(LI ws),(LI xs),(i6 k),(i6 w)]),(.var 57 [(i6 0),(.v .nilf),(.v .nilf)]),(.var 57 [(i6 2),(.fn (.func 43) [] []),(.fn (.func 45) [] [])])]⟩
def zg_4_1_8 (ws xs : List Int) (k w : Int) : St := ⟨[(4,(.ptr 1 0 0 0)),(7,(.ptr 2 0 0 0)),(9,(i6 (wvF 4 ws k w))),(44,(.agg [(i6 2),(.fn (.func 43) [] []),(.fn (.func 45) [] [])])),(45,(i6 (wvF 4 ws k w))),(46,(i6 (wvF 4 ws k w)))],[(.var 61 [(LI ws),(LI xs),(i6 k),(i6 w)]),(.var 57 [(i6 0),(.v .nilf),(.v .nilf)]),(.var 57 [(i6 2),(.fn (.func 43) [] []),(.fn (.func 45) [] [])])]⟩
def zg_4_1_9 (ws xs : List Int) (k w : Int) : St := ⟨[(4,(.ptr 1 0 0 0)),(7,(.ptr 2 0 0 0)),(9,(i6 (wvF 4 ws k w))),(44,(.agg [(i6 2),(.fn (.func 43) [] []),(.fn (.func 45) [] [])])),(46,(i6 (wvF 4 ws k w))),(47,(dB (fitsF (wvF 4 ws k w))))],[(.var 61 [(LI ws),(LI xs),(i6 k),(i6 w)]),(.var 57 [(i6 0),(.v .nilf),(.v .nilf)]),(.var 57 [(i6 2),(.fn (.func 43) [] []),(.fn (.func 45) [] [])])]⟩
def zg_4_1_10 (ws xs : List Int) (k w : Int) : St := ⟨[(4,(.ptr 1 0 0 0)),(7,(.ptr 2 0 0 0)),(9,(i6 (wvF 4 ws k w))),(45,(i6 (wvF 4 ws k w))),(46,(i6 (wvF 4 ws k w))),(47,(dB (fitsF (wvF 4 ws k w))))],[(.var 61 [(LI ws),(LI xs),(i6 k),(i6 w)]),(.var 57 [(i6 0),(.v .nilf),(.v .nilf)]),(.var 57 [(i6 2),(.fn (.func 43) [] []),(.fn (.func 45) [] [])])]⟩
def zg_4_1_11 (ws xs : List Int) (k w : Int) : St := ⟨[(4,(.ptr 1 0 0 0)),(7,(.ptr 2 0 0 0)),(9,(i6 (wvF 4 ws k w))),(44,(.agg [(i6 2),(.fn (.func 43) [] []),(.fn (.func 45) [] [])])),(45,(i6 (wvF 4 ws k w))),(46,(i6 (wvF 4 ws k w))),(47,(dB (fitsF (wvF 4 ws k w))))],[(.var 61 [(LI ws),(LI xs),(i6 k),(i6 w)]),(.var 57 [(i6 0),(.v .nilf),(.v .nilf)]),(.var 57 [(i6 2),(.fn (.func 43) [] []),(.fn (.func 45) [] [])])]⟩
def zg_4_1_12 (ws xs : List Int) (k w : Int) : St := ⟨[(4,(.ptr 1 0 0 0)),(7,(.ptr 2 0 0 0)),(9,(i6 (wvF 4 ws k w))),(44,(.agg [(i6 2),(.fn (.func 43) [] []),(.fn (.func 45) [] [])])),(46,(i6 (wvF 4 ws k w))),(47,(dB (fitsF (wvF 4 ws k w))))],[(.var 61 [(LI ws),(LI xs),(i6 k),(i6 w)]),(.var 57 [(i6 2),(.fn (.func 43) [] []),(.fn (.func 45) [] [])]),(.var 57 [(i6 2),(.fn (.func 43) [] []),(.fn (.func 45) [] [])])]⟩
def zg_4_1_13 (ws xs : List Int) (k w : Int) : St := ⟨[(4,(.ptr 1 0 0 0)),(7,(.ptr 2 0 0 0)),(9,(i6 (wvF 4 ws k w))),(44,(.agg [(i6 2),(.fn (.func 43) [] []),(.fn (.func 45) [] [])])),(45,(i6 (wvF 4 ws k w))),(46,(i6 (wvF 4 ws k w))),(47,(dB (fitsF (wvF 4 ws k w))))],[(.var 61 [(LI ws),(LI xs),(i6 k),(i6 w)]),(.var 57 [(i6 2),(.fn (.func 43) [] []),(.fn (.func 45) [] [])]),(.var 57 [(i6 2),(.fn (.func 43) [] []),(.fn (.func 45) [] [])])]⟩
def zg_4_1_14 (ws xs : List Int) (k w : Int) : St := ⟨[(4,(.ptr 1 0 0 0)),(5,(i6 (wvF 4 ws k w))),(7,(.ptr 2 0 0 0)),(9,(i6 (wvF 4 ws k w))),(44,(.agg [(i6 2),(.fn (.func 43) [] []),(.fn (.func 45) [] [])])),(45,(i6 (wvF 4 ws k w))),(46,(i6 (wvF 4 ws k w))),(47,(dB (fitsF (wvF 4 ws k w))))],[(.var 61 [(LI ws),(LI xs),(i6 k),(i6 w)]),(.var 57 [(i6 2),(.fn (.func 43) [] []),(.fn (.func 45) [] [])]),(.var 57 [(i6 2),(.fn (.func 43) [] []),(.fn (.func 45) [] [])])]⟩
def zg_4_1_15 (ws xs : List Int) (k w : Int) : St := ⟨[(4,(.ptr 1 0 0 0)),(5,(i6 (wvF 4 ws k w))),(6,(dB true))],[(.var 61 [(LI ws),(LI xs),(i6 k),(i6 w)]),(.var 57 [(i6 2),(.fn (.func 43) [] []),(.fn (.func 45) [] [])]),(.var 57 [(i6 2),(.fn (.func 43) [] []),(.fn (.func 45) [] [])])]⟩
set_option maxRecDepth 100000 in
theorem width_good_4 (ws xs : List Int) (k w : Int) (hw : ws.length ≤ 9223372036854775807) (h : okF 4 ws k w = true) : CallOk Try.prog 27 [(i6 4),(.agg [(LI ws),(LI xs),(i6 k),(i6 w)])] [] true (.tup [(.agg [(i6 2),(.fn (.func 43) [] []),(.fn (.func 45) [] [])]),(i6 (wvF 4 ws k w)),(dB true)]) [] := by
  refine CallOk.of_ev Try.func27 rfl rfl rfl ?_
  rintro ⟨_,W,S0,_,susp,_⟩ rfl rfl rfl
  obtain ⟨h1,h2,h3⟩ := ok_yes h
  have hA : arityF 4 = 2 := by decide
  rw [hA] at h1
  refine Ev.seq ?_
  refine Ev.reg [] [0,3,4] (st' := ⟨[(0,(i6 4)),(3,(.ptr 0 0 0 0)),(4,(.ptr 1 0 0 0))],[(.var 61 [(LI ws),(LI xs),(i6 k),(i6 w)]),(.var 57 [(i6 0),(.v .nilf),(.v .nilf)])]⟩)
    (p := True∧True∧True∧True∧True) (by kernel_rfl)
    ⟨⟨⟩,⟨⟩,⟨⟩,⟨⟩,⟨⟩⟩ ?_
  refine Ev.seq ?_
  refine Ev.reg [(0,.call none false (.v (.mp simpleM))),(2,.idx (some 2))] [0,3,4,7,8] (st' := ⟨[(0,(i6 4)),(3,(.ptr 0 0 0 0)),(4,(.ptr 1 0 0 0)),(7,(.ptr 2 0 0 0)),(8,(dB true))],[(.var 61 [(LI ws),(LI xs),(i6 k),(i6 w)]),(.var 57 [(i6 0),(.v .nilf),(.v .nilf)]),(.var 57 [(i6 2),(.fn (.func 43) [] []),(.fn (.func 45) [] [])])]⟩)
    (p := callOb Try.prog 33 [(.var 61 [(LI ws),(LI xs),(i6 k),(i6 w)]),(.var 57 [(i6 0),(.v .nilf),(.v .nilf)])] [] none false (.v (.mp simpleM))∧True∧((4 : Int) = 4∧∀ e' ∈ simpleM.take 2,(4 : Int) ≠ e'.1)∧True∧True∧True∧True∧True∧True∧True) (by kernel_rfl)
    ⟨simple_ok,⟨⟩,(by decide),⟨⟩,⟨⟩,⟨⟩,⟨⟩,⟨⟩,⟨⟩,⟨⟩⟩ ?_
  refine Ev.seq ?_
  refine Ev.seq ?_
  refine Ev.reg [] [0,3,4,7,8,17] (st' := ⟨[(0,(i6 4)),(3,(.ptr 0 0 0 0)),(4,(.ptr 1 0 0 0)),(7,(.ptr 2 0 0 0)),(8,(dB true)),(17,(dB false))],[(.var 61 [(LI ws),(LI xs),(i6 k),(i6 w)]),(.var 57 [(i6 0),(.v .nilf),(.v .nilf)]),(.var 57 [(i6 2),(.fn (.func 43) [] []),(.fn (.func 45) [] [])])]⟩)
    (p := True∧True∧True) (by kernel_rfl)
    ⟨⟨⟩,⟨⟩,⟨⟩⟩ ?_
  refine Ev.cond false rfl (fun h => (by cases h)) (fun _ => ?_)
  refine Ev.skip ?_
  refine Ev.seq ?_
  refine Ev.seq ?_
  refine Ev.reg [(8,.val (dB false)),(13,.call none false (dB (!(ws.all fitsF)))),(14,.val (dB false))] [3,4,7,38] (st' := ⟨[(3,(.ptr 0 0 0 0)),(4,(.ptr 1 0 0 0)),(7,(.ptr 2 0 0 0)),(38,(dB false))],[(.var 61 [(LI ws),(LI xs),(i6 k),(i6 w)]),(.var 57 [(i6 0),(.v .nilf),(.v .nilf)]),(.var 57 [(i6 2),(.fn (.func 43) [] []),(.fn (.func 45) [] [])])]⟩)
    (p := True∧True∧True∧True∧True∧True∧True∧True∧(True∧(((ws.length : Nat) : Int) != 2) = false)∧True∧True∧True∧True∧callOb Try.prog 35 [(.var 61 [(LI ws),(LI xs),(i6 k),(i6 w)]),(.var 57 [(i6 0),(.v .nilf),(.v .nilf)]),(.var 57 [(i6 2),(.fn (.func 43) [] []),(.fn (.func 45) [] [])])] [(LI ws),(.fn (.func 36) [] [])] none false (dB (!(ws.all fitsF)))∧(True∧(!(ws.all fitsF)) = false)∧True) (by kernel_rfl)
    ⟨⟨⟩,⟨⟩,⟨⟩,⟨⟩,⟨⟩,⟨⟩,⟨⟩,⟨⟩,⟨⟨⟩,(by rw [h1]; rfl)⟩,⟨⟩,⟨⟩,⟨⟩,⟨⟩,(contains_ok _ (by first | omega | (simp; first | done | omega))),⟨⟨⟩,(by rw [h2]; rfl)⟩,⟨⟩⟩ ?_
  refine Ev.cond false rfl (fun h => (by cases h)) (fun _ => ?_)
  refine Ev.skip ?_
  refine Ev.seq ?_
  refine Ev.reg [(3,.call none false (i6 (alikeF ws))),(4,.val (i6 (wvF 4 ws k w)))] [4,7,9] (st' := ⟨[(4,(.ptr 1 0 0 0)),(7,(.ptr 2 0 0 0)),(9,(i6 (wvF 4 ws k w)))],[(.var 61 [(LI ws),(LI xs),(i6 k),(i6 w)]),(.var 57 [(i6 0),(.v .nilf),(.v .nilf)]),(.var 57 [(i6 2),(.fn (.func 43) [] []),(.fn (.func 45) [] [])])]⟩)
    (p := True∧True∧True∧callOb Try.prog 43 [(.var 61 [(LI ws),(LI xs),(i6 k),(i6 w)]),(.var 57 [(i6 0),(.v .nilf),(.v .nilf)]),(.var 57 [(i6 2),(.fn (.func 43) [] []),(.fn (.func 45) [] [])])] [(.agg [(LI ws),(LI xs),(i6 k),(i6 w)])] none false (i6 (alikeF ws))∧(True∧(alikeF ws) = (wvF 4 ws k w))∧True) (by kernel_rfl)
    ⟨⟨⟩,⟨⟩,⟨⟩,(alike_ok _ _ _ _ (by omega) (by assumption)),⟨⟨⟩,(by first | rfl | simp [wvF])⟩,⟨⟩⟩ ?_
  refine Ev.seq ?_
  refine Ev.any [(3,.call none false (dB (fitsF (wvF 4 ws k w)))),(6,.val (dB true))] [((bm 7 0),(zg_4_1_0 ws xs k w)),((bm 7 1),(zg_4_1_1 ws xs k w)),((bm 7 2),(zg_4_1_2 ws xs k w)),((bm 7 4),(zg_4_1_3 ws xs k w)),((bm 7 3),(zg_4_1_4 ws xs k w)),((bm 7 5),(zg_4_1_5 ws xs k w)),((bm 7 6),(zg_4_1_6 ws xs k w)),((bm 7 12),(zg_4_1_7 ws xs k w)),((bm 7 7),(zg_4_1_8 ws xs k w)),((bm 7 13),(zg_4_1_9 ws xs k w)),((bm 7 14),(zg_4_1_10 ws xs k w)),((bm 7 15),(zg_4_1_11 ws xs k w)),((bm 7 29),(zg_4_1_12 ws xs k w)),((bm 7 31),(zg_4_1_13 ws xs k w)),((bm 7 63),(zg_4_1_14 ws xs k w)),((bm 7 127),(zg_4_1_15 ws xs k w))] (st0 := (zg_4_1_0 ws xs k w)) (st' := ⟨[(4,(.ptr 1 0 0 0)),(5,(i6 (wvF 4 ws k w))),(6,(dB true))],[(.var 61 [(LI ws),(LI xs),(i6 k),(i6 w)]),(.var 57 [(i6 2),(.fn (.func 43) [] []),(.fn (.func 45) [] [])]),(.var 57 [(i6 2),(.fn (.func 43) [] []),(.fn (.func 45) [] [])])]⟩)
    (p := ((((zg_4_1_1 ws xs k w) : St) = (zg_4_1_1 ws xs k w)∧True∧True)∧(((zg_4_1_2 ws xs k w) : St) = (zg_4_1_2 ws xs k w)∧True∧True)∧(((zg_4_1_3 ws xs k w) : St) = (zg_4_1_3 ws xs k w)∧True∧True)∧True)∧((((zg_4_1_4 ws xs k w) : St) = (zg_4_1_4 ws xs k w)∧True∧True)∧(((zg_4_1_5 ws xs k w) : St) = (zg_4_1_5 ws xs k w)∧True∧True)∧True)∧((((zg_4_1_4 ws xs k w) : St) = (zg_4_1_4 ws xs k w)∧True∧True)∧(((zg_4_1_6 ws xs k w) : St) = (zg_4_1_6 ws xs k w)∧True∧True)∧True)∧((((zg_4_1_5 ws xs k w) : St) = (zg_4_1_5 ws xs k w)∧True∧True)∧(((zg_4_1_6 ws xs k w) : St) = (zg_4_1_6 ws xs k w)∧True∧True)∧(((zg_4_1_7 ws xs k w) : St) = (zg_4_1_7 ws xs k w)∧callOb Try.prog 37 [(.var 61 [(LI ws),(LI xs),(i6 k),(i6 w)]),(.var 57 [(i6 0),(.v .nilf),(.v .nilf)]),(.var 57 [(i6 2),(.fn (.func 43) [] []),(.fn (.func 45) [] [])])] [(i6 (wvF 4 ws k w))] none false (dB (fitsF (wvF 4 ws k w)))∧True)∧True)∧((((zg_4_1_8 ws xs k w) : St) = (zg_4_1_8 ws xs k w)∧True∧True)∧True)∧((((zg_4_1_8 ws xs k w) : St) = (zg_4_1_8 ws xs k w)∧True∧True)∧(((zg_4_1_9 ws xs k w) : St) = (zg_4_1_9 ws xs k w)∧callOb Try.prog 37 [(.var 61 [(LI ws),(LI xs),(i6 k),(i6 w)]),(.var 57 [(i6 0),(.v .nilf),(.v .nilf)]),(.var 57 [(i6 2),(.fn (.func 43) [] []),(.fn (.func 45) [] [])])] [(i6 (wvF 4 ws k w))] none false (dB (fitsF (wvF 4 ws k w)))∧True)∧True)∧((((zg_4_1_8 ws xs k w) : St) = (zg_4_1_8 ws xs k w)∧True∧True)∧(((zg_4_1_10 ws xs k w) : St) = (zg_4_1_10 ws xs k w)∧callOb Try.prog 37 [(.var 61 [(LI ws),(LI xs),(i6 k),(i6 w)]),(.var 57 [(i6 0),(.v .nilf),(.v .nilf)]),(.var 57 [(i6 2),(.fn (.func 43) [] []),(.fn (.func 45) [] [])])] [(i6 (wvF 4 ws k w))] none false (dB (fitsF (wvF 4 ws k w)))∧True)∧True)∧((((zg_4_1_9 ws xs k w) : St) = (zg_4_1_9 ws xs k w)∧True∧True)∧(((zg_4_1_10 ws xs k w) : St) = (zg_4_1_10 ws xs k w)∧True∧True)∧True)∧((((zg_4_1_11 ws xs k w) : St) = (zg_4_1_11 ws xs k w)∧callOb Try.prog 37 [(.var 61 [(LI ws),(LI xs),(i6 k),(i6 w)]),(.var 57 [(i6 0),(.v .nilf),(.v .nilf)]),(.var 57 [(i6 2),(.fn (.func 43) [] []),(.fn (.func 45) [] [])])] [(i6 (wvF 4 ws k w))] none false (dB (fitsF (wvF 4 ws k w)))∧True)∧True)∧((((zg_4_1_11 ws xs k w) : St) = (zg_4_1_11 ws xs k w)∧True∧True)∧(((zg_4_1_12 ws xs k w) : St) = (zg_4_1_12 ws xs k w)∧True∧True)∧True)∧((((zg_4_1_11 ws xs k w) : St) = (zg_4_1_11 ws xs k w)∧True∧True)∧True)∧((((zg_4_1_13 ws xs k w) : St) = (zg_4_1_13 ws xs k w)∧True∧True)∧True)∧((((zg_4_1_13 ws xs k w) : St) = (zg_4_1_13 ws xs k w)∧True∧True)∧True)∧((((zg_4_1_14 ws xs k w) : St) = (zg_4_1_14 ws xs k w)∧True∧True)∧True)∧((((zg_4_1_15 ws xs k w) : St) = (zg_4_1_15 ws xs k w)∧(True∧(fitsF (wvF 4 ws k w)) = true)∧True)∧True)∧True∧True) (by kernel_rfl) (by kernel_rfl) (by kernel_rfl) (by kernel_rfl) (by kernel_rfl) (by kernel_rfl)
    ⟨⟨⟨rfl,⟨⟩,⟨⟩⟩,⟨rfl,⟨⟩,⟨⟩⟩,⟨rfl,⟨⟩,⟨⟩⟩,⟨⟩⟩,⟨⟨rfl,⟨⟩,⟨⟩⟩,⟨rfl,⟨⟩,⟨⟩⟩,⟨⟩⟩,⟨⟨rfl,⟨⟩,⟨⟩⟩,⟨rfl,⟨⟩,⟨⟩⟩,⟨⟩⟩,⟨⟨rfl,⟨⟩,⟨⟩⟩,⟨rfl,⟨⟩,⟨⟩⟩,⟨rfl,(fits_ok _),⟨⟩⟩,⟨⟩⟩,⟨⟨rfl,⟨⟩,⟨⟩⟩,⟨⟩⟩,⟨⟨rfl,⟨⟩,⟨⟩⟩,⟨rfl,(fits_ok _),⟨⟩⟩,⟨⟩⟩,⟨⟨rfl,⟨⟩,⟨⟩⟩,⟨rfl,(fits_ok _),⟨⟩⟩,⟨⟩⟩,⟨⟨rfl,⟨⟩,⟨⟩⟩,⟨rfl,⟨⟩,⟨⟩⟩,⟨⟩⟩,⟨⟨rfl,(fits_ok _),⟨⟩⟩,⟨⟩⟩,⟨⟨rfl,⟨⟩,⟨⟩⟩,⟨rfl,⟨⟩,⟨⟩⟩,⟨⟩⟩,⟨⟨rfl,⟨⟩,⟨⟩⟩,⟨⟩⟩,⟨⟨rfl,⟨⟩,⟨⟩⟩,⟨⟩⟩,⟨⟨rfl,⟨⟩,⟨⟩⟩,⟨⟩⟩,⟨⟨rfl,⟨⟩,⟨⟩⟩,⟨⟩⟩,⟨⟨rfl,⟨⟨⟩,(by first | exact h3 | simpa [wvF] using h3)⟩,⟨⟩⟩,⟨⟩⟩,⟨⟩,⟨⟩⟩ ?_
  refine Ev.ret ?_
  refine ⟨⟨⟨⟩,⟨⟩,⟨⟩,⟨⟩⟩,(?_ : ((2 : Int) = 2∧((.fn (.func 43) [] []) : D) = (.fn (.func 43) [] [])∧((.fn (.func 45) [] []) : D) = (.fn (.func 45) [] [])∧True)∧(wvF 4 ws k w) = (wvF 4 ws k w)∧true = true∧True),.inl rfl⟩
  exact ⟨⟨rfl,rfl,rfl,⟨⟩⟩,rfl,rfl,⟨⟩⟩

set_option maxRecDepth 100000 in
theorem width_bad_4 (ws xs : List Int) (k w : Int) (hw : ws.length ≤ 9223372036854775807) (h : okB 4 ws = false) : CallOk Try.prog 27 [(i6 4),(.agg [(LI ws),(LI xs),(i6 k),(i6 w)])] [] true (.tup [(.agg [(i6 0),(.v .nilf),(.v .nilf)]),(i6 0),(dB false)]) [] := by
  refine CallOk.of_ev Try.func27 rfl rfl rfl ?_
  rintro ⟨_,W,S0,_,susp,_⟩ rfl rfl rfl
  refine Ev.seq ?_
  refine Ev.reg [] [0,3,4] (st' := ⟨[(0,(i6 4)),(3,(.ptr 0 0 0 0)),(4,(.ptr 1 0 0 0))],[(.var 61 [(LI ws),(LI xs),(i6 k),(i6 w)]),(.var 57 [(i6 0),(.v .nilf),(.v .nilf)])]⟩)
    (p := True∧True∧True∧True∧True) (by kernel_rfl)
    ⟨⟨⟩,⟨⟩,⟨⟩,⟨⟩,⟨⟩⟩ ?_
  refine Ev.seq ?_
  refine Ev.reg [(0,.call none false (.v (.mp simpleM))),(2,.idx (some 2))] [0,3,4,7,8] (st' := ⟨[(0,(i6 4)),(3,(.ptr 0 0 0 0)),(4,(.ptr 1 0 0 0)),(7,(.ptr 2 0 0 0)),(8,(dB true))],[(.var 61 [(LI ws),(LI xs),(i6 k),(i6 w)]),(.var 57 [(i6 0),(.v .nilf),(.v .nilf)]),(.var 57 [(i6 2),(.fn (.func 43) [] []),(.fn (.func 45) [] [])])]⟩)
    (p := callOb Try.prog 33 [(.var 61 [(LI ws),(LI xs),(i6 k),(i6 w)]),(.var 57 [(i6 0),(.v .nilf),(.v .nilf)])] [] none false (.v (.mp simpleM))∧True∧((4 : Int) = 4∧∀ e' ∈ simpleM.take 2,(4 : Int) ≠ e'.1)∧True∧True∧True∧True∧True∧True∧True) (by kernel_rfl)
    ⟨simple_ok,⟨⟩,(by decide),⟨⟩,⟨⟩,⟨⟩,⟨⟩,⟨⟩,⟨⟩,⟨⟩⟩ ?_
  refine Ev.seq ?_
  refine Ev.seq ?_
  refine Ev.reg [] [0,3,4,7,8,17] (st' := ⟨[(0,(i6 4)),(3,(.ptr 0 0 0 0)),(4,(.ptr 1 0 0 0)),(7,(.ptr 2 0 0 0)),(8,(dB true)),(17,(dB false))],[(.var 61 [(LI ws),(LI xs),(i6 k),(i6 w)]),(.var 57 [(i6 0),(.v .nilf),(.v .nilf)]),(.var 57 [(i6 2),(.fn (.func 43) [] []),(.fn (.func 45) [] [])])]⟩)
    (p := True∧True∧True) (by kernel_rfl)
    ⟨⟨⟩,⟨⟩,⟨⟩⟩ ?_
  refine Ev.cond false rfl (fun h => (by cases h)) (fun _ => ?_)
  refine Ev.skip ?_
  refine Ev.seq ?_
  refine Ev.seq ?_
  rcases okB_no h with h1 | ⟨h1,h2⟩
  · skip
    have hA : arityF 4 = 2 := by decide
    rw [hA] at h1
    refine Ev.reg [(8,.val (dB true))] [3,4,7,38] (st' := ⟨[(3,(.ptr 0 0 0 0)),(4,(.ptr 1 0 0 0)),(7,(.ptr 2 0 0 0)),(38,(dB true))],[(.var 61 [(LI ws),(LI xs),(i6 k),(i6 w)]),(.var 57 [(i6 0),(.v .nilf),(.v .nilf)]),(.var 57 [(i6 2),(.fn (.func 43) [] []),(.fn (.func 45) [] [])])]⟩)
      (p := True∧True∧True∧True∧True∧True∧True∧True∧(True∧(((ws.length : Nat) : Int) != 2) = true)∧True∧True∧True∧True∧True∧True∧True) (by kernel_rfl)
      ⟨⟨⟩,⟨⟩,⟨⟩,⟨⟩,⟨⟩,⟨⟩,⟨⟩,⟨⟩,⟨⟨⟩,(by exact bne_iff_ne.2 (by omega))⟩,⟨⟩,⟨⟩,⟨⟩,⟨⟩,⟨⟩,⟨⟩,⟨⟩⟩ ?_
    refine Ev.cond true rfl (fun _ => ?_) (fun h => (by cases h))
    refine Ev.seq ?_
    refine Ev.reg [] [4,5,6] (st' := ⟨[(4,(.ptr 1 0 0 0)),(5,(i6 0)),(6,(dB false))],[(.var 61 [(LI ws),(LI xs),(i6 k),(i6 w)]),(.var 57 [(i6 0),(.v .nilf),(.v .nilf)]),(.var 57 [(i6 2),(.fn (.func 43) [] []),(.fn (.func 45) [] [])])]⟩)
      (p := True∧True∧True∧True∧True) (by kernel_rfl)
      ⟨⟨⟩,⟨⟩,⟨⟩,⟨⟩,⟨⟩⟩ ?_
    refine Ev.ret ?_
    refine ⟨⟨⟨⟩,⟨⟩,⟨⟩,⟨⟩⟩,(?_ : ((0 : Int) = 0∧True∧True∧True)∧(0 : Int) = 0∧false = false∧True),.inl rfl⟩
    exact ⟨⟨rfl,⟨⟩,⟨⟩,⟨⟩⟩,rfl,rfl,⟨⟩⟩
  · skip
    have hA : arityF 4 = 2 := by decide
    rw [hA] at h1
    refine Ev.reg [(8,.val (dB false)),(13,.call none false (dB (!(ws.all fitsF)))),(14,.val (dB true))] [3,4,7,38] (st' := ⟨[(3,(.ptr 0 0 0 0)),(4,(.ptr 1 0 0 0)),(7,(.ptr 2 0 0 0)),(38,(dB true))],[(.var 61 [(LI ws),(LI xs),(i6 k),(i6 w)]),(.var 57 [(i6 0),(.v .nilf),(.v .nilf)]),(.var 57 [(i6 2),(.fn (.func 43) [] []),(.fn (.func 45) [] [])])]⟩)
      (p := True∧True∧True∧True∧True∧True∧True∧True∧(True∧(((ws.length : Nat) : Int) != 2) = false)∧True∧True∧True∧True∧callOb Try.prog 35 [(.var 61 [(LI ws),(LI xs),(i6 k),(i6 w)]),(.var 57 [(i6 0),(.v .nilf),(.v .nilf)]),(.var 57 [(i6 2),(.fn (.func 43) [] []),(.fn (.func 45) [] [])])] [(LI ws),(.fn (.func 36) [] [])] none false (dB (!(ws.all fitsF)))∧(True∧(!(ws.all fitsF)) = true)∧True) (by kernel_rfl)
      ⟨⟨⟩,⟨⟩,⟨⟩,⟨⟩,⟨⟩,⟨⟩,⟨⟩,⟨⟩,⟨⟨⟩,(by rw [h1]; rfl)⟩,⟨⟩,⟨⟩,⟨⟩,⟨⟩,(contains_ok _ (by first | omega | (simp; first | done | omega))),⟨⟨⟩,(by rw [h2]; rfl)⟩,⟨⟩⟩ ?_
    refine Ev.cond true rfl (fun _ => ?_) (fun h => (by cases h))
    refine Ev.seq ?_
    refine Ev.reg [] [4,5,6] (st' := ⟨[(4,(.ptr 1 0 0 0)),(5,(i6 0)),(6,(dB false))],[(.var 61 [(LI ws),(LI xs),(i6 k),(i6 w)]),(.var 57 [(i6 0),(.v .nilf),(.v .nilf)]),(.var 57 [(i6 2),(.fn (.func 43) [] []),(.fn (.func 45) [] [])])]⟩)
      (p := True∧True∧True∧True∧True) (by kernel_rfl)
      ⟨⟨⟩,⟨⟩,⟨⟩,⟨⟩,⟨⟩⟩ ?_
    refine Ev.ret ?_
    refine ⟨⟨⟨⟩,⟨⟩,⟨⟩,⟨⟩⟩,(?_ : ((0 : Int) = 0∧True∧True∧True)∧(0 : Int) = 0∧false = false∧True),.inl rfl⟩
    exact ⟨⟨rfl,⟨⟩,⟨⟩,⟨⟩⟩,rfl,rfl,⟨⟩⟩

def zwv_4_1_0 (ws xs : List Int) (k w : Int) : St := ⟨[(4,(.ptr 1 0 0 0)),(7,(.ptr 2 0 0 0)),(9,(i6 (wvF 4 ws k w)))],[(.var 61 [(LI ws),(LI xs),(i6 k),(i6 w)]),(.var 57 [(i6 0),(.v .nilf),(.v .nilf)]),(.var 57 [(i6 2),(.fn (.func 43) [] []),(.fn (.func 45) [] [])])]⟩
def zwv_4_1_1 (ws xs : List Int) (k w : Int) : St := ⟨[(4,(.ptr 1 0 0 0)),(7,(.ptr 2 0 0 0)),(9,(i6 (wvF 4 ws k w))),(44,(.agg [(i6 2),(.fn (.func 43) [] []),(.fn (.func 45) [] [])]))],[(.var 61 [(LI ws),(LI xs),(i6 k),(i6 w)]),(.var 57 [(i6 0),(.v .nilf),(.v .nilf)]),(.var 57 [(i6 2),(.fn (.func 43) [] []),(.fn (.func 45) [] [])])]⟩
def zwv_4_1_2 (ws xs : List Int) (k w : Int) : St := ⟨[(4,(.ptr 1 0 0 0)),(7,(.ptr 2 0 0 0)),(9,(i6 (wvF 4 ws k w))),(45,(i6 (wvF 4 ws k w)))],[(.var 61 [(LI ws),(LI xs),(i6 k),(i6 w)]),(.var 57 [(i6 0),(.v .nilf),(.v .nilf)]),(.var 57 [(i6 2),(.fn (.func 43) [] []),(.fn (.func 45) [] [])])]⟩
def zwv_4_1_3 (ws xs : List Int) (k w : Int) : St := ⟨[(4,(.ptr 1 0 0 0)),(7,(.ptr 2 0 0 0)),(9,(i6 (wvF 4 ws k w))),(46,(i6 (wvF 4 ws k w)))],[(.var 61 [(LI ws),(LI xs),(i6 k),(i6 w)]),(.var 57 [(i6 0),(.v .nilf),(.v .nilf)]),(.var 57 [(i6 2),(.fn (.func 43) [] []),(.fn (.func 45) [] [])])]⟩
def zwv_4_1_4 (ws xs : List Int) (k w : Int) : St := ⟨[(4,(.ptr 1 0 0 0)),(7,(.ptr 2 0 0 0)),(9,(i6 (wvF 4 ws k w))),(44,(.agg [(i6 2),(.fn (.func 43) [] []),(.fn (.func 45) [] [])])),(45,(i6 (wvF 4 ws k w)))],[(.var 61 [(LI ws),(LI xs),(i6 k),(i6 w)]),(.var 57 [(i6 0),(.v .nilf),(.v .nilf)]),(.var 57 [(i6 2),(.fn (.func 43) [] []),(.fn (.func 45) [] [])])]⟩
def zwv_4_1_5 (ws xs : List Int) (k w : Int) : St := ⟨[(4,(.ptr 1 0 0 0)),(7,(.ptr 2 0 0 0)),(9,(i6 (wvF 4 ws k w))),(44,(.agg [(i6 2),(.fn (.func 43) [] []),(.fn (.func 45) [] [])])),(46,(i6 (wvF 4 ws k w)))],[(.var 61 [(LI ws),(LI xs),(i6 k),(i6 w)]),(.var 57 [(i6 0),(.v .nilf),(.v .nilf)]),(.var 57 [(i6 2),(.fn (.func 43) [] []),(.fn (.func 45) [] [])])]⟩
def zwv_4_1_6 (ws xs : List Int) (k w : Int) : St := ⟨[(4,(.ptr 1 0 0 0)),(7,(.ptr 2 0 0 0)),(9,(i6 (wvF 4 ws k w))),(45,(i6 (wvF 4 ws k w))),(46,(i6 (wvF 4 ws k w)))],[(.var 61 [(LI ws),(LI xs),(i6 k),(i6 w)]),(.var 57 [(i6 0),(.v .nilf),(.v .nilf)]),(.var 57 [(i6 2),(.fn (.func 43) [] []),(.fn (.func 45) [] [])])]⟩
def zwv_4_1_7 (ws xs : List Int) (k w : Int) : St := ⟨[(4,(.ptr 1 0 0 0)),(7,(.ptr 2 0 0 0)),(9,(i6 (wvF 4 ws k w))),(46,(i6 (wvF 4 ws k w))),(47,(dB (fitsF (wvF 4 ws k w))))],[(.var 61 [(LI ws),(LI xs),(i6 k),(i6 w)]),(.var 57 [(i6 0),(.v .nilf),(.v .nilf)]),(.var 57 [(i6 2),(.fn (.func 43) [] []),(.fn (.func 45) [] [])])]⟩
def zwv_4_1_8 (ws xs : List Int) (k w : Int) : St := ⟨[(4,(.ptr 1 0 0 0)),(7,(.ptr 2 0 0 0)),(9,(i6 (wvF 4 ws k w))),(44,(.agg [(i6 2),(.fn (.func 43) [] []),(.fn (.func 45) [] [])])),(45,(i6 (wvF 4 ws k w))),(46,(i6 (wvF 4 ws k w)))],[(.var 61 [(LI ws),(LI xs),(i6 k),(i6 w)]),(.var 57 [(i6 0),(.v .nilf),(.v .nilf)]),(.var 57 [(i6 2),(.fn (.func 43) [] []),(.fn (.func 45) [] [])])]⟩
def zwv_4_1_9 (ws xs : List Int) (k w : Int) : St := ⟨[(4,(.ptr 1 0 0 0)),(7,(.ptr 2 0 0 0)),(9,(i6 (wvF 4 ws k w))),(44,(.agg [(i6 2),(.fn (.func 43) [] []),(.fn (.func 45) [] [])])),(46,(i6 (wvF 4 ws k w))),(47,(dB (fitsF (wvF 4 ws k w))))],[(.var 61 [(LI ws),(LI xs),(i6 k),(i6 w)]),(.var 57 [(i6 0),(.v .nilf),(.v .nilf)]),(.var 57 [(i6 2),(.fn (.func 43) [] []),(.fn (.func 45) [] [])])]⟩
def zwv_4_1_10 (ws xs : List Int) (k w : Int) : St := ⟨[(4,(.ptr 1 0 0 0)),(7,(.ptr 2 0 0 0)),(9,(i6 (wvF 4 ws k w))),(45,(i6 (wvF 4 ws k w))),(46,(i6 (wvF 4 ws k w))),(47,(dB (fitsF (wvF 4 ws k w))))],[(.var 61 [(LI ws),(LI xs),(i6 k),(i6 w)]),(.var 57 [(i6 0),(.v .nilf),(.v .nilf)]),(.var 57 [(i6 2),(.fn (.func 43) [] []),(.fn (.func 45) [] [])])]⟩
def zwv_4_1_11 (ws xs : List Int) (k w : Int) : St := ⟨[(4,(.ptr 1 0 0 0)),(7,(.ptr 2 0 0 0)),(9,(i6 (wvF 4 ws k w))),(44,(.agg [(i6 2),(.fn (.func 43) [] []),(.fn (.func 45) [] [])])),(45,(i6 (wvF 4 ws k w))),(46,(i6 (wvF 4 ws k w))),(47,(dB (fitsF (wvF 4 ws k w))))],[(.var 61 [(LI ws),(LI xs),(i6 k),(i6 w)]),(.var 57 [(i6 0),(.v .nilf),(.v .nilf)]),(.var 57 [(i6 2),(.fn (.func 43) [] []),(.fn (.func 45) [] [])])]⟩
def zwv_4_1_12 (ws xs : List Int) (k w : Int) : St := ⟨[(4,(.ptr 1 0 0 0)),(7,(.ptr 2 0 0 0)),(9,(i6 (wvF 4 ws k w))),(44,(.agg [(i6 2),(.fn (.func 43) [] []),(.fn (.func 45) [] [])])),(46,(i6 (wvF 4 ws k w))),(47,(dB (fitsF (wvF 4 ws k w))))],[(.var 61 [(LI ws),(LI xs),(i6 k),(i6 w)]),(.var 57 [(i6 2),(.fn (.func 43) [] []),(.fn (.func 45) [] [])]),(.var 57 [(i6 2),(.fn (.func 43) [] []),(.fn (.func 45) [] [])])]⟩
def zwv_4_1_13 (ws xs : List Int) (k w : Int) : St := ⟨[(4,(.ptr 1 0 0 0)),(7,(.ptr 2 0 0 0)),(9,(i6 (wvF 4 ws k w))),(44,(.agg [(i6 2),(.fn (.func 43) [] []),(.fn (.func 45) [] [])])),(45,(i6 (wvF 4 ws k w))),(46,(i6 (wvF 4 ws k w))),(47,(dB (fitsF (wvF 4 ws k w))))],[(.var 61 [(LI ws),(LI xs),(i6 k),(i6 w)]),(.var 57 [(i6 2),(.fn (.func 43) [] []),(.fn (.func 45) [] [])]),(.var 57 [(i6 2),(.fn (.func 43) [] []),(.fn (.func 45) [] [])])]⟩
def zwv_4_1_14 (ws xs : List Int) (k w : Int) : St := ⟨[(4,(.ptr 1 0 0 0)),(5,(i6 (wvF 4 ws k w))),(7,(.ptr 2 0 0 0)),(9,(i6 (wvF 4 ws k w))),(44,(.agg [(i6 2),(.fn (.func 43) [] []),(.fn (.func 45) [] [])])),(45,(i6 (wvF 4 ws k w))),(46,(i6 (wvF 4 ws k w))),(47,(dB (fitsF (wvF 4 ws k w))))],[(.var 61 [(LI ws),(LI xs),(i6 k),(i6 w)]),(.var 57 [(i6 2),(.fn (.func 43) [] []),(.fn (.func 45) [] [])]),(.var 57 [(i6 2),(.fn (.func 43) [] []),(.fn (.func 45) [] [])])]⟩
def zwv_4_1_15 (ws xs : List Int) (k w : Int) : St := ⟨[(4,(.ptr 1 0 0 0)),(5,(i6 (wvF 4 ws k w))),(6,(dB false))],[(.var 61 [(LI ws),(LI xs),(i6 k),(i6 w)]),(.var 57 [(i6 2),(.fn (.func 43) [] []),(.fn (.func 45) [] [])]),(.var 57 [(i6 2),(.fn (.func 43) [] []),(.fn (.func 45) [] [])])]⟩
set_option maxRecDepth 100000 in
theorem width_wv_4 (ws xs : List Int) (k w : Int) (hw : ws.length ≤ 9223372036854775807) (h : okB 4 ws = true) (h3 : fitsF (wvF 4 ws k w) = false) : CallOk Try.prog 27 [(i6 4),(.agg [(LI ws),(LI xs),(i6 k),(i6 w)])] [] true (.tup [(.agg [(i6 2),(.fn (.func 43) [] []),(.fn (.func 45) [] [])]),(i6 (wvF 4 ws k w)),(dB false)]) [] := by
  refine CallOk.of_ev Try.func27 rfl rfl rfl ?_
  rintro ⟨_,W,S0,_,susp,_⟩ rfl rfl rfl
  obtain ⟨h1,h2⟩ := okB_yes h
  have hA : arityF 4 = 2 := by decide
  rw [hA] at h1
  refine Ev.seq ?_
  refine Ev.reg [] [0,3,4] (st' := ⟨[(0,(i6 4)),(3,(.ptr 0 0 0 0)),(4,(.ptr 1 0 0 0))],[(.var 61 [(LI ws),(LI xs),(i6 k),(i6 w)]),(.var 57 [(i6 0),(.v .nilf),(.v .nilf)])]⟩)
    (p := True∧True∧True∧True∧True) (by kernel_rfl)
    ⟨⟨⟩,⟨⟩,⟨⟩,⟨⟩,⟨⟩⟩ ?_
  refine Ev.seq ?_
  refine Ev.reg [(0,.call none false (.v (.mp simpleM))),(2,.idx (some 2))] [0,3,4,7,8] (st' := ⟨[(0,(i6 4)),(3,(.ptr 0 0 0 0)),(4,(.ptr 1 0 0 0)),(7,(.ptr 2 0 0 0)),(8,(dB true))],[(.var 61 [(LI ws),(LI xs),(i6 k),(i6 w)]),(.var 57 [(i6 0),(.v .nilf),(.v .nilf)]),(.var 57 [(i6 2),(.fn (.func 43) [] []),(.fn (.func 45) [] [])])]⟩)
    (p := callOb Try.prog 33 [(.var 61 [(LI ws),(LI xs),(i6 k),(i6 w)]),(.var 57 [(i6 0),(.v .nilf),(.v .nilf)])] [] none false (.v (.mp simpleM))∧True∧((4 : Int) = 4∧∀ e' ∈ simpleM.take 2,(4 : Int) ≠ e'.1)∧True∧True∧True∧True∧True∧True∧True) (by kernel_rfl)
    ⟨simple_ok,⟨⟩,(by decide),⟨⟩,⟨⟩,⟨⟩,⟨⟩,⟨⟩,⟨⟩,⟨⟩⟩ ?_
  refine Ev.seq ?_
  refine Ev.seq ?_
  refine Ev.reg [] [0,3,4,7,8,17] (st' := ⟨[(0,(i6 4)),(3,(.ptr 0 0 0 0)),(4,(.ptr 1 0 0 0)),(7,(.ptr 2 0 0 0)),(8,(dB true)),(17,(dB false))],[(.var 61 [(LI ws),(LI xs),(i6 k),(i6 w)]),(.var 57 [(i6 0),(.v .nilf),(.v .nilf)]),(.var 57 [(i6 2),(.fn (.func 43) [] []),(.fn (.func 45) [] [])])]⟩)
    (p := True∧True∧True) (by kernel_rfl)
    ⟨⟨⟩,⟨⟩,⟨⟩⟩ ?_
  refine Ev.cond false rfl (fun h => (by cases h)) (fun _ => ?_)
  refine Ev.skip ?_
  refine Ev.seq ?_
  refine Ev.seq ?_
  refine Ev.reg [(8,.val (dB false)),(13,.call none false (dB (!(ws.all fitsF)))),(14,.val (dB false))] [3,4,7,38] (st' := ⟨[(3,(.ptr 0 0 0 0)),(4,(.ptr 1 0 0 0)),(7,(.ptr 2 0 0 0)),(38,(dB false))],[(.var 61 [(LI ws),(LI xs),(i6 k),(i6 w)]),(.var 57 [(i6 0),(.v .nilf),(.v .nilf)]),(.var 57 [(i6 2),(.fn (.func 43) [] []),(.fn (.func 45) [] [])])]⟩)
    (p := True∧True∧True∧True∧True∧True∧True∧True∧(True∧(((ws.length : Nat) : Int) != 2) = false)∧True∧True∧True∧True∧callOb Try.prog 35 [(.var 61 [(LI ws),(LI xs),(i6 k),(i6 w)]),(.var 57 [(i6 0),(.v .nilf),(.v .nilf)]),(.var 57 [(i6 2),(.fn (.func 43) [] []),(.fn (.func 45) [] [])])] [(LI ws),(.fn (.func 36) [] [])] none false (dB (!(ws.all fitsF)))∧(True∧(!(ws.all fitsF)) = false)∧True) (by kernel_rfl)
    ⟨⟨⟩,⟨⟩,⟨⟩,⟨⟩,⟨⟩,⟨⟩,⟨⟩,⟨⟩,⟨⟨⟩,(by rw [h1]; rfl)⟩,⟨⟩,⟨⟩,⟨⟩,⟨⟩,(contains_ok _ (by first | omega | (simp; first | done | omega))),⟨⟨⟩,(by rw [h2]; rfl)⟩,⟨⟩⟩ ?_
  refine Ev.cond false rfl (fun h => (by cases h)) (fun _ => ?_)
  refine Ev.skip ?_
  refine Ev.seq ?_
  refine Ev.reg [(3,.call none false (i6 (alikeF ws))),(4,.val (i6 (wvF 4 ws k w)))] [4,7,9] (st' := ⟨[(4,(.ptr 1 0 0 0)),(7,(.ptr 2 0 0 0)),(9,(i6 (wvF 4 ws k w)))],[(.var 61 [(LI ws),(LI xs),(i6 k),(i6 w)]),(.var 57 [(i6 0),(.v .nilf),(.v .nilf)]),(.var 57 [(i6 2),(.fn (.func 43) [] []),(.fn (.func 45) [] [])])]⟩)
    (p := True∧True∧True∧callOb Try.prog 43 [(.var 61 [(LI ws),(LI xs),(i6 k),(i6 w)]),(.var 57 [(i6 0),(.v .nilf),(.v .nilf)]),(.var 57 [(i6 2),(.fn (.func 43) [] []),(.fn (.func 45) [] [])])] [(.agg [(LI ws),(LI xs),(i6 k),(i6 w)])] none false (i6 (alikeF ws))∧(True∧(alikeF ws) = (wvF 4 ws k w))∧True) (by kernel_rfl)
    ⟨⟨⟩,⟨⟩,⟨⟩,(alike_ok _ _ _ _ (by omega) (by assumption)),⟨⟨⟩,(by first | rfl | simp [wvF])⟩,⟨⟩⟩ ?_
  refine Ev.seq ?_
  refine Ev.any [(3,.call none false (dB (fitsF (wvF 4 ws k w)))),(6,.val (dB false))] [((bm 7 0),(zwv_4_1_0 ws xs k w)),((bm 7 1),(zwv_4_1_1 ws xs k w)),((bm 7 2),(zwv_4_1_2 ws xs k w)),((bm 7 4),(zwv_4_1_3 ws xs k w)),((bm 7 3),(zwv_4_1_4 ws xs k w)),((bm 7 5),(zwv_4_1_5 ws xs k w)),((bm 7 6),(zwv_4_1_6 ws xs k w)),((bm 7 12),(zwv_4_1_7 ws xs k w)),((bm 7 7),(zwv_4_1_8 ws xs k w)),((bm 7 13),(zwv_4_1_9 ws xs k w)),((bm 7 14),(zwv_4_1_10 ws xs k w)),((bm 7 15),(zwv_4_1_11 ws xs k w)),((bm 7 29),(zwv_4_1_12 ws xs k w)),((bm 7 31),(zwv_4_1_13 ws xs k w)),((bm 7 63),(zwv_4_1_14 ws xs k w)),((bm 7 127),(zwv_4_1_15 ws xs k w))] (st0 := (zwv_4_1_0 ws xs k w)) (st' := ⟨[(4,(.ptr 1 0 0 0)),(5,(i6 (wvF 4 ws k w))),(6,(dB false))],[(.var 61 [(LI ws),(LI xs),(i6 k),(i6 w)]),(.var 57 [(i6 2),(.fn (.func 43) [] []),(.fn (.func 45) [] [])]),(.var 57 [(i6 2),(.fn (.func 43) [] []),(.fn (.func 45) [] [])])]⟩)
    (p := ((((zwv_4_1_1 ws xs k w) : St) = (zwv_4_1_1 ws xs k w)∧True∧True)∧(((zwv_4_1_2 ws xs k w) : St) = (zwv_4_1_2 ws xs k w)∧True∧True)∧(((zwv_4_1_3 ws xs k w) : St) = (zwv_4_1_3 ws xs k w)∧True∧True)∧True)∧((((zwv_4_1_4 ws xs k w) : St) = (zwv_4_1_4 ws xs k w)∧True∧True)∧(((zwv_4_1_5 ws xs k w) : St) = (zwv_4_1_5 ws xs k w)∧True∧True)∧True)∧((((zwv_4_1_4 ws xs k w) : St) = (zwv_4_1_4 ws xs k w)∧True∧True)∧(((zwv_4_1_6 ws xs k w) : St) = (zwv_4_1_6 ws xs k w)∧True∧True)∧True)∧((((zwv_4_1_5 ws xs k w) : St) = (zwv_4_1_5 ws xs k w)∧True∧True)∧(((zwv_4_1_6 ws xs k w) : St) = (zwv_4_1_6 ws xs k w)∧True∧True)∧(((zwv_4_1_7 ws xs k w) : St) = (zwv_4_1_7 ws xs k w)∧callOb Try.prog 37 [(.var 61 [(LI ws),(LI xs),(i6 k),(i6 w)]),(.var 57 [(i6 0),(.v .nilf),(.v .nilf)]),(.var 57 [(i6 2),(.fn (.func 43) [] []),(.fn (.func 45) [] [])])] [(i6 (wvF 4 ws k w))] none false (dB (fitsF (wvF 4 ws k w)))∧True)∧True)∧((((zwv_4_1_8 ws xs k w) : St) = (zwv_4_1_8 ws xs k w)∧True∧True)∧True)∧((((zwv_4_1_8 ws xs k w) : St) = (zwv_4_1_8 ws xs k w)∧True∧True)∧(((zwv_4_1_9 ws xs k w) : St) = (zwv_4_1_9 ws xs k w)∧callOb Try.prog 37 [(.var 61 [(LI ws),(LI xs),(i6 k),(i6 w)]),(.var 57 [(i6 0),(.v .nilf),(.v .nilf)]),(.var 57 [(i6 2),(.fn (.func 43) [] []),(.fn (.func 45) [] [])])] [(i6 (wvF 4 ws k w))] none false (dB (fitsF (wvF 4 ws k w)))∧True)∧True)∧((((zwv_4_1_8 ws xs k w) : St) = (zwv_4_1_8 ws xs k w)∧True∧True)∧(((zwv_4_1_10 ws xs k w) : St) = (zwv_4_1_10 ws xs k w)∧callOb Try.prog 37 [(.var 61 [(LI ws),(LI xs),(i6 k),(i6 w)]),(.var 57 [(i6 0),(.v .nilf),(.v .nilf)]),(.var 57 [(i6 2),(.fn (.func 43) [] []),(.fn (.func 45) [] [])])] [(i6 (wvF 4 ws k w))] none false (dB (fitsF (wvF 4 ws k w)))∧True)∧True)∧((((zwv_4_1_9 ws xs k w) : St) = (zwv_4_1_9 ws xs k w)∧True∧True)∧(((zwv_4_1_10 ws xs k w) : St) = (zwv_4_1_10 ws xs k w)∧True∧True)∧True)∧((((zwv_4_1_11 ws xs k w) : St) = (zwv_4_1_11 ws xs k w)∧callOb Try.prog 37 [(.var 61 [(LI ws),(LI xs),(i6 k),(i6 w)]),(.var 57 [(i6 0),(.v .nilf),(.v .nilf)]),(.var 57 [(i6 2),(.fn (.func 43) [] []),(.fn (.func 45) [] [])])] [(i6 (wvF 4 ws k w))] none false (dB (fitsF (wvF 4 ws k w)))∧True)∧True)∧((((zwv_4_1_11 ws xs k w) : St) = (zwv_4_1_11 ws xs k w)∧True∧True)∧(((zwv_4_1_12 ws xs k w) : St) = (zwv_4_1_12 ws xs k w)∧True∧True)∧True)∧((((zwv_4_1_11 ws xs k w) : St) = (zwv_4_1_11 ws xs k w)∧True∧True)∧True)∧((((zwv_4_1_13 ws xs k w) : St) = (zwv_4_1_13 ws xs k w)∧True∧True)∧True)∧((((zwv_4_1_13 ws xs k w) : St) = (zwv_4_1_13 ws xs k w)∧True∧True)∧True)∧((((zwv_4_1_14 ws xs k w) : St) = (zwv_4_1_14 ws xs k w)∧True∧True)∧True)∧((((zwv_4_1_15 ws xs k w) : St) = (zwv_4_1_15 ws xs k w)∧(True∧(fitsF (wvF 4 ws k w)) = false)∧True)∧True)∧True∧True) (by kernel_rfl) (by kernel_rfl) (by kernel_rfl) (by kernel_rfl) (by kernel_rfl) (by kernel_rfl)
    ⟨⟨⟨rfl,⟨⟩,⟨⟩⟩,⟨rfl,⟨⟩,⟨⟩⟩,⟨rfl,⟨⟩,⟨⟩⟩,⟨⟩⟩,⟨⟨rfl,⟨⟩,⟨⟩⟩,⟨rfl,⟨⟩,⟨⟩⟩,⟨⟩⟩,⟨⟨rfl,⟨⟩,⟨⟩⟩,⟨rfl,⟨⟩,⟨⟩⟩,⟨⟩⟩,⟨⟨rfl,⟨⟩,⟨⟩⟩,⟨rfl,⟨⟩,⟨⟩⟩,⟨rfl,(fits_ok _),⟨⟩⟩,⟨⟩⟩,⟨⟨rfl,⟨⟩,⟨⟩⟩,⟨⟩⟩,⟨⟨rfl,⟨⟩,⟨⟩⟩,⟨rfl,(fits_ok _),⟨⟩⟩,⟨⟩⟩,⟨⟨rfl,⟨⟩,⟨⟩⟩,⟨rfl,(fits_ok _),⟨⟩⟩,⟨⟩⟩,⟨⟨rfl,⟨⟩,⟨⟩⟩,⟨rfl,⟨⟩,⟨⟩⟩,⟨⟩⟩,⟨⟨rfl,(fits_ok _),⟨⟩⟩,⟨⟩⟩,⟨⟨rfl,⟨⟩,⟨⟩⟩,⟨rfl,⟨⟩,⟨⟩⟩,⟨⟩⟩,⟨⟨rfl,⟨⟩,⟨⟩⟩,⟨⟩⟩,⟨⟨rfl,⟨⟩,⟨⟩⟩,⟨⟩⟩,⟨⟨rfl,⟨⟩,⟨⟩⟩,⟨⟩⟩,⟨⟨rfl,⟨⟩,⟨⟩⟩,⟨⟩⟩,⟨⟨rfl,⟨⟨⟩,(by first | exact h3 | simpa [wvF] using h3)⟩,⟨⟩⟩,⟨⟩⟩,⟨⟩,⟨⟩⟩ ?_
  refine Ev.ret ?_
  refine ⟨⟨⟨⟩,⟨⟩,⟨⟩,⟨⟩⟩,(?_ : ((2 : Int) = 2∧((.fn (.func 43) [] []) : D) = (.fn (.func 43) [] [])∧((.fn (.func 45) [] []) : D) = (.fn (.func 45) [] [])∧True)∧(wvF 4 ws k w) = (wvF 4 ws k w)∧false = false∧True),.inl rfl⟩
  exact ⟨⟨rfl,rfl,rfl,⟨⟩⟩,rfl,rfl,⟨⟩⟩

def zg_5_1_0 (ws xs : List Int) (k w : Int) : St := ⟨[(4,(.ptr 1 0 0 0)),(7,(.ptr 2 0 0 0)),(9,(i6 (wvF 5 ws k w)))],[(.var 61 [(LI ws),(LI xs),(i6 k),(i6 w)]),(.var 57 [(i6 0),(.v .nilf),(.v .nilf)]),(.var 57 [(i6 2),(.fn (.func 43) [] []),(.fn (.func 46) [] [])])]⟩
def zg_5_1_1 (ws xs : List Int) (k w : Int) : St := ⟨[(4,(.ptr 1 0 0 0)),(7,(.ptr 2 0 0 0)),(9,(i6 (wvF 5 ws k w))),(44,(.agg [(i6 2),(.fn (.func 43) [] []),(.fn (.func 46) [] [])]))],[(.var 61 [(LI ws),(LI xs),(i6 k),(i6 w)]),(.var 57 [(i6 0),(.v .nilf),(.v .nilf)]),(.var 57 [(i6 2),(.fn (.func 43) [] []),(.fn (.func 46) [] [])])]⟩
def zg_5_1_2 (ws xs : List Int) (k w : Int) : St := ⟨[(4,(.ptr 1 0 0 0)),(7,(.ptr 2 0 0 0)),(9,(i6 (wvF 5 ws k w))),(45,(i6 (wvF 5 ws k w)))],[(.var 61 [(LI ws),(LI xs),(i6 k),(i6 w)]),(.var 57 [(i6 0),(.v .nilf),(.v .nilf)]),(.var 57 [(i6 2),(.fn (.func 43) [] []),(.fn (.func 46) [] [])])]⟩
def zg_5_1_3 (ws xs : List Int) (k w : Int) : St := ⟨[(4,(.ptr 1 0 0 0)),(7,(.ptr 2 0 0 0)),(9,(i6 (wvF 5 ws k w))),(46,(i6 (wvF 5 ws k w)))],[(.var 61 [(LI ws),(LI xs),(i6 k),(i6 w)]),(.var 57 [(i6 0),(.v .nilf),(.v .nilf)]),(.var 57 [(i6 2),(.fn (.func 43) [] []),(.fn (.func 46) [] [])])]⟩
def zg_5_1_4 (ws xs : List Int) (k w : Int) : St := ⟨[(4,(.ptr 1 0 0 0)),(7,(.ptr 2 0 0 0)),(9,(i6 (wvF 5 ws k w))),(44,(.agg [(i6 2),(.fn (.func 43) [] []),(.fn (.func 46) [] [])])),(45,(i6 (wvF 5 ws k w)))],[(.var 61 [(LI ws),(LI xs),(i6 k),(i6 w)]),(.var 57 [(i6 0),(.v .nilf),(.v .nilf)]),(.var 57 [(i6 2),(.fn (.func 43) [] []),(.fn (.func 46) [] [])])]⟩
def zg_5_1_5 (ws xs : List Int) (k w : Int) : St := ⟨[(4,(.ptr 1 0 0 0)),(7,(.ptr 2 0 0 0)),(9,(i6 (wvF 5 ws k w))),(44,(.agg [(i6 2),(.fn (.func 43) [] []),(.fn (.func 46) [] [])])),(46,(i6 (wvF 5 ws k w)))],[(.var 61 [(LI ws),(LI xs),(i6 k),(i6 w)]),(.var 57 [(i6 0),(.v .nilf),(.v .nilf)]),(.var 57 [(i6 2),(.fn (.func 43) [] []),(.fn (.func 46) [] [])])]⟩
def zg_5_1_6 (ws xs : List Int) (k w : Int) : St := ⟨[(4,(.ptr 1 0 0 0)),(7,(.ptr 2 0 0 0)),(9,(i6 (wvF 5 ws k w))),(45,(i6 (wvF 5 ws k w))),(46,(i6 (wvF 5 ws k w)))],[(.var 61 [(LI ws),(LI xs),(i6 k),(i6 w)]),(.var 57 [(i6 0),(.v .nilf),(.v .nilf)]),(.var 57 [(i6 2),(.fn (.func 43) [] []),(.fn (.func 46) [] [])])]⟩
def zg_5_1_7 (ws xs : List Int) (k w : Int) : St := ⟨[(4,(.ptr 1 0 0 0)),(7,(.ptr 2 0 0 0)),(9,(i6 (wvF 5 ws k w))),(46,(i6 (wvF 5 ws k w))),(47,(dB (fitsF (wvF 5 ws k w))))],[(.var 61 [(LI ws),(LI xs),(i6 k),(i6 w)]),(.var 57 [(i6 0),(.v .nilf),(.v .nilf)]),(.var 57 [(i6 2),(.fn (.func 43) [] []),(.fn (.func 46) [] [])])]⟩
def zg_5_1_8 (ws xs : List Int) (k w : Int) : St := ⟨[(4,(.ptr 1 0 0 0)),(7,(.ptr 2 0 0 0)),(9,(i6 (wvF 5 ws k w))),(44,(.agg [(i6 2),(.fn (.func 43) [] []),(.fn (.func 46) [] [])])),(45,(i6 (wvF 5 ws k w))),(46,(i6 (wvF 5 ws k w)))],[(.var 61 [(LI ws),(LI xs),(i6 k),(i6 w)]),(.var 57 [(i6 0),(.v .nilf),(.v .nilf)]),(.var 57 [(i6 2),(.fn (.func 43) [] []),(.fn (.func 46) [] [])])]⟩
def zg_5_1_9 (ws xs : List Int) (k w : Int) : St := ⟨[(4,(.ptr 1 0 0 0)),(7,(.ptr 2 0 0 0)),(9,(i6 (wvF 5 ws k w))),(44,(.agg [(i6 2),(.fn (.func 43) [] []),(.fn (.func 46) [] [])])),(46,(i6 (wvF 5 ws k w))),(47,(dB (fitsF (wvF 5 ws k w))))],[(.var 61 [(LI ws),(LI xs),(i6 k),(i6 w)]),(.var 57 [(i6 0),(.v .nilf),(.v .nilf)]),(.var 57 [(i6 2),(.fn (.func 43) [] []),(.fn (.func 46) [] [])])]⟩
def zg_5_1_10 (ws xs : List Int) (k w : Int) : St := ⟨[(4,(.ptr 1 0 0 0)),(7,(.ptr 2 0 0 0)),(9,(i6 (wvF 5 ws k w))),(45,(i6 (wvF 5 ws k w))),(46,(i6 (wvF 5 ws k w))),(47,(dB (fitsF (wvF 5 ws k w))))],[(.var 61 [(LI ws),(LI xs),(i6 k),(i6 w)]),(.var 57 [(i6 0),(.v .nilf),(.v .nilf)]),(.var 57 [(i6 2),(.fn (.func 43) [] []),(.fn (.func 46) [] [])])]⟩
def zg_5_1_11 (ws xs : List Int) (k w : Int) : St := ⟨[(4,(.ptr 1 0 0 0)),(7,(.ptr 2 0 0 0)),(9,(i6 (wvF 5 ws k w))),(44,(.agg [(i6 2),(.fn (.func 43) [] []),(.fn (.func 46) [] [])])),(45,(i6 (wvF 5 ws k w))),(46,(i6 (wvF 5 ws k w))),(47,(dB (fitsF (wvF 5 ws k w))))],[(.var 61 [(LI ws),(LI xs),(i6 k),(i6 w)]),(.var 57 [(i6 0),(.v .nilf),(.v .nilf)]),(.var 57 [(i6 2),(.fn (.func 43) [] []),(.fn (.func 46) [] [])])]⟩
def zg_5_1_12 (ws xs : List Int) (k w : Int) : St := ⟨[(4,(.ptr 1 0 0 0)),(7,(.ptr 2 0 0 0)),(9,(i6 (wvF 5 ws k w))),(44,(.agg [(i6 2),(.fn (.func 43) [] []),(.fn (.func 46) [] [])])),(46,(i6 (wvF 5 ws k w))),(47,(dB (fitsF (wvF 5 ws k w))))],[(.var 61 [(LI ws),(LI xs),(i6 k),(i6 w)]),(.var 57 [(i6 2),(.fn (.func 43) [] []),(.fn (.func 46) [] [])]),(.var 57 [(i6 2),(.fn (.func 43) [] []),(.fn (.func 46) [] [])])]⟩
def zg_5_1_13 (ws xs : List Int) (k w : Int) : St := ⟨[(4,(.ptr 1 0 0 0)),(7,(.ptr 2 0 0 0)),(9,(i6 (wvF 5 ws k w))),(44,(.agg [(i6 2),(.fn (.func 43) [] []),(.fn (.func 46) [] [])])),(45,(i6 (wvF 5 ws k w))),(46,(i6 (wvF 5 ws k w))),(47,(dB (fitsF (wvF 5 ws k w))))],[(.var 61 [(LI ws),(LI xs),(i6 k),(i6 w)]),(.var 57 [(i6 2),(.fn (.func 43) [] []),(.fn (.func 46) [] [])]),(.var 57 [(i6 2),(.fn (.func 43) [] []),(.fn (.func 46) [] [])])]⟩
def zg_5_1_14 (ws xs : List Int) (k w : Int) : St := ⟨[(4,(.ptr 1 0 0 0)),(5,(i6 (wvF 5 ws k w))),(7,(.ptr 2 0 0 0)),(9,(i6 (wvF 5 ws k w))),(44,(.agg [(i6 2),(.fn (.func 43) [] []),(.fn (.func 46) [] [])])),(45,(i6 (wvF 5 ws k w))),(46,(i6 (wvF 5 ws k w))),(47,(dB (fitsF (wvF 5 ws k w))))],[(.var 61 [(LI ws),(LI xs),(i6 k),(i6 w)]),(.var 57 [(i6 2),(.fn (.func 43) [] []),(.fn (.func 46) [] [])]),(.var 57 [(i6 2),(.fn (.func 43) [] []),(.fn (.func 46) [] [])])]⟩
def zg_5_1_15 (ws xs : List Int) (k w : Int) : St := ⟨[(4,(.ptr 1 0 0 0)),(5,(i6 (wvF 5 ws k w))),(6,(dB true))],[(.var 61 [(LI ws),(LI xs),(i6 k),(i6 w)]),(.var 57 [(i6 2),(.fn (.func 43) [] []),(.fn (.func 46) [] [])]),(.var 57 [(i6 2),(.fn (.func 43) [] []),(.fn (.func 46) [] [])])]⟩
set_option maxRecDepth 100000 in
theorem width_good_5 (ws xs : List Int) (k w : Int) (hw : ws.length ≤ 9223372036854775807) (h : okF 5 ws k w = true) : CallOk Try.prog 27 [(i6 5),(.agg [(LI ws),(LI xs),(i6 k),(i6 w)])] [] true (.tup [(.agg [(i6 2),(.fn (.func 43) [] []),(.fn (.func 46) [] [])]),(i6 (wvF 5 ws k w)),(dB true)]) [] := by
  refine CallOk.of_ev Try.func27 rfl rfl rfl ?_
  rintro ⟨_,W,S0,_,susp,_⟩ rfl rfl rfl
  obtain ⟨h1,h2,h3⟩ := ok_yes h
  have hA : arityF 5 = 2 := by decide
  rw [hA] at h1
  refine Ev.seq ?_
  refine Ev.reg [] [0,3,4] (st' := ⟨[(0,(i6 5)),(3,(.ptr 0 0 0 0)),(4,(.ptr 1 0 0 0))],[(.var 61 [(LI ws),(LI xs),(i6 k),(i6 w)]),(.var 57 [(i6 0),(.v .nilf),(.v .nilf)])]⟩)
    (p := True∧True∧True∧True∧True) (by kernel_rfl)
    ⟨⟨⟩,⟨⟩,⟨⟩,⟨⟩,⟨⟩⟩ ?_
  refine Ev.seq ?_
  refine Ev.reg [(0,.call none false (.v (.mp simpleM))),(2,.idx (some 3))] [0,3,4,7,8] (st' := ⟨[(0,(i6 5)),(3,(.ptr 0 0 0 0)),(4,(.ptr 1 0 0 0)),(7,(.ptr 2 0 0 0)),(8,(dB true))],[(.var 61 [(LI ws),(LI xs),(i6 k),(i6 w)]),(.var 57 [(i6 0),(.v .nilf),(.v .nilf)]),(.var 57 [(i6 2),(.fn (.func 43) [] []),(.fn (.func 46) [] [])])]⟩)
    (p := callOb Try.prog 33 [(.var 61 [(LI ws),(LI xs),(i6 k),(i6 w)]),(.var 57 [(i6 0),(.v .nilf),(.v .nilf)])] [] none false (.v (.mp simpleM))∧True∧((5 : Int) = 5∧∀ e' ∈ simpleM.take 3,(5 : Int) ≠ e'.1)∧True∧True∧True∧True∧True∧True∧True) (by kernel_rfl)
    ⟨simple_ok,⟨⟩,(by decide),⟨⟩,⟨⟩,⟨⟩,⟨⟩,⟨⟩,⟨⟩,⟨⟩⟩ ?_
  refine Ev.seq ?_
  refine Ev.seq ?_
  refine Ev.reg [] [0,3,4,7,8,17] (st' := ⟨[(0,(i6 5)),(3,(.ptr 0 0 0 0)),(4,(.ptr 1 0 0 0)),(7,(.ptr 2 0 0 0)),(8,(dB true)),(17,(dB false))],[(.var 61 [(LI ws),(LI xs),(i6 k),(i6 w)]),(.var 57 [(i6 0),(.v .nilf),(.v .nilf)]),(.var 57 [(i6 2),(.fn (.func 43) [] []),(.fn (.func 46) [] [])])]⟩)
    (p := True∧True∧True) (by kernel_rfl)
    ⟨⟨⟩,⟨⟩,⟨⟩⟩ ?_
  refine Ev.cond false rfl (fun h => (by cases h)) (fun _ => ?_)
  refine Ev.skip ?_
  refine Ev.seq ?_
  refine Ev.seq ?_
  refine Ev.reg [(8,.val (dB false)),(13,.call none false (dB (!(ws.all fitsF)))),(14,.val (dB false))] [3,4,7,38] (st' := ⟨[(3,(.ptr 0 0 0 0)),(4,(.ptr 1 0 0 0)),(7,(.ptr 2 0 0 0)),(38,(dB false))],[(.var 61 [(LI ws),(LI xs),(i6 k),(i6 w)]),(.var 57 [(i6 0),(.v .nilf),(.v .nilf)]),(.var 57 [(i6 2),(.fn (.func 43) [] []),(.fn (.func 46) [] [])])]⟩)
    (p := True∧True∧True∧True∧True∧True∧True∧True∧(True∧(((ws.length : Nat) : Int) != 2) = false)∧True∧True∧True∧True∧callOb Try.prog 35 [(.var 61 [(LI ws),(LI xs),(i6 k),(i6 w)]),(.var 57 [(i6 0),(.v .nilf),(.v .nilf)]),(.var 57 [(i6 2),(.fn (.func 43) [] []),(.fn (.func 46) [] [])])] [(LI ws),(.fn (.func 36) [] [])] none false (dB (!(ws.all fitsF)))∧(True∧(!(ws.all fitsF)) = false)∧True) (by kernel_rfl)
    ⟨⟨⟩,⟨⟩,⟨⟩,⟨⟩,⟨⟩,⟨⟩,⟨⟩,⟨⟩,⟨⟨⟩,(by rw [h1]; rfl)⟩,⟨⟩,⟨⟩,⟨⟩,⟨⟩,(contains_ok _ (by first | omega | (simp; first | done | omega))),⟨⟨⟩,(by rw [h2]; rfl)⟩,⟨⟩⟩ ?_
  refine Ev.cond false rfl (fun h => (by cases h)) (fun _ => ?_)
  refine Ev.skip ?_
  refine Ev.seq ?_
  refine Ev.reg [(3,.call none false (i6 (alikeF ws))),(4,.val (i6 (wvF 5 ws k w)))] [4,7,9] (st' := ⟨[(4,(.ptr 1 0 0 0)),(7,(.ptr 2 0 0 0)),(9,(i6 (wvF 5 ws k w)))],[(.var 61 [(LI ws),(LI xs),(i6 k),(i6 w)]),(.var 57 [(i6 0),(.v .nilf),(.v .nilf)]),(.var 57 [(i6 2),(.fn (.func 43) [] []),(.fn (.func 46) [] [])])]⟩)
    (p := True∧True∧True∧callOb Try.prog 43 [(.var 61 [(LI ws),(LI xs),(i6 k),(i6 w)]),(.var 57 [(i6 0),(.v .nilf),(.v .nilf)]),(.var 57 [(i6 2),(.fn (.func 43) [] []),(.fn (.func 46) [] [])])] [(.agg [(LI ws),(LI xs),(i6 k),(i6 w)])] none false (i6 (alikeF ws))∧(True∧(alikeF ws) = (wvF 5 ws k w))∧True) (by kernel_rfl)
    ⟨⟨⟩,⟨⟩,⟨⟩,(alike_ok _ _ _ _ (by omega) (by assumption)),⟨⟨⟩,(by first | rfl | simp [wvF])⟩,⟨⟩⟩ ?_
  refine Ev.seq ?_
  refine Ev.any [(3,.call none false (dB (fitsF (wvF 5 ws k w)))),(6,.val (dB true))] [((bm 7 0),(zg_5_1_0 ws xs k w)),((bm 7 1),(zg_5_1_1 ws xs k w)),((bm 7 2),(zg_5_1_2 ws xs k w)),((bm 7 4),(zg_5_1_3 ws xs k w)),((bm 7 3),(zg_5_1_4 ws xs k w)),((bm 7 5),(zg_5_1_5 ws xs k w)),((bm 7 6),(zg_5_1_6 ws xs k w)),((bm 7 12),(zg_5_1_7 ws xs k w)),((bm 7 7),(zg_5_1_8 ws xs k w)),((bm 7 13),(zg_5_1_9 ws xs k w)),((bm 7 14),(zg_5_1_10 ws xs k w)),((bm 7 15),(zg_5_1_11 ws xs k w)),((bm 7 29),(zg_5_1_12 ws xs k w)),((bm 7 31),(zg_5_1_13 ws xs k w)),((bm 7 63),(zg_5_1_14 ws xs k w)),((bm 7 127),(zg_5_1_15 ws xs k w))] (st0 := (zg_5_1_0 ws xs k w)) (st' := ⟨[(4,(.ptr 1 0 0 0)),(5,(i6 (wvF 5 ws k w))),(6,(dB true))],[(.var 61 [(LI ws),(LI xs),(i6 k),(i6 w)]),(.var 57 [(i6 2),(.fn (.func 43) [] []),(.fn (.func 46) [] [])]),(.var 57 [(i6 2),(.fn (.func 43) [] []),(.fn (.func 46) [] [])])]⟩)
    (p := ((((zg_5_1_1 ws xs k w) : St) = (zg_5_1_1 ws xs k w)∧True∧True)∧(((zg_5_1_2 ws xs k w) : St) = (zg_5_1_2 ws xs k w)∧True∧True)∧(((zg_5_1_3 ws xs k w) : St) = (zg_5_1_3 ws xs k w)∧True∧True)∧True)∧((((zg_5_1_4 ws xs k w) : St) = (zg_5_1_4 ws xs k w)∧True∧True)∧(((zg_5_1_5 ws xs k w) : St) = (zg_5_1_5 ws xs k w)∧True∧True)∧True)∧((((zg_5_1_4 ws xs k w) : St) = (zg_5_1_4 ws xs k w)∧True∧True)∧(((zg_5_1_6 ws xs k w) : St) = (zg_5_1_6 ws xs k w)∧True∧True)∧True)∧((((zg_5_1_5 ws xs k w) : St) = (zg_5_1_5 ws xs k w)∧True∧True)∧(((zg_5_1_6 ws xs k w) : St) = (zg_5_1_6 ws xs k w)∧True∧True)∧(((zg_5_1_7 ws xs k w) : St) = (zg_5_1_7 ws xs k w)∧callOb Try.prog 37 [(.var 61 [(LI ws),(LI xs),(i6 k),(i6 w)]),(.var 57 [(i6 0),(.v .nilf),(.v .nilf)]),(.var 57 [(i6 2),(.fn (.func 43) [] []),(.fn (.func 46) [] [])])] [(i6 (wvF 5 ws k w))] none false (dB (fitsF (wvF 5 ws k w)))∧True)∧True)∧((((zg_5_1_8 ws xs k w) : St) = (zg_5_1_8 ws xs k w)∧True∧True)∧True)∧((((zg_5_1_8 ws xs k w) : St) = (zg_5_1_8 ws xs k w)∧True∧True)∧(((zg_5_1_9 ws xs k w) : St) = (zg_5_1_9 ws xs k w)∧callOb Try.prog 37 [(.var 61 [(LI ws),(LI xs),(i6 k),(i6 w)]),(.var 57 [(i6 0),(.v .nilf),(.v .nilf)]),(.var 57 [(i6 2),(.fn (.func 43) [] []),(.fn (.func 46) [] [])])] [(i6 (wvF 5 ws k w))] none false (dB (fitsF (wvF 5 ws k w)))∧True)∧True)∧((((zg_5_1_8 ws xs k w) : St) = (zg_5_1_8 ws xs k w)∧True∧True)∧(((zg_5_1_10 ws xs k w) : St) = (zg_5_1_10 ws xs k w)∧callOb Try.prog 37 [(.var 61 [(LI ws),(LI xs),(i6 k),(i6 w)]),(.var 57 [(i6 0),(.v .nilf),(.v .nilf)]),(.var 57 [(i6 2),(.fn (.func 43) [] []),(.fn (.func 46) [] [])])] [(i6 (wvF 5 ws k w))] none false (dB (fitsF (wvF 5 ws k w)))∧True)∧True)∧((((zg_5_1_9 ws xs k w) : St) = (zg_5_1_9 ws xs k w)∧True∧True)∧(((zg_5_1_10 ws xs k w) : St) = (zg_5_1_10 ws xs k w)∧True∧True)∧True)∧((((zg_5_1_11 ws xs k w) : St) = (zg_5_1_11 ws xs k w)∧callOb Try.prog 37 [(.var 61 [(LI ws),(LI xs),(i6 k),(i6 w)]),(.var 57 [(i6 0),(.v .nilf),(.v .nilf)]),(.var 57 [(i6 2),(.fn (.func 43) [] []),(.fn (.func 46) [] [])])] [(i6 (wvF 5 ws k w))] none false (dB (fitsF (wvF 5 ws k w)))∧True)∧True)∧((((zg_5_1_11 ws xs k w) : St) = (zg_5_1_11 ws xs k w)∧True∧True)∧(((zg_5_1_12 ws xs k w) : St) = (zg_5_1_12 ws xs k w)∧True∧True)∧True)∧((((zg_5_1_11 ws xs k w) : St) = (zg_5_1_11 ws xs k w)∧True∧True)∧True)∧((((zg_5_1_13 ws xs k w) : St) = (zg_5_1_13 ws xs k w)∧True∧True)∧True)∧((((zg_5_1_13 ws xs k w) : St) = (zg_5_1_13 ws xs k w)∧True∧True)∧True)∧((((zg_5_1_14 ws xs k w) : St) = (zg_5_1_14 ws xs k w)∧True∧True)∧True)∧((((zg_5_1_15 ws xs k w) : St) = (zg_5_1_15 ws xs k w)∧(True∧(fitsF (wvF 5 ws k w)) = true)∧True)∧True)∧True∧True) (by kernel_rfl) (by kernel_rfl) (by kernel_rfl) (by kernel_rfl) (by kernel_rfl) (by kernel_rfl)
    ⟨⟨⟨rfl,⟨⟩,⟨⟩⟩,⟨rfl,⟨⟩,⟨⟩⟩,⟨rfl,⟨⟩,⟨⟩⟩,⟨⟩⟩,⟨⟨rfl,⟨⟩,⟨⟩⟩,⟨rfl,⟨⟩,⟨⟩⟩,⟨⟩⟩,⟨⟨rfl,⟨⟩,⟨⟩⟩,⟨rfl,⟨⟩,⟨⟩⟩,⟨⟩⟩,⟨⟨rfl,⟨⟩,⟨⟩⟩,⟨rfl,⟨⟩,⟨⟩⟩,⟨rfl,(fits_ok _),⟨⟩⟩,⟨⟩⟩,⟨⟨rfl,⟨⟩,⟨⟩⟩,⟨⟩⟩,⟨⟨rfl,⟨⟩,⟨⟩⟩,⟨rfl,(fits_ok _),⟨⟩⟩,⟨⟩⟩,⟨⟨rfl,⟨⟩,⟨⟩⟩,⟨rfl,(fits_ok _),⟨⟩⟩,⟨⟩⟩,⟨⟨rfl,⟨⟩,⟨⟩⟩,⟨rfl,⟨⟩,⟨⟩⟩,⟨⟩⟩,⟨⟨rfl,(fits_ok _),⟨⟩⟩,⟨⟩⟩,⟨⟨rfl,⟨⟩,⟨⟩⟩,⟨rfl,⟨⟩,⟨⟩⟩,⟨⟩⟩,⟨⟨rfl,⟨⟩,⟨⟩⟩,⟨⟩⟩,⟨⟨rfl,⟨⟩,⟨⟩⟩,⟨⟩⟩,⟨⟨rfl,⟨⟩,⟨⟩⟩,⟨⟩⟩,⟨⟨rfl,⟨⟩,⟨⟩⟩,⟨⟩⟩,⟨⟨rfl,⟨⟨⟩,(by first | exact h3 | simpa [wvF] using h3)⟩,⟨⟩⟩,⟨⟩⟩,⟨⟩,⟨⟩⟩ ?_
  refine Ev.ret ?_
  refine ⟨⟨⟨⟩,⟨⟩,⟨⟩,⟨⟩⟩,(?_ : ((2 : Int) = 2∧((.fn (.func 43) [] []) : D) = (.fn (.func 43) [] [])∧((.fn (.func 46) [] []) : D) = (.fn (.func 46) [] [])∧True)∧(wvF 5 ws k w) = (wvF 5 ws k w)∧true = true∧True),.inl rfl⟩
  exact ⟨⟨rfl,rfl,rfl,⟨⟩⟩,rfl,rfl,⟨⟩⟩

set_option maxRecDepth 100000 in
theorem width_bad_5 (ws xs : List Int) (k w : Int) (hw : ws.length ≤ 9223372036854775807) (h : okB 5 ws = false) : CallOk Try.prog 27 [(i6 5),(.agg [(LI ws),(LI xs),(i6 k),(i6 w)])] [] true (.tup [(.agg [(i6 0),(.v .nilf),(.v .nilf)]),(i6 0),(dB false)]) [] := by
  refine CallOk.of_ev Try.func27 rfl rfl rfl ?_
  rintro ⟨_,W,S0,_,susp,_⟩ rfl rfl rfl
  refine Ev.seq ?_
  refine Ev.reg [] [0,3,4] (st' := ⟨[(0,(i6 5)),(3,(.ptr 0 0 0 0)),(4,(.ptr 1 0 0 0))],[(.var 61 [(LI ws),(LI xs),(i6 k),(i6 w)]),(.var 57 [(i6 0),(.v .nilf),(.v .nilf)])]⟩)
    (p := True∧True∧True∧True∧True) (by kernel_rfl)
    ⟨⟨⟩,⟨⟩,⟨⟩,⟨⟩,⟨⟩⟩ ?_
  refine Ev.seq ?_
  refine Ev.reg [(0,.call none false (.v (.mp simpleM))),(2,.idx (some 3))] [0,3,4,7,8] (st' := ⟨[(0,(i6 5)),(3,(.ptr 0 0 0 0)),(4,(.ptr 1 0 0 0)),(7,(.ptr 2 0 0 0)),(8,(dB true))],[(.var 61 [(LI ws),(LI xs),(i6 k),(i6 w)]),(.var 57 [(i6 0),(.v .nilf),(.v .nilf)]),(.var 57 [(i6 2),(.fn (.func 43) [] []),(.fn (.func 46) [] [])])]⟩)
    (p := callOb Try.prog 33 [(.var 61 [(LI ws),(LI xs),(i6 k),(i6 w)]),(.var 57 [(i6 0),(.v .nilf),(.v .nilf)])] [] none false (.v (.mp simpleM))∧True∧((5 : Int) = 5∧∀ e' ∈ simpleM.take 3,(5 : Int) ≠ e'.1)∧True∧True∧True∧True∧True∧True∧True) (by kernel_rfl)
    ⟨simple_ok,⟨⟩,(by decide),⟨⟩,⟨⟩,⟨⟩,⟨⟩,⟨⟩,⟨⟩,⟨⟩⟩ ?_
  refine Ev.seq ?_
  refine Ev.seq ?_
  refine Ev.reg [] [0,3,4,7,8,17] (st' := ⟨[(0,(i6 5)),(3,(.ptr 0 0 0 0)),(4,(.ptr 1 0 0 0)),(7,(.ptr 2 0 0 0)),(8,(dB true)),(17,(dB false))],[(.var 61 [(LI ws),(LI xs),(i6 k),(i6 w)]),(.var 57 [(i6 0),(.v .nilf),(.v .nilf)]),(.var 57 [(i6 2),(.fn (.func 43) [] []),(.fn (.func 46) [] [])])]⟩)
    (p := True∧True∧True) (by kernel_rfl)
    ⟨⟨⟩,⟨⟩,⟨⟩⟩ ?_
  refine Ev.cond false rfl (fun h => (by cases h)) (fun _ => ?_)
  refine Ev.skip ?_
  refine Ev.seq ?_
  refine Ev.seq ?_
  rcases okB_no h with h1 | ⟨h1,h2⟩
  · skip
    have hA : arityF 5 = 2 := by decide
    rw [hA] at h1
    refine Ev.reg [(8,.val (dB true))] [3,4,7,38] (st' := ⟨[(3,(.ptr 0 0 0 0)),(4,(.ptr 1 0 0 0)),(7,(.ptr 2 0 0 0)),(38,(dB true))],[(.var 61 [(LI ws),(LI xs),(i6 k),(i6 w)]),(.var 57 [(i6 0),(.v .nilf),(.v .nilf)]),(.var 57 [(i6 2),(.fn (.func 43) [] []),(.fn (.func 46) [] [])])]⟩)
      (p := True∧True∧True∧True∧True∧True∧True∧True∧(True∧(((ws.length : Nat) : Int) != 2) = true)∧True∧True∧True∧True∧True∧True∧True) (by kernel_rfl)
      ⟨⟨⟩,⟨⟩,⟨⟩,⟨⟩,⟨⟩,⟨⟩,⟨⟩,⟨⟩,⟨⟨⟩,(by exact bne_iff_ne.2 (by omega))⟩,⟨⟩,⟨⟩,⟨⟩,⟨⟩,⟨⟩,⟨⟩,⟨⟩⟩ ?_
    refine Ev.cond true rfl (fun _ => ?_) (fun h => (by cases h))
    refine Ev.seq ?_
    refine Ev.reg [] [4,5,6] (st' := ⟨[(4,(.ptr 1 0 0 0)),(5,(i6 0)),(6,(dB false))],[(.var 61 [(LI ws),(LI xs),(i6 k),(i6 w)]),(.var 57 [(i6 0),(.v .nilf),(.v .nilf)]),(.var 57 [(i6 2),(.fn (.func 43) [] []),(.fn (.func 46) [] [])])]⟩)
      (p := True∧True∧True∧True∧True) (by kernel_rfl)
      ⟨⟨⟩,⟨⟩,⟨⟩,⟨⟩,⟨⟩⟩ ?_
    refine Ev.ret ?_
    refine ⟨⟨⟨⟩,⟨⟩,⟨⟩,⟨⟩⟩,(?_ : ((0 : Int) = 0∧True∧True∧True)∧(0 : Int) = 0∧false = false∧True),.inl rfl⟩
    exact ⟨⟨rfl,⟨⟩,⟨⟩,⟨⟩⟩,rfl,rfl,⟨⟩⟩
  · skip
    have hA : arityF 5 = 2 := by decide
    rw [hA] at h1
    refine Ev.reg [(8,.val (dB false)),(13,.call none false (dB (!(ws.all fitsF)))),(14,.val (dB true))] [3,4,7,38] (st' := ⟨[(3,(.ptr 0 0 0 0)),(4,(.ptr 1 0 0 0)),(7,(.ptr 2 0 0 0)),(38,(dB true))],[(.var 61 [(LI ws),(LI xs),(i6 k),(i6 w)]),(.var 57 [(i6 0),(.v .nilf),(.v .nilf)]),(.var 57 [(i6 2),(.fn (.func 43) [] []),(.fn (.func 46) [] [])])]⟩)
      (p := True∧True∧True∧True∧True∧True∧True∧True∧(True∧(((ws.length : Nat) : Int) != 2) = false)∧True∧True∧True∧True∧callOb Try.prog 35 [(.var 61 [(LI ws),(LI xs),(i6 k),(i6 w)]),(.var 57 [(i6 0),(.v .nilf),(.v .nilf)]),(.var 57 [(i6 2),(.fn (.func 43) [] []),(.fn (.func 46) [] [])])] [(LI ws),(.fn (.func 36) [] [])] none false (dB (!(ws.all fitsF)))∧(True∧(!(ws.all fitsF)) = true)∧True) (by kernel_rfl)
      ⟨⟨⟩,⟨⟩,⟨⟩,⟨⟩,⟨⟩,⟨⟩,⟨⟩,⟨⟩,⟨⟨⟩,(by rw [h1]; rfl)⟩,⟨⟩,⟨⟩,⟨⟩,⟨⟩,(contains_ok _ (by first | omega | (simp; first | done | omega))),⟨⟨⟩,(by rw [h2]; rfl)⟩,⟨⟩⟩ ?_
    refine Ev.cond true rfl (fun _ => ?_) (fun h => (by cases h))
    refine Ev.seq ?_
    refine Ev.reg [] [4,5,6] (st' := ⟨[(4,(.ptr 1 0 0 0)),(5,(i6 0)),(6,(dB false))],[(.var 61 [(LI ws),(LI xs),(i6 k),(i6 w)]),(.var 57 [(i6 0),(.v .nilf),(.v .nilf)]),(.var 57 [(i6 2),(.fn (.func 43) [] []),(.fn (.func 46) [] [])])]⟩)
      (p := True∧True∧True∧True∧True) (by kernel_rfl)
      ⟨⟨⟩,⟨⟩,⟨⟩,⟨⟩,⟨⟩⟩ ?_
    refine Ev.ret ?_
    refine ⟨⟨⟨⟩,⟨⟩,⟨⟩,⟨⟩⟩,(?_ : ((0 : Int) = 0∧True∧True∧True)∧(0 : Int) = 0∧false = false∧True),.inl rfl⟩
    exact ⟨⟨rfl,⟨⟩,⟨⟩,⟨⟩⟩,rfl,rfl,⟨⟩⟩

def zwv_5_1_0 (ws xs : List Int) (k w : Int) : St := ⟨[(4,(.ptr 1 0 0 0)),(7,(.ptr 2 0 0 0)),(9,(i6 (wvF 5 ws k w)))],[(.var 61 [(LI ws),(LI xs),(i6 k),(i6 w)]),(.var 57 [(i6 0),(.v .nilf),(.v .nilf)]),(.var 57 [(i6 2),(.fn (.func 43) [] []),(.fn (.func 46) [] [])])]⟩
def zwv_5_1_1 (ws xs : List Int) (k w : Int) : St := ⟨[(4,(.ptr 1 0 0 0)),(7,(.ptr 2 0 0 0)),(9,(i6 (wvF 5 ws k w))),(44,(.agg [(i6 2),(.fn (.func 43) [] []),(.fn (.func 46) [] [])]))],[(.var 61 [(LI ws),(LI xs),(i6 k),(i6 w)]),(.var 57 [(i6 0),(.v .nilf),(.v .nilf)]),(.var 57 [(i6 2),(.fn (.func 43) [] []),(.fn (.func 46) [] [])])]⟩
def zwv_5_1_2 (ws xs : List Int) (k w : Int) : St := ⟨[(4,(.ptr 1 0 0 0)),(7,(.ptr 2 0 0 0)),(9,(i6 (wvF 5 ws k w))),(45,(i6 (wvF 5 ws k w)))],[(.var 61 [(LI ws),(LI xs),(i6 k),(i6 w)]),(.var 57 [(i6 0),(.v .nilf),(.v .nilf)]),(.var 57 [(i6 2),(.fn (.func 43) [] []),(.fn (.func 46) [] [])])]⟩
def zwv_5_1_3 (ws xs : List Int) (k w : Int) : St := ⟨[(4,(.ptr 1 0 0 0)),(7,(.ptr 2 0 0 0)),(9,(i6 (wvF 5 ws k w))),(46,(i6 (wvF 5 ws k w)))],[(.var 61 [(LI ws),(LI xs),(i6 k),(i6 w)]),(.var 57 [(i6 0),(.v .nilf),(.v .nilf)]),(.var 57 [(i6 2),(.fn (.func 43) [] []),(.fn (.func 46) [] [])])]⟩
def zwv_5_1_4 (ws xs : List Int) (k w : Int) : St := ⟨[(4,(.ptr 1 0 0 0)),(7,(.ptr 2 0 0 0)),(9,(i6 (wvF 5 ws k w))),(44,(.agg [(i6 2),(.fn (.func 43) [] []),(.fn (.func 46) [] [])])),(45,(i6 (wvF 5 ws k w)))],[(.var 61 [(LI ws),(LI xs),(i6 k),(i6 w)]),(.var 57 [(i6 0),(.v .nilf),(.v .nilf)]),(.var 57 [(i6 2),(.fn (.func 43) [] []),(.fn (.func 46) [] [])])]⟩
def zwv_5_1_5 (ws xs : List Int) (k w : Int) : St := ⟨[(4,(.ptr 1 0 0 0)),(7,(.ptr 2 0 0 0)),(9,(i6 (wvF 5 ws k w))),(44,(.agg [(i6 2),(.fn (.func 43) [] []),(.fn (.func 46) [] [])])),(46,(i6 (wvF 5 ws k w)))],[(.var 61 [(LI ws),(LI xs),(i6 k),(i6 w)]),(.var 57 [(i6 0),(.v .nilf),(.v .nilf)]),(.var 57 [(i6 2),(.fn (.func 43) [] []),(.fn (.func 46) [] [])])]⟩
def zwv_5_1_6 (ws xs : List Int) (k w : Int) : St := ⟨[(4,(.ptr 1 0 0 0)),(7,(.ptr 2 0 0 0)),(9,(i6 (wvF 5 ws k w))),(45,(i6 (wvF 5 ws k w))),(46,(i6 (wvF 5 ws k w)))],[(.var 61 [(LI ws),(LI xs),(i6 k),(i6 w)]),(.var 57 [(i6 0),(.v .nilf),(.v .nilf)]),(.var 57 [(i6 2),(.fn (.func 43) [] []),(.fn (.func 46) [] [])])]⟩
def zwv_5_1_7 (ws xs : List Int) (k w : Int) : St := ⟨[(4,(.ptr 1 0 0 0)),(7,(.ptr 2 0 0 0)),(9,(i6 (wvF 5 ws k w))),(46,(i6 (wvF 5 ws k w))),(47,(dB (fitsF (wvF 5 ws k w))))],[(.var 61 [(LI ws),(LI xs),(i6 k),(i6 w)]),(.var 57 [(i6 0),(.v .nilf),(.v .nilf)]),(.var 57 [(i6 2),(.fn (.func 43) [] []),(.fn (.func 46) [] [])])]⟩
def zwv_5_1_8 (ws xs : List Int) (k w : Int) : St := ⟨[(4,(.ptr 1 0 0 0)),(7,(.ptr 2 0 0 0)),(9,(i6 (wvF 5 ws k w))),(44,(.agg [(i6 2),(.fn (.func 43) [] []),(.fn (.func 46) [] [])])),(45,(i6 (wvF 5 ws k w))),(46,(i6 (wvF 5 ws k w)))],[(.var 61 [(LI ws),(LI xs),(i6 k),(i6 w)]),(.var 57 [(i6 0),(.v .nilf),(.v .nilf)]),(.var 57 [(i6 2),(.fn (.func 43) [] []),(.fn (.func 46) [] [])])]⟩
def zwv_5_1_9 (ws xs : List Int) (k w : Int) : St := ⟨[(4,(.ptr 1 0 0 0)),(7,(.ptr 2 0 0 0)),(9,(i6 (wvF 5 ws k w))),(44,(.agg [(i6 2),(.fn (.func 43) [] []),(.fn (.func 46) [] [])])),(46,(i6 (wvF 5 ws k w))),(47,(dB (fitsF (wvF 5 ws k w))))],[(.var 61 [(LI ws),(LI xs),(i6 k),(i6 w)]),(.var 57 [(i6 0),(.v .nilf),(.v .nilf)]),(.var 57 [(i6 2),(.fn (.func 43) [] []),(.fn (.func 46) [] [])])]⟩
def zwv_5_1_10 (ws xs : List Int) (k w : Int) : St := ⟨[(4,(.ptr 1 0 0 0)),(7,(.ptr 2 0 0 0)),(9,(i6 (wvF 5 ws k w))),(45,(i6 (wvF 5 ws k w))),(46,(i6 (wvF 5 ws k w))),(47,(dB (fitsF (wvF 5 ws k w))))],[(.var 61 [(LI ws),(LI xs),(i6 k),(i6 w)]),(.var 57 [(i6 0),(.v .nilf),(.v .nilf)]),(.var 57 [(i6 2),(.fn (.func 43) [] []),(.fn (.func 46) [] [])])]⟩
def zwv_5_1_11 (ws xs : List Int) (k w : Int) : St := ⟨[(4,(.ptr 1 0 0 0)),(7,(.ptr 2 0 0 0)),(9,(i6 (wvF 5 ws k w))),(44,(.agg [(i6 2),(.fn (.func 43) [] []),(.fn (.func 46) [] [])])),(45,(i6 (wvF 5 ws k w))),(46,(i6 (wvF 5 ws k w))),(47,(dB (fitsF (wvF 5 ws k w))))],[(.var 61 [(LI ws),(LI xs),(i6 k),(i6 w)]),(.var 57 [(i6 0),(.v .nilf),(.v .nilf)]),(.var 57 [(i6 2),(.fn (.func 43) [] []),(.fn (.func 46) [] [])])]⟩
def zwv_5_1_12 (ws xs : List Int) (k w : Int) : St := ⟨[(4,(.ptr 1 0 0 0)),(7,(.ptr 2 0 0 0)),(9,(i6 (wvF 5 ws k w))),(44,(.agg [(i6 2),(.fn (.func 43) [] []),(.fn (.func 46) [] [])])),(46,(i6 (wvF 5 ws k w))),(47,(dB (fitsF (wvF 5 ws k w))))],[(.var 61 [(LI ws),(LI xs),(i6 k),(i6 w)]),(.var 57 [(i6 2),(.fn (.func 43) [] []),(.fn (.func 46) [] [])]),(.var 57 [(i6 2),(.fn (.func 43) [] []),(.fn (.func 46) [] [])])]⟩
def zwv_5_1_13 (ws xs : List Int) (k w : Int) : St := ⟨[(4,(.ptr 1 0 0 0)),(7,(.ptr 2 0 0 0)),(9,(i6 (wvF 5 ws k w))),(44,(.agg [(i6 2),(.fn (.func 43) [] []),(.fn (.func 46) [] [])])),(45,(i6 (wvF 5 ws k w))),(46,(i6 (wvF 5 ws k w))),(47,(dB (fitsF (wvF 5 ws k w))))],[(.var 61 [(LI ws),(LI xs),(i6 k),(i6 w)]),(.var 57 [(i6 2),(.fn (.func 43) [] []),(.fn (.func 46) [] [])]),(.var 57 [(i6 2),(.fn (.func 43) [] []),(.fn (.func 46) [] [])])]⟩
def zwv_5_1_14 (ws xs : List Int) (k w : Int) : St := ⟨[(4,(.ptr 1 0 0 0)),(5,(i6 (wvF 5 ws k w))),(7,(.ptr 2 0 0 0)),(9,(i6 (wvF 5 ws k w))),(44,(.agg [(i6 2),(.fn (.func 43) [] []),(.fn (.func 46) [] [])])),(45,(i6 (wvF 5 ws k w))),(46,(i6 (wvF 5 ws k w))),(47,(dB (fitsF (wvF 5 ws k w))))],[(.var 61 [(LI ws),(LI xs),(i6 k),(i6 w)]),(.var 57 [(i6 2),(.fn (.func 43) [] []),(.fn (.func 46) [] [])]),(.var 57 [(i6 2),(.fn (.func 43) [] []),(.fn (.func 46) [] [])])]⟩
def zwv_5_1_15 (ws xs : List Int) (k w : Int) : St := ⟨[(4,(.ptr 1 0 0 0)),(5,(i6 (wvF 5 ws k w))),(6,(dB false))],[(.var 61 [(LI ws),(LI xs),(i6 k),(i6 w)]),(.var 57 [(i6 2),(.fn (.func 43) [] []),(.fn (.func 46) [] [])]),(.var 57 [(i6 2),(.fn (.func 43) [] []),(.fn (.func 46) [] [])])]⟩
set_option maxRecDepth 100000 in
theorem width_wv_5 (ws xs : List Int) (k w : Int) (hw : ws.length ≤ 9223372036854775807) (h : okB 5 ws = true) (h3 : fitsF (wvF 5 ws k w) = false) : CallOk Try.prog 27 [(i6 5),(.agg [(LI ws),(LI xs),(i6 k),(i6 w)])] [] true (.tup [(.agg [(i6 2),(.fn (.func 43) [] []),(.fn (.func 46) [] [])]),(i6 (wvF 5 ws k w)),(dB false)]) [] := by
  refine CallOk.of_ev Try.func27 rfl rfl rfl ?_
  rintro ⟨_,W,S0,_,susp,_⟩ rfl rfl rfl
  obtain ⟨h1,h2⟩ := okB_yes h
  have hA : arityF 5 = 2 := by decide
  rw [hA] at h1
  refine Ev.seq ?_
  refine Ev.reg [] [0,3,4] (st' := ⟨[(0,(i6 5)),(3,(.ptr 0 0 0 0)),(4,(.ptr 1 0 0 0))],[(.var 61 [(LI ws),(LI xs),(i6 k),(i6 w)]),(.var 57 [(i6 0),(.v .nilf),(.v .nilf)])]⟩)
    (p := True∧True∧True∧True∧True) (by kernel_rfl)
    ⟨⟨⟩,⟨⟩,⟨⟩,⟨⟩,⟨⟩⟩ ?_
  refine Ev.seq ?_
  refine Ev.reg [(0,.call none false (.v (.mp simpleM))),(2,.idx (some 3))] [0,3,4,7,8] (st' := ⟨[(0,(i6 5)),(3,(.ptr 0 0 0 0)),(4,(.ptr 1 0 0 0)),(7,(.ptr 2 0 0 0)),(8,(dB true))],[(.var 61 [(LI ws),(LI xs),(i6 k),(i6 w)]),(.var 57 [(i6 0),(.v .nilf),(.v .nilf)]),(.var 57 [(i6 2),(.fn (.func 43) [] []),(.fn (.func 46) [] [])])]⟩)
    (p := callOb Try.prog 33 [(.var 61 [(LI ws),(LI xs),(i6 k),(i6 w)]),(.var 57 [(i6 0),(.v .nilf),(.v .nilf)])] [] none false (.v (.mp simpleM))∧True∧((5 : Int) = 5∧∀ e' ∈ simpleM.take 3,(5 : Int) ≠ e'.1)∧True∧True∧True∧True∧True∧True∧True) (by kernel_rfl)
    ⟨simple_ok,⟨⟩,(by decide),⟨⟩,⟨⟩,⟨⟩,⟨⟩,⟨⟩,⟨⟩,⟨⟩⟩ ?_
  refine Ev.seq ?_
  refine Ev.seq ?_
  refine Ev.reg [] [0,3,4,7,8,17] (st' := ⟨[(0,(i6 5)),(3,(.ptr 0 0 0 0)),(4,(.ptr 1 0 0 0)),(7,(.ptr 2 0 0 0)),(8,(dB true)),(17,(dB false))],[(.var 61 [(LI ws),(LI xs),(i6 k),(i6 w)]),(.var 57 [(i6 0),(.v .nilf),(.v .nilf)]),(.var 57 [(i6 2),(.fn (.func 43) [] []),(.fn (.func 46) [] [])])]⟩)
    (p := True∧True∧True) (by kernel_rfl)
    ⟨⟨⟩,⟨⟩,⟨⟩⟩ ?_
  refine Ev.cond false rfl (fun h => (by cases h)) (fun _ => ?_)
  refine Ev.skip ?_
  refine Ev.seq ?_
  refine Ev.seq ?_
  refine Ev.reg [(8,.val (dB false)),(13,.call none false (dB (!(ws.all fitsF)))),(14,.val (dB false))] [3,4,7,38] (st' := ⟨[(3,(.ptr 0 0 0 0)),(4,(.ptr 1 0 0 0)),(7,(.ptr 2 0 0 0)),(38,(dB false))],[(.var 61 [(LI ws),(LI xs),(i6 k),(i6 w)]),(.var 57 [(i6 0),(.v .nilf),(.v .nilf)]),(.var 57 [(i6 2),(.fn (.func 43) [] []),(.fn (.func 46) [] [])])]⟩)
    (p := True∧True∧True∧True∧True∧True∧True∧True∧(True∧(((ws.length : Nat) : Int) != 2) = false)∧True∧True∧True∧True∧callOb Try.prog 35 [(.var 61 [(LI ws),(LI xs),(i6 k),(i6 w)]),(.var 57 [(i6 0),(.v .nilf),(.v .nilf)]),(.var 57 [(i6 2),(.fn (.func 43) [] []),(.fn (.func 46) [] [])])] [(LI ws),(.fn (.func 36) [] [])] none false (dB (!(ws.all fitsF)))∧(True∧(!(ws.all fitsF)) = false)∧True) (by kernel_rfl)
    ⟨⟨⟩,⟨⟩,⟨⟩,⟨⟩,⟨⟩,⟨⟩,⟨⟩,⟨⟩,⟨⟨⟩,(by rw [h1]; rfl)⟩,⟨⟩,⟨⟩,⟨⟩,⟨⟩,(contains_ok _ (by first | omega | (simp; first | done | omega))),⟨⟨⟩,(by rw [h2]; rfl)⟩,⟨⟩⟩ ?_
  refine Ev.cond false rfl (fun h => (by cases h)) (fun _ => ?_)
  refine Ev.skip ?_
  refine Ev.seq ?_
  refine Ev.reg [(3,.call none false (i6 (alikeF ws))),(4,.val (i6 (wvF 5 ws k w)))] [4,7,9] (st' := ⟨[(4,(.ptr 1 0 0 0)),(7,(.ptr 2 0 0 0)),(9,(i6 (wvF 5 ws k w)))],[(.var 61 [(LI ws),(LI xs),(i6 k),(i6 w)]),(.var 57 [(i6 0),(.v .nilf),(.v .nilf)]),(.var 57 [(i6 2),(.fn (.func 43) [] []),(.fn (.func 46) [] [])])]⟩)
    (p := True∧True∧True∧callOb Try.prog 43 [(.var 61 [(LI ws),(LI xs),(i6 k),(i6 w)]),(.var 57 [(i6 0),(.v .nilf),(.v .nilf)]),(.var 57 [(i6 2),(.fn (.func 43) [] []),(.fn (.func 46) [] [])])] [(.agg [(LI ws),(LI xs),(i6 k),(i6 w)])] none false (i6 (alikeF ws))∧(True∧(alikeF ws) = (wvF 5 ws k w))∧True) (by kernel_rfl)
    ⟨⟨⟩,⟨⟩,⟨⟩,(alike_ok _ _ _ _ (by omega) (by assumption)),⟨⟨⟩,(by first | rfl | simp [wvF])⟩,⟨⟩⟩ ?_
  refine Ev.seq ?_
  refine Ev.any [(3,.call none false (dB (fitsF (wvF 5 ws k w)))),(6,.val (dB false))] [((bm 7 0),(zwv_5_1_0 ws xs k w)),((bm 7 1),(zwv_5_1_1 ws xs k w)),((bm 7 2),(zwv_5_1_2 ws xs k w)),((bm 7 4),(zwv_5_1_3 ws xs k w)),((bm 7 3),(zwv_5_1_4 ws xs k w)),((bm 7 5),(zwv_5_1_5 ws xs k w)),((bm 7 6),(zwv_5_1_6 ws xs k w)),((bm 7 12),(zwv_5_1_7 ws xs k w)),((bm 7 7),(zwv_5_1_8 ws xs k w)),((bm 7 13),(zwv_5_1_9 ws xs k w)),((bm 7 14),(zwv_5_1_10 ws xs k w)),((bm 7 15),(zwv_5_1_11 ws xs k w)),((bm 7 29),(zwv_5_1_12 ws xs k w)),((bm 7 31),(zwv_5_1_13 ws xs k w)),((bm 7 63),(zwv_5_1_14 ws xs k w)),((bm 7 127),(zwv_5_1_15 ws xs k w))] (st0 := (zwv_5_1_0 ws xs k w)) (st' := ⟨[(4,(.ptr 1 0 0 0)),(5,(i6 (wvF 5 ws k w))),(6,(dB false))],[(.var 61 [(LI ws),(LI xs),(i6 k),(i6 w)]),(.var 57 [(i6 2),(.fn (.func 43) [] []),(.fn (.func 46) [] [])]),(.var 57 [(i6 2),(.fn (.func 43) [] []),(.fn (.func 46) [] [])])]⟩)
    (p := ((((zwv_5_1_1 ws xs k w) : St) = (zwv_5_1_1 ws xs k w)∧True∧True)∧(((zwv_5_1_2 ws xs k w) : St) = (zwv_5_1_2 ws xs k w)∧True∧True)∧(((zwv_5_1_3 ws xs k w) : St) = (zwv_5_1_3 ws xs k w)∧True∧True)∧True)∧((((zwv_5_1_4 ws xs k w) : St) = (zwv_5_1_4 ws xs k w)∧True∧True)∧(((zwv_5_1_5 ws xs k w) : St) = (zwv_5_1_5 ws xs k w)∧True∧True)∧True)∧((((zwv_5_1_4 ws xs k w) : St) = (zwv_5_1_4 ws xs k w)∧True∧True)∧(((zwv_5_1_6 ws xs k w) : St) = (zwv_5_1_6 ws xs k w)∧True∧True)∧True)∧((((zwv_5_1_5 ws xs k w) : St) = (zwv_5_1_5 ws xs k w)∧True∧True)∧(((zwv_5_1_6 ws xs k w) : St) = (zwv_5_1_6 ws xs k w)∧True∧True)∧(((zwv_5_1_7 ws xs k w) : St) = (zwv_5_1_7 ws xs k w)∧callOb Try.prog 37 [(.var 61 [(LI ws),(LI xs),(i6 k),(i6 w)]),(.var 57 [(i6 0),(.v .nilf),(.v .nilf)]),(.var 57 [(i6 2),(.fn (.func 43) [] []),(.fn (.func 46) [] [])])] [(i6 (wvF 5 ws k w))] none false (dB (fitsF (wvF 5 ws k w)))∧True)∧True)∧((((zwv_5_1_8 ws xs k w) : St) = (zwv_5_1_8 ws xs k w)∧True∧True)∧True)∧((((zwv_5_1_8 ws xs k w) : St) = (zwv_5_1_8 ws xs k w)∧True∧True)∧(((zwv_5_1_9 ws xs k w) : St) = (zwv_5_1_9 ws xs k w)∧callOb Try.prog 37 [(.var 61 [(LI ws),(LI xs),(i6 k),(i6 w)]),(.var 57 [(i6 0),(.v .nilf),(.v .nilf)]),(.var 57 [(i6 2),(.fn (.func 43) [] []),(.fn (.func 46) [] [])])] [(i6 (wvF 5 ws k w))] none false (dB (fitsF (wvF 5 ws k w)))∧True)∧True)∧((((zwv_5_1_8 ws xs k w) : St) = (zwv_5_1_8 ws xs k w)∧True∧True)∧(((zwv_5_1_10 ws xs k w) : St) = (zwv_5_1_10 ws xs k w)∧callOb Try.prog 37 [(.var 61 [(LI ws),(LI xs),(i6 k),(i6 w)]),(.var 57 [(i6 0),(.v .nilf),(.v .nilf)]),(.var 57 [(i6 2),(.fn (.func 43) [] []),(.fn (.func 46) [] [])])] [(i6 (wvF 5 ws k w))] none false (dB (fitsF (wvF 5 ws k w)))∧True)∧True)∧((((zwv_5_1_9 ws xs k w) : St) = (zwv_5_1_9 ws xs k w)∧True∧True)∧(((zwv_5_1_10 ws xs k w) : St) = (zwv_5_1_10 ws xs k w)∧True∧True)∧True)∧((((zwv_5_1_11 ws xs k w) : St) = (zwv_5_1_11 ws xs k w)∧callOb Try.prog 37 [(.var 61 [(LI ws),(LI xs),(i6 k),(i6 w)]),(.var 57 [(i6 0),(.v .nilf),(.v .nilf)]),(.var 57 [(i6 2),(.fn (.func 43) [] []),(.fn (.func 46) [] [])])] [(i6 (wvF 5 ws k w))] none false (dB (fitsF (wvF 5 ws k w)))∧True)∧True)∧((((zwv_5_1_11 ws xs k w) : St) = (zwv_5_1_11 ws xs k w)∧True∧True)∧(((zwv_5_1_12 ws xs k w) : St) = (zwv_5_1_12 ws xs k w)∧True∧True)∧True)∧((((zwv_5_1_11 ws xs k w) : St) = (zwv_5_1_11 ws xs k w)∧True∧True)∧True)∧((((zwv_5_1_13 ws xs k w) : St) = (zwv_5_1_13 ws xs k w)∧True∧True)∧True)∧((((zwv_5_1_13 ws xs k w) : St) = (zwv_5_1_13 ws xs k w)∧True∧True)∧True)∧((((zwv_5_1_14 ws xs k w) : St) = (zwv_5_1_14 ws xs k w)∧True∧True)∧True)∧((((zwv_5_1_15 ws xs k w) : St) = (zwv_5_1_15 ws xs k w)∧(True∧(fitsF (wvF 5 ws k w)) = false)∧True)∧True)∧True∧True) (by kernel_rfl) (by kernel_rfl) (by kernel_rfl) (by kernel_rfl) (by kernel_rfl) (by kernel_rfl)
    ⟨⟨⟨rfl,⟨⟩,⟨⟩⟩,⟨rfl,⟨⟩,⟨⟩⟩,⟨rfl,⟨⟩,⟨⟩⟩,⟨⟩⟩,⟨⟨rfl,⟨⟩,⟨⟩⟩,⟨rfl,⟨⟩,⟨⟩⟩,⟨⟩⟩,⟨⟨rfl,⟨⟩,⟨⟩⟩,⟨rfl,⟨⟩,⟨⟩⟩,⟨⟩⟩,⟨⟨rfl,⟨⟩,⟨⟩⟩,⟨rfl,⟨⟩,⟨⟩⟩,⟨rfl,(fits_ok _),⟨⟩⟩,⟨⟩⟩,⟨⟨rfl,⟨⟩,⟨⟩⟩,⟨⟩⟩,⟨⟨rfl,⟨⟩,⟨⟩⟩,⟨rfl,(fits_ok _),⟨⟩⟩,⟨⟩⟩,⟨⟨rfl,⟨⟩,⟨⟩⟩,⟨rfl,(fits_ok _),⟨⟩⟩,⟨⟩⟩,⟨⟨rfl,⟨⟩,⟨⟩⟩,⟨rfl,⟨⟩,⟨⟩⟩,⟨⟩⟩,⟨⟨rfl,(fits_ok _),⟨⟩⟩,⟨⟩⟩,⟨⟨rfl,⟨⟩,⟨⟩⟩,⟨rfl,⟨⟩,⟨⟩⟩,⟨⟩⟩,⟨⟨rfl,⟨⟩,⟨⟩⟩,⟨⟩⟩,⟨⟨rfl,⟨⟩,⟨⟩⟩,⟨⟩⟩,⟨⟨rfl,⟨⟩,⟨⟩⟩,⟨⟩⟩,⟨⟨rfl,⟨⟩,⟨⟩⟩,⟨⟩⟩,⟨⟨rfl,⟨⟨⟩,(by first | exact h3 | simpa [wvF] using h3)⟩,⟨⟩⟩,⟨⟩⟩,⟨⟩,⟨⟩⟩ ?_
  refine Ev.ret ?_
  refine ⟨⟨⟨⟩,⟨⟩,⟨⟩,⟨⟩⟩,(?_ : ((2 : Int) = 2∧((.fn (.func 43) [] []) : D) = (.fn (.func 43) [] [])∧((.fn (.func 46) [] []) : D) = (.fn (.func 46) [] [])∧True)∧(wvF 5 ws k w) = (wvF 5 ws k w)∧false = false∧True),.inl rfl⟩
  exact ⟨⟨rfl,rfl,rfl,⟨⟩⟩,rfl,rfl,⟨⟩⟩

def zg_6_1_0 (ws xs : List Int) (k w : Int) : St := ⟨[(4,(.ptr 1 0 0 0)),(7,(.ptr 2 0 0 0)),(9,(i6 (wvF 6 ws k w)))],[(.var 61 [(LI ws),(LI xs),(i6 k),(i6 w)]),(.var 57 [(i6 0),(.v .nilf),(.v .nilf)]),(.var 57 [(i6 2),(.fn (.func 43) [] []),(.fn (.func 47) [] [])])]⟩
def zg_6_1_1 (ws xs : List Int) (k w : Int) : St := ⟨[(4,(.ptr 1 0 0 0)),(7,(.ptr 2 0 0 0)),(9,(i6 (wvF 6 ws k w))),(44,(.agg [(i6 2),(.fn (.func 43) [] []),(.fn (.func 47) [] [])]))],[(.var 61 [(LI ws),(LI xs),(i6 k),(i6 w)]),(.var 57 [(i6 0),(.v .nilf),(.v .nilf)]),(.var 57 [(i6 2),(.fn (.func 43) [] []),(.fn (.func 47) [] [])])]⟩
def zg_6_1_2 (ws xs : List Int) (k w : Int) : St := ⟨[(4,(.ptr 1 0 0 0)),(7,(.ptr 2 0 0 0)),(9,(i6 (wvF 6 ws k w))),(45,(i6 (wvF 6 ws k w)))],[(.var 61 [(LI ws),(LI xs),(i6 k),(i6 w)]),(.var 57 [(i6 0),(.v .nilf),(.v .nilf)]),(.var 57 [(i6 2),(.fn (.func 43) [] []),(.fn (.func 47) [] [])])]⟩
def zg_6_1_3 (ws xs : List Int) (k w : Int) : St := ⟨[(4,(.ptr 1 0 0 0)),(7,(.ptr 2 0 0 0)),(9,(i6 (wvF 6 ws k w))),(46,(i6 (wvF 6 ws k w)))],[(.var 61 [(LI ws),(LI xs),(i6 k),(i6 w)]),(.var 57 [(i6 0),(.v .nilf),(.v .nilf)]),(.var 57 [(i6 2),(.fn (.func 43) [] []),(.fn (.func 47) [] [])])]⟩
def zg_6_1_4 (ws xs : List Int) (k w : Int) : St := ⟨[(4,(.ptr 1 0 0 0)),(7,(.ptr 2 0 0 0)),(9,(i6 (wvF 6 ws k w))),(44,(.agg [(i6 2),(.fn (.func 43) [] []),(.fn (.func 47) [] [])])),(45,(i6 (wvF 6 ws k w)))],[(.var 61 [(LI ws),(LI xs),(i6 k),(i6 w)]),(.var 57 [(i6 0),(.v .nilf),(.v .nilf)]),(.var 57 [(i6 2),(.fn (.func 43) [] []),(.fn (.func 47) [] [])])]⟩
def zg_6_1_5 (ws xs : List Int) (k w : Int) : St := ⟨[(4,(.ptr 1 0 0 0)),(7,(.ptr 2 0 0 0)),(9,(i6 (wvF 6 ws k w))),(44,(.agg [(i6 2),(.fn (.func 43) [] []),(.fn (.func 47) [] [])])),(46,(i6 (wvF 6 ws k w)))],[(.var 61 [(LI ws),(LI xs),(i6 k),(i6 w)]),(.var 57 [(i6 0),(.v .nilf),(.v .nilf)]),(.var 57 [(i6 2),(.fn (.func 43) [] []),(.fn (.func 47) [] [])])]⟩
def zg_6_1_6 (ws xs : List Int) (k w : Int) : St := ⟨[(4,(.ptr 1 0 0 0)),(7,(.ptr 2 0 0 0)),(9,(i6 (wvF 6 ws k w))),(45,(i6 (wvF 6 ws k w))),(46,(i6 (wvF 6 ws k w)))],[(.var 61 [(LI ws),(LI xs),(i6 k),(i6 w)]),(.var 57 [(i6 0),(.v .nilf),(.v .nilf)]),(.var 57 [(i6 2),(.fn (.func 43) [] []),(.fn (.func 47) [] [])])]⟩
def zg_6_1_7 (ws xs : List Int) (k w : Int) : St := ⟨[(4,(.ptr 1 0 0 0)),(7,(.ptr 2 0 0 0)),(9,(i6 (wvF 6 ws k w))),(46,(i6 (wvF 6 ws k w))),(47,(dB (fitsF (wvF 6 ws k w))))],[(.var 61 [(LI ws),(LI xs),(i6 k),(i6 w)]),(.var 57 [(i6 0),(.v .nilf),(.v .nilf)]),(.var 57 [(i6 2),(.fn (.func 43) [] []),(.fn (.func 47) [] [])])]⟩
def zg_6_1_8 (ws xs : List Int) (k w : Int) : St := ⟨[(4,(.ptr 1 0 0 0)),(7,(.ptr 2 0 0 0)),(9,(i6 (wvF 6 ws k w))),(44,(.agg [(i6 2),(.fn (.func 43) [] []),(.fn (.func 47) [] [])])),(45,(i6 (wvF 6 ws k w))),(46,(i6 (wvF 6 ws k w)))],[(.var 61 [(LI ws),(LI xs),(i6 k),(i6 w)]),(.var 57 [(i6 0),(.v .nilf),(.v .nilf)]),(.var 57 [(i6 2),(.fn (.func 43) [] []),(.fn (.func 47) [] [])])]⟩
def zg_6_1_9 (ws xs : List Int) (k w : Int) : St := ⟨[(4,(.ptr 1 0 0 0)),(7,(.ptr 2 0 0 0)),(9,(i6 (wvF 6 ws k w))),(44,(.agg [(i6 2),(.fn (.func 43) [] []),(.fn (.func 47) [] [])])),(46,(i6 (wvF 6 ws k w))),(47,(dB (fitsF (wvF 6 ws k w))))],[(.var 61 [(LI ws),(LI xs),(i6 k),(i6 w)]),(.var 57 [(i6 0),(.v .nilf),(.v .nilf)]),(.var 57 [(i6 2),(.fn (.func 43) [] []),(.fn (.func 47) [] [])])]⟩
def zg_6_1_10 (ws xs : List Int) (k w : Int) : St := ⟨[(4,(.ptr 1 0 0 0)),(7,(.ptr 2 0 0 0)),(9,(i6 (wvF 6 ws k w))),(45,(i6 (wvF 6 ws k w))),(46,(i6 (wvF 6 ws k w))),(47,(dB (fitsF (wvF 6 ws k w))))],[(.var 61 [(LI ws),(LI xs),(i6 k),(i6 w)]),(.var 57 [(i6 0),(.v .nilf),(.v .nilf)]),(.var 57 [(i6 2),(.fn (.func 43) [] []),(.fn (.func 47) [] [])])]⟩
def zg_6_1_11 (ws xs : List Int) (k w : Int) : St := ⟨[(4,(.ptr 1 0 0 0)),(7,(.ptr 2 0 0 0)),(9,(i6 (wvF 6 ws k w))),(44,(.agg [(i6 2),(.fn (.func 43) [] []),(.fn (.func 47) [] [])])),(45,(i6 (wvF 6 ws k w))),(46,(i6 (wvF 6 ws k w))),(47,(dB (fitsF (wvF 6 ws k w))))],[(.var 61 [(LI ws),(LI xs),(i6 k),(i6 w)]),(.var 57 [(i6 0),(.v .nilf),(.v .nilf)]),(.var 57 [(i6 2),(.fn (.func 43) [] []),(.fn (.func 47) [] [])])]⟩
def zg_6_1_12 (ws xs : List Int) (k w : Int) : St := ⟨[(4,(.ptr 1 0 0 0)),(7,(.ptr 2 0 0 0)),(9,(i6 (wvF 6 ws k w))),(44,(.agg [(i6 2),(.fn (.func 43) [] []),(.fn (.func 47) [] [])])),(46,(i6 (wvF 6 ws k w))),(47,(dB (fitsF (wvF 6 ws k w))))],[(.var 61 [(LI ws),(LI xs),(i6 k),(i6 w)]),(.var 57 [(i6 2),(.fn (.func 43) [] []),(.fn (.func 47) [] [])]),(.var 57 [(i6 2),(.fn (.func 43) [] []),(.fn (.func 47) [] [])])]⟩
def zg_6_1_13 (ws xs : List Int) (k w : Int) : St := ⟨[(4,(.ptr 1 0 0 0)),(7,(.ptr 2 0 0 0)),(9,(i6 (wvF 6 ws k w))),(44,(.agg [(i6 2),(.fn (.func 43) [] []),(.fn (.func 47) [] [])])),(45,(i6 (wvF 6 ws k w))),(46,(i6 (wvF 6 ws k w))),(47,(dB (fitsF (wvF 6 ws k w))))],[(.var 61 [(LI ws),(LI xs),(i6 k),(i6 w)]),(.var 57 [(i6 2),(.fn (.func 43) [] []),(.fn (.func 47) [] [])]),(.var 57 [(i6 2),(.fn (.func 43) [] []),(.fn (.func 47) [] [])])]⟩
def zg_6_1_14 (ws xs : List Int) (k w : Int) : St := ⟨[(4,(.ptr 1 0 0 0)),(5,(i6 (wvF 6 ws k w))),(7,(.ptr 2 0 0 0)),(9,(i6 (wvF 6 ws k w))),(44,(.agg [(i6 2),(.fn (.func 43) [] []),(.fn (.func 47) [] [])])),(45,(i6 (wvF 6 ws k w))),(46,(i6 (wvF 6 ws k w))),(47,(dB (fitsF (wvF 6 ws k w))))],[(.var 61 [(LI ws),(LI xs),(i6 k),(i6 w)]),(.var 57 [(i6 2),(.fn (.func 43) [] []),(.fn (.func 47) [] [])]),(.var 57 [(i6 2),(.fn (.func 43) [] []),(.fn (.func 47) [] [])])]⟩
def zg_6_1_15 (ws xs : List Int) (k w : Int) : St := ⟨[(4,(.ptr 1 0 0 0)),(5,(i6 (wvF 6 ws k w))),(6,(dB true))],[(.var 61 [(LI ws),(LI xs),(i6 k),(i6 w)]),(.var 57 [(i6 2),(.fn (.func 43) [] []),(.fn (.func 47) [] [])]),(.var 57 [(i6 2),(.fn (.func 43) [] []),(.fn (.func 47) [] [])])]⟩
set_option maxRecDepth 100000 in
theorem width_good_6 (ws xs : List Int) (k w : Int) (hw : ws.length ≤ 9223372036854775807) (h : okF 6 ws k w = true) : CallOk Try.prog 27 [(i6 6),(.agg [(LI ws),(LI xs),(i6 k),(i6 w)])] [] true (.tup [(.agg [(i6 2),(.fn (.func 43) [] []),(.fn (.func 47) [] [])]),(i6 (wvF 6 ws k w)),(dB true)]) [] := by
  refine CallOk.of_ev Try.func27 rfl rfl rfl ?_
  rintro ⟨_,W,S0,_,susp,_⟩ rfl rfl rfl
  obtain ⟨h1,h2,h3⟩ := ok_yes h
  have hA : arityF 6 = 2 := by decide
  rw [hA] at h1
  refine Ev.seq ?_
  refine Ev.reg [] [0,3,4] (st' := ⟨[(0,(i6 6)),(3,(.ptr 0 0 0 0)),(4,(.ptr 1 0 0 0))],[(.var 61 [(LI ws),(LI xs),(i6 k),(i6 w)]),(.var 57 [(i6 0),(.v .nilf),(.v .nilf)])]⟩)
    (p := True∧True∧True∧True∧True) (by kernel_rfl)
    ⟨⟨⟩,⟨⟩,⟨⟩,⟨⟩,⟨⟩⟩ ?_
  refine Ev.seq ?_
  refine Ev.reg [(0,.call none false (.v (.mp simpleM))),(2,.idx (some 4))] [0,3,4,7,8] (st' := ⟨[(0,(i6 6)),(3,(.ptr 0 0 0 0)),(4,(.ptr 1 0 0 0)),(7,(.ptr 2 0 0 0)),(8,(dB true))],[(.var 61 [(LI ws),(LI xs),(i6 k),(i6 w)]),(.var 57 [(i6 0),(.v .nilf),(.v .nilf)]),(.var 57 [(i6 2),(.fn (.func 43) [] []),(.fn (.func 47) [] [])])]⟩)
    (p := callOb Try.prog 33 [(.var 61 [(LI ws),(LI xs),(i6 k),(i6 w)]),(.var 57 [(i6 0),(.v .nilf),(.v .nilf)])] [] none false (.v (.mp simpleM))∧True∧((6 : Int) = 6∧∀ e' ∈ simpleM.take 4,(6 : Int) ≠ e'.1)∧True∧True∧True∧True∧True∧True∧True) (by kernel_rfl)
    ⟨simple_ok,⟨⟩,(by decide),⟨⟩,⟨⟩,⟨⟩,⟨⟩,⟨⟩,⟨⟩,⟨⟩⟩ ?_
  refine Ev.seq ?_
  refine Ev.seq ?_
  refine Ev.reg [] [0,3,4,7,8,17] (st' := ⟨[(0,(i6 6)),(3,(.ptr 0 0 0 0)),(4,(.ptr 1 0 0 0)),(7,(.ptr 2 0 0 0)),(8,(dB true)),(17,(dB false))],[(.var 61 [(LI ws),(LI xs),(i6 k),(i6 w)]),(.var 57 [(i6 0),(.v .nilf),(.v .nilf)]),(.var 57 [(i6 2),(.fn (.func 43) [] []),(.fn (.func 47) [] [])])]⟩)
    (p := True∧True∧True) (by kernel_rfl)
    ⟨⟨⟩,⟨⟩,⟨⟩⟩ ?_
  refine Ev.cond false rfl (fun h => (by cases h)) (fun _ => ?_)
  refine Ev.skip ?_
  refine Ev.seq ?_
  refine Ev.seq ?_
  refine Ev.reg [(8,.val (dB false)),(13,.call none false (dB (!(ws.all fitsF)))),(14,.val (dB false))] [3,4,7,38] (st' := ⟨[(3,(.ptr 0 0 0 0)),(4,(.ptr 1 0 0 0)),(7,(.ptr 2 0 0 0)),(38,(dB false))],[(.var 61 [(LI ws),(LI xs),(i6 k),(i6 w)]),(.var 57 [(i6 0),(.v .nilf),(.v .nilf)]),(.var 57 [(i6 2),(.fn (.func 43) [] []),(.fn (.func 47) [] [])])]⟩)
    (p := True∧True∧True∧True∧True∧True∧True∧True∧(True∧(((ws.length : Nat) : Int) != 2) = false)∧True∧True∧True∧True∧callOb Try.prog 35 [(.var 61 [(LI ws),(LI xs),(i6 k),(i6 w)]),(.var 57 [(i6 0),(.v .nilf),(.v .nilf)]),(.var 57 [(i6 2),(.fn (.func 43) [] []),(.fn (.func 47) [] [])])] [(LI ws),(.fn (.func 36) [] [])] none false (dB (!(ws.all fitsF)))∧(True∧(!(ws.all fitsF)) = false)∧True) (by kernel_rfl)
    ⟨⟨⟩,⟨⟩,⟨⟩,⟨⟩,⟨⟩,⟨⟩,⟨⟩,⟨⟩,⟨⟨⟩,(by rw [h1]; rfl)⟩,⟨⟩,⟨⟩,⟨⟩,⟨⟩,(contains_ok _ (by first | omega | (simp; first | done | omega))),⟨⟨⟩,(by rw [h2]; rfl)⟩,⟨⟩⟩ ?_
  refine Ev.cond false rfl (fun h => (by cases h)) (fun _ => ?_)
  refine Ev.skip ?_
  refine Ev.seq ?_
  refine Ev.reg [(3,.call none false (i6 (alikeF ws))),(4,.val (i6 (wvF 6 ws k w)))] [4,7,9] (st' := ⟨[(4,(.ptr 1 0 0 0)),(7,(.ptr 2 0 0 0)),(9,(i6 (wvF 6 ws k w)))],[(.var 61 [(LI ws),(LI xs),(i6 k),(i6 w)]),(.var 57 [(i6 0),(.v .nilf),(.v .nilf)]),(.var 57 [(i6 2),(.fn (.func 43) [] []),(.fn (.func 47) [] [])])]⟩)
    (p := True∧True∧True∧callOb Try.prog 43 [(.var 61 [(LI ws),(LI xs),(i6 k),(i6 w)]),(.var 57 [(i6 0),(.v .nilf),(.v .nilf)]),(.var 57 [(i6 2),(.fn (.func 43) [] []),(.fn (.func 47) [] [])])] [(.agg [(LI ws),(LI xs),(i6 k),(i6 w)])] none false (i6 (alikeF ws))∧(True∧(alikeF ws) = (wvF 6 ws k w))∧True) (by kernel_rfl)
    ⟨⟨⟩,⟨⟩,⟨⟩,(alike_ok _ _ _ _ (by omega) (by assumption)),⟨⟨⟩,(by first | rfl | simp [wvF])⟩,⟨⟩⟩ ?_
  refine Ev.seq ?_
  refine Ev.any [(3,.call none false (dB (fitsF (wvF 6 ws k w)))),(6,.val (dB true))] [((bm 7 0),(zg_6_1_0 ws xs k w)),((bm 7 1),(zg_6_1_1 ws xs k w)),((bm 7 2),(zg_6_1_2 ws xs k w)),((bm 7 4),(zg_6_1_3 ws xs k w)),((bm 7 3),(zg_6_1_4 ws xs k w)),((bm 7 5),(zg_6_1_5 ws xs k w)),((bm 7 6),(zg_6_1_6 ws xs k w)),((bm 7 12),(zg_6_1_7 ws xs k w)),((bm 7 7),(zg_6_1_8 ws xs k w)),((bm 7 13),(zg_6_1_9 ws xs k w)),((bm 7 14),(zg_6_1_10 ws xs k w)),((bm 7 15),(zg_6_1_11 ws xs k w)),((bm 7 29),(zg_6_1_12 ws xs k w)),((bm 7 31),(zg_6_1_13 ws xs k w)),((bm 7 63),(zg_6_1_14 ws xs k w)),((bm 7 127),(zg_6_1_15 ws xs k w))] (st0 := (zg_6_1_0 ws xs k w)) (st' := ⟨[(4,(.ptr 1 0 0 0)),(5,(i6 (wvF 6 ws k w))),(6,(dB true))],[(.var 61 [(LI ws),(LI xs),(i6 k),(i6 w)]),(.var 57 [(i6 2),(.fn (.func 43) [] []),(.fn (.func 47) [] [])]),(.var 57 [(i6 2),(.fn (.func 43) [] []),(.fn (.func 47) [] [])])]⟩)
    (p := ((((zg_6_1_1 ws xs k w) : St) = (zg_6_1_1 ws xs k w)∧True∧True)∧(((zg_6_1_2 ws xs k w) : St) = (zg_6_1_2 ws xs k w)∧True∧True)∧(((zg_6_1_3 ws xs k w) : St) = (zg_6_1_3 ws xs k w)∧True∧True)∧True)∧((((zg_6_1_4 ws xs k w) : St) = (zg_6_1_4 ws xs k w)∧True∧True)∧(((zg_6_1_5 ws xs k w) : St) = (zg_6_1_5 ws xs k w)∧True∧True)∧True)∧((((zg_6_1_4 ws xs k w) : St) = (zg_6_1_4 ws xs k w)∧True∧True)∧(((zg_6_1_6 ws xs k w) : St) = (zg_6_1_6 ws xs k w)∧True∧True)∧True)∧((((zg_6_1_5 ws xs k w) : St) = (zg_6_1_5 ws xs k w)∧True∧True)∧(((zg_6_1_6 ws xs k w) : St) = (zg_6_1_6 ws xs k w)∧True∧True)∧(((zg_6_1_7 ws xs k w) : St) = (zg_6_1_7 ws xs k w)∧callOb Try.prog 37 [(.var 61 [(LI ws),(LI xs),(i6 k),(i6 w)]),(.var 57 [(i6 0),(.v .nilf),(.v .nilf)]),(.var 57 [(i6 2),(.fn (.func 43) [] []),(.fn (.func 47) [] [])])] [(i6 (wvF 6 ws k w))] none false (dB (fitsF (wvF 6 ws k w)))∧True)∧True)∧((((zg_6_1_8 ws xs k w) : St) = (zg_6_1_8 ws xs k w)∧True∧True)∧True)∧((((zg_6_1_8 ws xs k w) : St) = (zg_6_1_8 ws xs k w)∧True∧True)∧(((zg_6_1_9 ws xs k w) : St) = (zg_6_1_9 ws xs k w)∧callOb Try.prog 37 [(.var 61 [(LI ws),(LI xs),(i6 k),(i6 w)]),(.var 57 [(i6 0),(.v .nilf),(.v .nilf)]),(.var 57 [(i6 2),(.fn (.func 43) [] []),(.fn (.func 47) [] [])])] [(i6 (wvF 6 ws k w))] none false (dB (fitsF (wvF 6 ws k w)))∧True)∧True)∧((((zg_6_1_8 ws xs k w) : St) = (zg_6_1_8 ws xs k w)∧True∧True)∧(((zg_6_1_10 ws xs k w) : St) = (zg_6_1_10 ws xs k w)∧callOb Try.prog 37 [(.var 61 [(LI ws),(LI xs),(i6 k),(i6 w)]),(.var 57 [(i6 0),(.v .nilf),(.v .nilf)]),(.var 57 [(i6 2),(.fn (.func 43) [] []),(.fn (.func 47) [] [])])] [(i6 (wvF 6 ws k w))] none false (dB (fitsF (wvF 6 ws k w)))∧True)∧True)∧((((zg_6_1_9 ws xs k w) : St) = (zg_6_1_9 ws xs k w)∧True∧True)∧(((zg_6_1_10 ws xs k w) : St) = (zg_6_1_10 ws xs k w)∧True∧True)∧True)∧((((zg_6_1_11 ws xs k w) : St) = (zg_6_1_11 ws xs k w)∧callOb Try.prog 37 [(.var 61 [(LI ws),(LI xs),(i6 k),(i6 w)]),(.var 57 [(i6 0),(.v .nilf),(.v .nilf)]),(.var 57 [(i6 2),(.fn (.func 43) [] []),(.fn (.func 47) [] [])])] [(i6 (wvF 6 ws k w))] none false (dB (fitsF (wvF 6 ws k w)))∧True)∧True)∧((((zg_6_1_11 ws xs k w) : St) = (zg_6_1_11 ws xs k w)∧True∧True)∧(((zg_6_1_12 ws xs k w) : St) = (zg_6_1_12 ws xs k w)∧True∧True)∧True)∧((((zg_6_1_11 ws xs k w) : St) = (zg_6_1_11 ws xs k w)∧True∧True)∧True)∧((((zg_6_1_13 ws xs k w) : St) = (zg_6_1_13 ws xs k w)∧True∧True)∧True)∧((((zg_6_1_13 ws xs k w) : St) = (zg_6_1_13 ws xs k w)∧True∧True)∧True)∧((((zg_6_1_14 ws xs k w) : St) = (zg_6_1_14 ws xs k w)∧True∧True)∧True)∧((((zg_6_1_15 ws xs k w) : St) = (zg_6_1_15 ws xs k w)∧(True∧(fitsF (wvF 6 ws k w)) = true)∧True)∧True)∧True∧True) (by kernel_rfl) (by kernel_rfl) (by kernel_rfl) (by kernel_rfl) (by kernel_rfl) (by kernel_rfl)
    ⟨⟨⟨rfl,⟨⟩,⟨⟩⟩,⟨rfl,⟨⟩,⟨⟩⟩,⟨rfl,⟨⟩,⟨⟩⟩,⟨⟩⟩,⟨⟨rfl,⟨⟩,⟨⟩⟩,⟨rfl,⟨⟩,⟨⟩⟩,⟨⟩⟩,⟨⟨rfl,⟨⟩,⟨⟩⟩,⟨rfl,⟨⟩,⟨⟩⟩,⟨⟩⟩,⟨⟨rfl,⟨⟩,⟨⟩⟩,⟨rfl,⟨⟩,⟨⟩⟩,⟨rfl,(fits_ok _),⟨⟩⟩,⟨⟩⟩,⟨⟨rfl,⟨⟩,⟨⟩⟩,⟨⟩⟩,⟨⟨rfl,⟨⟩,⟨⟩⟩,⟨rfl,(fits_ok _),⟨⟩⟩,⟨⟩⟩,⟨⟨rfl,⟨⟩,⟨⟩⟩,⟨rfl,(fits_ok _),⟨⟩⟩,⟨⟩⟩,⟨⟨rfl,⟨⟩,⟨⟩⟩,⟨rfl,⟨⟩,⟨⟩⟩,⟨⟩⟩,⟨⟨rfl,(fits_ok _),⟨⟩⟩,⟨⟩⟩,⟨⟨rfl,⟨⟩,⟨⟩⟩,⟨rfl,⟨⟩,⟨⟩⟩,⟨⟩⟩,⟨⟨rfl,⟨⟩,⟨⟩⟩,⟨⟩⟩,⟨⟨rfl,⟨⟩,⟨⟩⟩,⟨⟩⟩,⟨⟨rfl,⟨⟩,⟨⟩⟩,⟨⟩⟩,⟨⟨rfl,⟨⟩,⟨⟩⟩,⟨⟩⟩,⟨⟨rfl,⟨⟨⟩,(by first | exact h3 | simpa [wvF] using h3)⟩,⟨⟩⟩,⟨⟩⟩,⟨⟩,⟨⟩⟩ ?_
  refine Ev.ret ?_
  refine ⟨⟨⟨⟩,⟨⟩,⟨⟩,⟨⟩⟩,(?_ : ((2 : Int) = 2∧((.fn (.func 43) [] []) : D) = (.fn (.func 43) [] [])∧((.fn (.func 47) [] []) : D) = (.fn (.func 47) [] [])∧True)∧(wvF 6 ws k w) = (wvF 6 ws k w)∧true = true∧True),.inl rfl⟩
  exact ⟨⟨rfl,rfl,rfl,⟨⟩⟩,rfl,rfl,⟨⟩⟩

set_option maxRecDepth 100000 in
theorem width_bad_6 (ws xs : List Int) (k w : Int) (hw : ws.length ≤ 9223372036854775807) (h : okB 6 ws = false) : CallOk Try.prog 27 [(i6 6),(.agg [(LI ws),(LI xs),(i6 k),(i6 w)])] [] true (.tup [(.agg [(i6 0),(.v .nilf),(.v .nilf)]),(i6 0),(dB false)]) [] := by
  refine CallOk.of_ev Try.func27 rfl rfl rfl ?_
  rintro ⟨_,W,S0,_,susp,_⟩ rfl rfl rfl
  refine Ev.seq ?_
  refine Ev.reg [] [0,3,4] (st' := ⟨[(0,(i6 6)),(3,(.ptr 0 0 0 0)),(4,(.ptr 1 0 0 0))],[(.var 61 [(LI ws),(LI xs),(i6 k),(i6 w)]),(.var 57 [(i6 0),(.v .nilf),(.v .nilf)])]⟩)
    (p := True∧True∧True∧True∧True) (by kernel_rfl)
    ⟨⟨⟩,⟨⟩,⟨⟩,⟨⟩,⟨⟩⟩ ?_
  refine Ev.seq ?_
  refine Ev.reg [(0,.call none false (.v (.mp simpleM))),(2,.idx (some 4))] [0,3,4,7,8] (st' := ⟨[(0,(i6 6)),(3,(.ptr 0 0 0 0)),(4,(.ptr 1 0 0 0)),(7,(.ptr 2 0 0 0)),(8,(dB true))],[(.var 61 [(LI ws),(LI xs),(i6 k),(i6 w)]),(.var 57 [(i6 0),(.v .nilf),(.v .nilf)]),(.var 57 [(i6 2),(.fn (.func 43) [] []),(.fn (.func 47) [] [])])]⟩)
    (p := callOb Try.prog 33 [(.var 61 [(LI ws),(LI xs),(i6 k),(i6 w)]),(.var 57 [(i6 0),(.v .nilf),(.v .nilf)])] [] none false (.v (.mp simpleM))∧True∧((6 : Int) = 6∧∀ e' ∈ simpleM.take 4,(6 : Int) ≠ e'.1)∧True∧True∧True∧True∧True∧True∧True) (by kernel_rfl)
    ⟨simple_ok,⟨⟩,(by decide),⟨⟩,⟨⟩,⟨⟩,⟨⟩,⟨⟩,⟨⟩,⟨⟩⟩ ?_
  refine Ev.seq ?_
  refine Ev.seq ?_
  refine Ev.reg [] [0,3,4,7,8,17] (st' := ⟨[(0,(i6 6)),(3,(.ptr 0 0 0 0)),(4,(.ptr 1 0 0 0)),(7,(.ptr 2 0 0 0)),(8,(dB true)),(17,(dB false))],[(.var 61 [(LI ws),(LI xs),(i6 k),(i6 w)]),(.var 57 [(i6 0),(.v .nilf),(.v .nilf)]),(.var 57 [(i6 2),(.fn (.func 43) [] []),(.fn (.func 47) [] [])])]⟩)
    (p := True∧True∧True) (by kernel_rfl)
    ⟨⟨⟩,⟨⟩,⟨⟩⟩ ?_
  refine Ev.cond false rfl (fun h => (by cases h)) (fun _ => ?_)
  refine Ev.skip ?_
  refine Ev.seq ?_
  refine Ev.seq ?_
  rcases okB_no h with h1 | ⟨h1,h2⟩
  · skip
    have hA : arityF 6 = 2 := by decide
    rw [hA] at h1
    refine Ev.reg [(8,.val (dB true))] [3,4,7,38] (st' := ⟨[(3,(.ptr 0 0 0 0)),(4,(.ptr 1 0 0 0)),(7,(.ptr 2 0 0 0)),(38,(dB true))],[(.var 61 [(LI ws),(LI xs),(i6 k),(i6 w)]),(.var 57 [(i6 0),(.v .nilf),(.v .nilf)]),(.var 57 [(i6 2),(.fn (.func 43) [] []),(.fn (.func 47) [] [])])]⟩)
      (p := True∧True∧True∧True∧True∧True∧True∧True∧(True∧(((ws.length : Nat) : Int) != 2) = true)∧True∧True∧True∧True∧True∧True∧True) (by kernel_rfl)
      ⟨⟨⟩,⟨⟩,⟨⟩,⟨⟩,⟨⟩,⟨⟩,⟨⟩,⟨⟩,⟨⟨⟩,(by exact bne_iff_ne.2 (by omega))⟩,⟨⟩,⟨⟩,⟨⟩,⟨⟩,⟨⟩,⟨⟩,⟨⟩⟩ ?_
    refine Ev.cond true rfl (fun _ => ?_) (fun h => (by cases h))
    refine Ev.seq ?_
    refine Ev.reg [] [4,5,6] (st' := ⟨[(4,(.ptr 1 0 0 0)),(5,(i6 0)),(6,(dB false))],[(.var 61 [(LI ws),(LI xs),(i6 k),(i6 w)]),(.var 57 [(i6 0),(.v .nilf),(.v .nilf)]),(.var 57 [(i6 2),(.fn (.func 43) [] []),(.fn (.func 47) [] [])])]⟩)
      (p := True∧True∧True∧True∧True) (by kernel_rfl)
      ⟨⟨⟩,⟨⟩,⟨⟩,⟨⟩,⟨⟩⟩ ?_
    refine Ev.ret ?_
    refine ⟨⟨⟨⟩,⟨⟩,⟨⟩,⟨⟩⟩,(?_ : ((0 : Int) = 0∧True∧True∧True)∧(0 : Int) = 0∧false = false∧True),.inl rfl⟩
    exact ⟨⟨rfl,⟨⟩,⟨⟩,⟨⟩⟩,rfl,rfl,⟨⟩⟩
  · skip
    have hA : arityF 6 = 2 := by decide
    rw [hA] at h1
    refine Ev.reg [(8,.val (dB false)),(13,.call none false (dB (!(ws.all fitsF)))),(14,.val (dB true))] [3,4,7,38] (st' := ⟨[(3,(.ptr 0 0 0 0)),(4,(.ptr 1 0 0 0)),(7,(.ptr 2 0 0 0)),(38,(dB true))],[(.var 61 [(LI ws),(LI xs),(i6 k),(i6 w)]),(.var 57 [(i6 0),(.v .nilf),(.v .nilf)]),(.var 57 [(i6 2),(.fn (.func 43) [] []),(.fn (.func 47) [] [])])]⟩)
      (p := True∧True∧True∧True∧True∧True∧True∧True∧(True∧(((ws.length : Nat) : Int) != 2) = false)∧True∧True∧True∧True∧callOb Try.prog 35 [(.var 61 [(LI ws),(LI xs),(i6 k),(i6 w)]),(.var 57 [(i6 0),(.v .nilf),(.v .nilf)]),(.var 57 [(i6 2),(.fn (.func 43) [] []),(.fn (.func 47) [] [])])] [(LI ws),(.fn (.func 36) [] [])] none false (dB (!(ws.all fitsF)))∧(True∧(!(ws.all fitsF)) = true)∧True) (by kernel_rfl)
      ⟨⟨⟩,⟨⟩,⟨⟩,⟨⟩,⟨⟩,⟨⟩,⟨⟩,⟨⟩,⟨⟨⟩,(by rw [h1]; rfl)⟩,⟨⟩,⟨⟩,⟨⟩,⟨⟩,(contains_ok _ (by first | omega | (simp; first | done | omega))),⟨⟨⟩,(by rw [h2]; rfl)⟩,⟨⟩⟩ ?_
    refine Ev.cond true rfl (fun _ => ?_) (fun h => (by cases h))
    refine Ev.seq ?_
    refine Ev.reg [] [4,5,6] (st' := ⟨[(4,(.ptr 1 0 0 0)),(5,(i6 0)),(6,(dB false))],[(.var 61 [(LI ws),(LI xs),(i6 k),(i6 w)]),(.var 57 [(i6 0),(.v .nilf),(.v .nilf)]),(.var 57 [(i6 2),(.fn (.func 43) [] []),(.fn (.func 47) [] [])])]⟩)
      (p := True∧True∧True∧True∧True) (by kernel_rfl)
      ⟨⟨⟩,⟨⟩,⟨⟩,⟨⟩,⟨⟩⟩ ?_
    refine Ev.ret ?_
    refine ⟨⟨⟨⟩,⟨⟩,⟨⟩,⟨⟩⟩,(?_ : ((0 : Int) = 0∧True∧True∧True)∧(0 : Int) = 0∧false = false∧True),.inl rfl⟩
    exact ⟨⟨rfl,⟨⟩,⟨⟩,⟨⟩⟩,rfl,rfl,⟨⟩⟩

def zwv_6_1_0 (ws xs : List Int) (k w : Int) : St := ⟨[(4,(.ptr 1 0 0 0)),(7,(.ptr 2 0 0 0)),(9,(i6 (wvF 6 ws k w)))],[(.var 61 [(LI ws),(LI xs),(i6 k),(i6 w)]),(.var 57 [(i6 0),(.v .nilf),(.v .nilf)]),(.var 57 [(i6 2),(.fn (.func 43) [] []),(.fn (.func 47) [] [])])]⟩
def zwv_6_1_1 (ws xs : List Int) (k w : Int) : St := ⟨[(4,(.ptr 1 0 0 0)),(7,(.ptr 2 0 0 0)),(9,(i6 (wvF 6 ws k w))),(44,(.agg [(i6 2),(.fn (.func 43) [] []),(.fn (.func 47) [] [])]))],[(.var 61 [(LI ws),(LI xs),(i6 k),(i6 w)]),(.var 57 [(i6 0),(.v .nilf),(.v .nilf)]),(.var 57 [(i6 2),(.fn (.func 43) [] []),(.fn (.func 47) [] [])])]⟩
def zwv_6_1_2 (ws xs : List Int) (k w : Int) : St := ⟨[(4,(.ptr 1 0 0 0)),(7,(.ptr 2 0 0 0)),(9,(i6 (wvF 6 ws k w))),(45,(i6 (wvF 6 ws k w)))],[(.var 61 [(LI ws),(LI xs),(i6 k),(i6 w)]),(.var 57 [(i6 0),(.v .nilf),(.v .nilf)]),(.var 57 [(i6 2),(.fn (.func 43) [] []),(.fn (.func 47) [] [])])]⟩
def zwv_6_1_3 (ws xs : List Int) (k w : Int) : St := ⟨[(4,(.ptr 1 0 0 0)),(7,(.ptr 2 0 0 0)),(9,(i6 (wvF 6 ws k w))),(46,(i6 (wvF 6 ws k w)))],[(.var 61 [(LI ws),(LI xs),(i6 k),(i6 w)]),(.var 57 [(i6 0),(.v .nilf),(.v .nilf)]),(.var 57 [(i6 2),(.fn (.func 43) [] []),(.fn (.func 47) [] [])])]⟩
def zwv_6_1_4 (ws xs : List Int) (k w : Int) : St := ⟨[(4,(.ptr 1 0 0 0)),(7,(.ptr 2 0 0 0)),(9,(i6 (wvF 6 ws k w))),(44,(.agg [(i6 2),(.fn (.func 43) [] []),(.fn (.func 47) [] [])])),(45,(i6 (wvF 6 ws k w)))],[(.var 61 [(LI ws),(LI xs),(i6 k),(i6 w)]),(.var 57 [(i6 0),(.v .nilf),(.v .nilf)]),(.var 57 [(i6 2),(.fn (.func 43) [] []),(.fn (.func 47) [] [])])]⟩
def zwv_6_1_5 (ws xs : List Int) (k w : Int) : St := ⟨[(4,(.ptr 1 0 0 0)),(7,(.ptr 2 0 0 0)),(9,(i6 (wvF 6 ws k w))),(44,(.agg [(i6 2),(.fn (.func 43) [] []),(.fn (.func 47) [] [])])),(46,(i6 (wvF 6 ws k w)))],[(.var 61 [(LI ws),(LI xs),(i6 k),(i6 w)]),(.var 57 [(i6 0),(.v .nilf),(.v .nilf)]),(.var 57 [(i6 2),(.fn (.func 43) [] []),(.fn (.func 47) [] [])])]⟩
def zwv_6_1_6 (ws xs : List Int) (k w : Int) : St := ⟨[(4,(.ptr 1 0 0 0)),(7,(.ptr 2 0 0 0)),(9,(i6 (wvF 6 ws k w))),(45,(i6 (wvF 6 ws k w))),(46,(i6 (wvF 6 ws k w)))],[(.var 61 [(LI ws),(LI xs),(i6 k),(i6 w)]),(.var 57 [(i6 0),(.v .nilf),(.v .nilf)]),(.var 57 [(i6 2),(.fn (.func 43) [] []),(.fn (.func 47) [] [])])]⟩
def zwv_6_1_7 (ws xs : List Int) (k w : Int) : St := ⟨[(4,(.ptr 1 0 0 0)),(7,(.ptr 2 0 0 0)),(9,(i6 (wvF 6 ws k w))),(46,(i6 (wvF 6 ws k w))),(47,(dB (fitsF (wvF 6 ws k w))))],[(.var 61 [(LI ws),(LI xs),(i6 k),(i6 w)]),(.var 57 [(i6 0),(.v .nilf),(.v .nilf)]),(.var 57 [(i6 2),(.fn (.func 43) [] []),(.fn (.func 47) [] [])])]⟩
def zwv_6_1_8 (ws xs : List Int) (k w : Int) : St := ⟨[(4,(.ptr 1 0 0 0)),(7,(.ptr 2 0 0 0)),(9,(i6 (wvF 6 ws k w))),(44,(.agg [(i6 2),(.fn (.func 43) [] []),(.fn (.func 47) [] [])])),(45,(i6 (wvF 6 ws k w))),(46,(i6 (wvF 6 ws k w)))],[(.var 61 [(LI ws),(LI xs),(i6 k),(i6 w)]),(.var 57 [(i6 0),(.v .nilf),(.v .nilf)]),(.var 57 [(i6 2),(.fn (.func 43) [] []),(.fn (.func 47) [] [])])]⟩
def zwv_6_1_9 (ws xs : List Int) (k w : Int) : St := ⟨[(4,(.ptr 1 0 0 0)),(7,(.ptr 2 0 0 0)),(9,(i6 (wvF 6 ws k w))),(44,(.agg [(i6 2),(.fn (.func 43) [] []),(.fn (.func 47) [] [])])),(46,(i6 (wvF 6 ws k w))),(47,(dB (fitsF (wvF 6 ws k w))))],[(.var 61 [(LI ws),(LI xs),(i6 k),(i6 w)]),(.var 57 [(i6 0),(.v .nilf),(.v .nilf)]),(.var 57 [(i6 2),(.fn (.func 43) [] []),(.fn (.func 47) [] [])])]⟩
def zwv_6_1_10 (ws xs : List Int) (k w : Int) : St := ⟨[(4,(.ptr 1 0 0 0)),(7,(.ptr 2 0 0 0)),(9,(i6 (wvF 6 ws k w))),(45,(i6 (wvF 6 ws k w))),(46,(i6 (wvF 6 ws k w))),(47,(dB (fitsF (wvF 6 ws k w))))],[(.var 61 [(LI ws),(LI xs),(i6 k),(i6 w)]),(.var 57 [(i6 0),(.v .nilf),(.v .nilf)]),(.var 57 [(i6 2),(.fn (.func 43) [] []),(.fn (.func 47) [] [])])]⟩
def zwv_6_1_11 (ws xs : List Int) (k w : Int) : St := ⟨[(4,(.ptr 1 0 0 0)),(7,(.ptr 2 0 0 0)),(9,(i6 (wvF 6 ws k w))),(44,(.agg [(i6 2),(.fn (.func 43) [] []),(.fn (.func 47) [] [])])),(45,(i6 (wvF 6 ws k w))),(46,(i6 (wvF 6 ws k w))),(47,(dB (fitsF (wvF 6 ws k w))))],[(.var 61 [(LI ws),(LI xs),(i6 k),(i6 w)]),(.var 57 [(i6 0),(.v .nilf),(.v .nilf)]),(.var 57 [(i6 2),(.fn (.func 43) [] []),(.fn (.func 47) [] [])])]⟩
def zwv_6_1_12 (ws xs : List Int) (k w : Int) : St := ⟨[(4,(.ptr 1 0 0 0)),(7,(.ptr 2 0 0 0)),(9,(i6 (wvF 6 ws k w))),(44,(.agg [(i6 2),(.fn (.func 43) [] []),(.fn (.func 47) [] [])])),(46,(i6 (wvF 6 ws k w))),(47,(dB (fitsF (wvF 6 ws k w))))],[(.var 61 [(LI ws),(LI xs),(i6 k),(i6 w)]),(.var 57 [(i6 2),(.fn (.func 43) [] []),(.fn (.func 47) [] [])]),(.var 57 [(i6 2),(.fn (.func 43) [] []),(.fn (.func 47) [] [])])]⟩
def zwv_6_1_13 (ws xs : List Int) (k w : Int) : St := ⟨[(4,(.ptr 1 0 0 0)),(7,(.ptr 2 0 0 0)),(9,(i6 (wvF 6 ws k w))),(44,(.agg [(i6 2),(.fn (.func 43) [] []),(.fn (.func 47) [] [])])),(45,(i6 (wvF 6 ws k w))),(46,(i6 (wvF 6 ws k w))),(47,(dB (fitsF (wvF 6 ws k w))))],[(.var 61 [(LI ws),(LI xs),(i6 k),(i6 w)]),(.var 57 [(i6 2),(.fn (.func 43) [] []),(.fn (.func 47) [] [])]),(.var 57 [(i6 2),(.fn (.func 43) [] []),(.fn (.func 47) [] [])])]⟩
def zwv_6_1_14 (ws xs : List Int) (k w : Int) : St := ⟨[(4,(.ptr 1 0 0 0)),(5,(i6 (wvF 6 ws k w))),(7,(.ptr 2 0 0 0)),(9,(i6 (wvF 6 ws k w))),(44,(.agg [(i6 2),(.fn (.func 43) [] []),(.fn (.func 47) [] [])])),(45,(i6 (wvF 6 ws k w))),(46,(i6 (wvF 6 ws k w))),(47,(dB (fitsF (wvF 6 ws k w))))],[(.var 61 [(LI ws),(LI xs),(i6 k),(i6 w)]),(.var 57 [(i6 2),(.fn (.func 43) [] []),(.fn (.func 47) [] [])]),(.var 57 [(i6 2),(.fn (.func 43) [] []),(.fn (.func 47) [] [])])]⟩
def zwv_6_1_15 (ws xs : List Int) (k w : Int) : St := ⟨[(4,(.ptr 1 0 0 0)),(5,(i6 (wvF 6 ws k w))),(6,(dB false))],[(.var 61 [(LI ws),(LI xs),(i6 k),(i6 w)]),(.var 57 [(i6 2),(.fn (.func 43) [] []),(.fn (.func 47) [] [])]),(.var 57 [(i6 2),(.fn (.func 43) [] []),(.fn (.func 47) [] [])])]⟩
set_option maxRecDepth 100000 in
theorem width_wv_6 (ws xs : List Int) (k w : Int) (hw : ws.length ≤ 9223372036854775807) (h : okB 6 ws = true) (h3 : fitsF (wvF 6 ws k w) = false) : CallOk Try.prog 27 [(i6 6),(.agg [(LI ws),(LI xs),(i6 k),(i6 w)])] [] true (.tup [(.agg [(i6 2),(.fn (.func 43) [] []),(.fn (.func 47) [] [])]),(i6 (wvF 6 ws k w)),(dB false)]) [] := by
  refine CallOk.of_ev Try.func27 rfl rfl rfl ?_
  rintro ⟨_,W,S0,_,susp,_⟩ rfl rfl rfl
  obtain ⟨h1,h2⟩ := okB_yes h
  have hA : arityF 6 = 2 := by decide
  rw [hA] at h1
  refine Ev.seq ?_
  refine Ev.reg [] [0,3,4] (st' := ⟨[(0,(i6 6)),(3,(.ptr 0 0 0 0)),(4,(.ptr 1 0 0 0))],[(.var 61 [(LI ws),(LI xs),(i6 k),(i6 w)]),(.var 57 [(i6 0),(.v .nilf),(.v .nilf)])]⟩)
    (p := True∧True∧True∧True∧True) (by kernel_rfl)
    ⟨⟨⟩,⟨⟩,⟨⟩,⟨⟩,⟨⟩⟩ ?_
  refine Ev.seq ?_
  refine Ev.reg [(0,.call none false (.v (.mp simpleM))),(2,.idx (some 4))] [0,3,4,7,8] (st' := ⟨[(0,(i6 6)),(3,(.ptr 0 0 0 0)),(4,(.ptr 1 0 0 0)),(7,(.ptr 2 0 0 0)),(8,(dB true))],[(.var 61 [(LI ws),(LI xs),(i6 k),(i6 w)]),(.var 57 [(i6 0),(.v .nilf),(.v .nilf)]),(.var 57 [(i6 2),(.fn (.func 43) [] []),(.fn (.func 47) [] [])])]⟩)
    (p := callOb Try.prog 33 [(.var 61 [(LI ws),(LI xs),(i6 k),(i6 w)]),(.var 57 [(i6 0),(.v .nilf),(.v .nilf)])] [] none false (.v (.mp simpleM))∧True∧((6 : Int) = 6∧∀ e' ∈ simpleM.take 4,(6 : Int) ≠ e'.1)∧True∧True∧True∧True∧True∧True∧True) (by kernel_rfl)
    ⟨simple_ok,⟨⟩,(by decide),⟨⟩,⟨⟩,⟨⟩,⟨⟩,⟨⟩,⟨⟩,⟨⟩⟩ ?_
  refine Ev.seq ?_
  refine Ev.seq ?_
  refine Ev.reg [] [0,3,4,7,8,17] (st' := ⟨[(0,(i6 6)),(3,(.ptr 0 0 0 0)),(4,(.ptr 1 0 0 0)),(7,(.ptr 2 0 0 0)),(8,(dB true)),(17,(dB false))],[(.var 61 [(LI ws),(LI xs),(i6 k),(i6 w)]),(.var 57 [(i6 0),(.v .nilf),(.v .nilf)]),(.var 57 [(i6 2),(.fn (.func 43) [] []),(.fn (.func 47) [] [])])]⟩)
    (p := True∧True∧True) (by kernel_rfl)
    ⟨⟨⟩,⟨⟩,⟨⟩⟩ ?_
  refine Ev.cond false rfl (fun h => (by cases h)) (fun _ => ?_)
  refine Ev.skip ?_
  refine Ev.seq ?_
  refine Ev.seq ?_
  refine Ev.reg [(8,.val (dB false)),(13,.call none false (dB (!(ws.all fitsF)))),(14,.val (dB false))] [3,4,7,38] (st' := ⟨[(3,(.ptr 0 0 0 0)),(4,(.ptr 1 0 0 0)),(7,(.ptr 2 0 0 0)),(38,(dB false))],[(.var 61 [(LI ws),(LI xs),(i6 k),(i6 w)]),(.var 57 [(i6 0),(.v .nilf),(.v .nilf)]),(.var 57 [(i6 2),(.fn (.func 43) [] []),(.fn (.func 47) [] [])])]⟩)
    (p := True∧True∧True∧True∧True∧True∧True∧True∧(True∧(((ws.length : Nat) : Int) != 2) = false)∧True∧True∧True∧True∧callOb Try.prog 35 [(.var 61 [(LI ws),(LI xs),(i6 k),(i6 w)]),(.var 57 [(i6 0),(.v .nilf),(.v .nilf)]),(.var 57 [(i6 2),(.fn (.func 43) [] []),(.fn (.func 47) [] [])])] [(LI ws),(.fn (.func 36) [] [])] none false (dB (!(ws.all fitsF)))∧(True∧(!(ws.all fitsF)) = false)∧True) (by kernel_rfl)
    ⟨⟨⟩,⟨⟩,⟨⟩,⟨⟩,⟨⟩,⟨⟩,⟨⟩,⟨⟩,⟨⟨⟩,(by rw [h1]; rfl)⟩,⟨⟩,⟨⟩,⟨⟩,⟨⟩,(contains_ok _ (by first | omega | (simp; first | done | omega))),⟨⟨⟩,(by rw [h2]; rfl)⟩,⟨⟩⟩ ?_
  refine Ev.cond false rfl (fun h => (by cases h)) (fun _ => ?_)
  refine Ev.skip ?_
  refine Ev.seq ?_
  refine Ev.reg [(3,.call none false (i6 (alikeF ws))),(4,.val (i6 (wvF 6 ws k w)))] [4,7,9] (st' := ⟨[(4,(.ptr 1 0 0 0)),(7,(.ptr 2 0 0 0)),(9,(i6 (wvF 6 ws k w)))],[(.var 61 [(LI ws),(LI xs),(i6 k),(i6 w)]),(.var 57 [(i6 0),(.v .nilf),(.v .nilf)]),(.var 57 [(i6 2),(.fn (.func 43) [] []),(.fn (.func 47) [] [])])]⟩)
    (p := True∧True∧True∧callOb Try.prog 43 [(.var 61 [(LI ws),(LI xs),(i6 k),(i6 w)]),(.var 57 [(i6 0),(.v .nilf),(.v .nilf)]),(.var 57 [(i6 2),(.fn (.func 43) [] []),(.fn (.func 47) [] [])])] [(.agg [(LI ws),(LI xs),(i6 k),(i6 w)])] none false (i6 (alikeF ws))∧(True∧(alikeF ws) = (wvF 6 ws k w))∧True) (by kernel_rfl)
    ⟨⟨⟩,⟨⟩,⟨⟩,(alike_ok _ _ _ _ (by omega) (by assumption)),⟨⟨⟩,(by first | rfl | simp [wvF])⟩,⟨⟩⟩ ?_
  refine Ev.seq ?_
  refine Ev.any [(3,.call none false (dB (fitsF (wvF 6 ws k w)))),(6,.val (dB false))] [((bm 7 0),(zwv_6_1_0 ws xs k w)),((bm 7 1),(zwv_6_1_1 ws xs k w)),((bm 7 2),(zwv_6_1_2 ws xs k w)),((bm 7 4),(zwv_6_1_3 ws xs k w)),((bm 7 3),(zwv_6_1_4 ws xs k w)),((bm 7 5),(zwv_6_1_5 ws xs k w)),((bm 7 6),(zwv_6_1_6 ws xs k w)),((bm 7 12),(zwv_6_1_7 ws xs k w)),((bm 7 7),(zwv_6_1_8 ws xs k w)),((bm 7 13),(zwv_6_1_9 ws xs k w)),((bm 7 14),(zwv_6_1_10 ws xs k w)),((bm 7 15),(zwv_6_1_11 ws xs k w)),((bm 7 29),(zwv_6_1_12 ws xs k w)),((bm 7 31),(zwv_6_1_13 ws xs k w)),((bm 7 63),(zwv_6_1_14 ws xs k w)),((bm 7 127),(zwv_6_1_15 ws xs k w))] (st0 := (zwv_6_1_0 ws xs k w)) (st' := ⟨[(4,(.ptr 1 0 0 0)),(5,(i6 (wvF 6 ws k w))),(6,(dB false))],[(.var 61 [(LI ws),(LI xs),(i6 k),(i6 w)]),(.var 57 [(i6 2),(.fn (.func 43) [] []),(.fn (.func 47) [] [])]),(.var 57 [(i6 2),(.fn (.func 43) [] []),(.fn (.func 47) [] [])])]⟩)
    (p := ((((zwv_6_1_1 ws xs k w) : St) = (zwv_6_1_1 ws xs k w)∧True∧True)∧(((zwv_6_1_2 ws xs k w) : St) = (zwv_6_1_2 ws xs k w)∧True∧True)∧(((zwv_6_1_3 ws xs k w) : St) = (zwv_6_1_3 ws xs k w)∧True∧True)∧True)∧((((zwv_6_1_4 ws xs k w) : St) = (zwv_6_1_4 ws xs k w)∧True∧True)∧(((zwv_6_1_5 ws xs k w) : St) = (zwv_6_1_5 ws xs k w)∧True∧True)∧True)∧((((zwv_6_1_4 ws xs k w) : St) = (zwv_6_1_4 ws xs k w)∧True∧True)∧(((zwv_6_1_6 ws xs k w) : St) = (zwv_6_1_6 ws xs k w)∧True∧True)∧True)∧((((zwv_6_1_5 ws xs k w) : St) = (zwv_6_1_5 ws xs k w)∧True∧True)∧(((zwv_6_1_6 ws xs k w) : St) = (zwv_6_1_6 ws xs k w)∧True∧True)∧(((zwv_6_1_7 ws xs k w) : St) = (zwv_6_1_7 ws xs k w)∧callOb Try.prog 37 [(.var 61 [(LI ws),(LI xs),(i6 k),(i6 w)]),(.var 57 [(i6 0),(.v .nilf),(.v .nilf)]),(.var 57 [(i6 2),(.fn (.func 43) [] []),(.fn (.func 47) [] [])])] [(i6 (wvF 6 ws k w))] none false (dB (fitsF (wvF 6 ws k w)))∧True)∧True)∧((((zwv_6_1_8 ws xs k w) : St) = (zwv_6_1_8 ws xs k w)∧True∧True)∧True)∧((((zwv_6_1_8 ws xs k w) : St) = (zwv_6_1_8 ws xs k w)∧True∧True)∧(((zwv_6_1_9 ws xs k w) : St) = (zwv_6_1_9 ws xs k w)∧callOb Try.prog 37 [(.var 61 [(LI ws),(LI xs),(i6 k),(i6 w)]),(.var 57 [(i6 0),(.v .nilf),(.v .nilf)]),(.var 57 [(i6 2),(.fn (.func 43) [] []),(.fn (.func 47) [] [])])] [(i6 (wvF 6 ws k w))] none false (dB (fitsF (wvF 6 ws k w)))∧True)∧True)∧((((zwv_6_1_8 ws xs k w) : St) = (zwv_6_1_8 ws xs k w)∧True∧True)∧(((zwv_6_1_10 ws xs k w) : St) = (zwv_6_1_10 ws xs k w)∧callOb Try.prog 37 [(.var 61 [(LI ws),(LI xs),(i6 k),(i6 w)]),(.var 57 [(i6 0),(.v .nilf),(.v .nilf)]),(.var 57 [(i6 2),(.fn (.func 43) [] []),(.fn (.func 47) [] [])])] [(i6 (wvF 6 ws k w))] none false (dB (fitsF (wvF 6 ws k w)))∧True)∧True)∧((((zwv_6_1_9 ws xs k w) : St) = (zwv_6_1_9 ws xs k w)∧True∧True)∧(((zwv_6_1_10 ws xs k w) : St) = (zwv_6_1_10 ws xs k w)∧True∧True)∧True)∧((((zwv_6_1_11 ws xs k w) : St) = (zwv_6_1_11 ws xs k w)∧callOb Try.prog 37 [(.var 61 [(LI ws),(LI xs),(i6 k),(i6 w)]),(.var 57 [(i6 0),(.v .nilf),(.v .nilf)]),(.var 57 [(i6 2),(.fn (.func 43) [] []),(.fn (.func 47) [] [])])] [(i6 (wvF 6 ws k w))] none false (dB (fitsF (wvF 6 ws k w)))∧True)∧True)∧((((zwv_6_1_11 ws xs k w) : St) = (zwv_6_1_11 ws xs k w)∧True∧True)∧(((zwv_6_1_12 ws xs k w) : St) = (zwv_6_1_12 ws xs k w)∧True∧True)∧True)∧((((zwv_6_1_11 ws xs k w) : St) = (zwv_6_1_11 ws xs k w)∧True∧True)∧True)∧((((zwv_6_1_13 ws xs k w) : St) = (zwv_6_1_13 ws xs k w)∧True∧True)∧True)∧((((zwv_6_1_13 ws xs k w) : St) = (zwv_6_1_13 ws xs k w)∧True∧True)∧True)∧((((zwv_6_1_14 ws xs k w) : St) = (zwv_6_1_14 ws xs k w)∧True∧True)∧True)∧((((zwv_6_1_15 ws xs k w) : St) = (zwv_6_1_15 ws xs k w)∧(True∧(fitsF (wvF 6 ws k w)) = false)∧True)∧True)∧True∧True) (by kernel_rfl) (by kernel_rfl) (by kernel_rfl) (by kernel_rfl) (by kernel_rfl) (by kernel_rfl)
    ⟨⟨⟨rfl,⟨⟩,⟨⟩⟩,⟨rfl,⟨⟩,⟨⟩⟩,⟨rfl,⟨⟩,⟨⟩⟩,⟨⟩⟩,⟨⟨rfl,⟨⟩,⟨⟩⟩,⟨rfl,⟨⟩,⟨⟩⟩,⟨⟩⟩,⟨⟨rfl,⟨⟩,⟨⟩⟩,⟨rfl,⟨⟩,⟨⟩⟩,⟨⟩⟩,⟨⟨rfl,⟨⟩,⟨⟩⟩,⟨rfl,⟨⟩,⟨⟩⟩,⟨rfl,(fits_ok _),⟨⟩⟩,⟨⟩⟩,⟨⟨rfl,⟨⟩,⟨⟩⟩,⟨⟩⟩,⟨⟨rfl,⟨⟩,⟨⟩⟩,⟨rfl,(fits_ok _),⟨⟩⟩,⟨⟩⟩,⟨⟨rfl,⟨⟩,⟨⟩⟩,⟨rfl,(fits_ok _),⟨⟩⟩,⟨⟩⟩,⟨⟨rfl,⟨⟩,⟨⟩⟩,⟨rfl,⟨⟩,⟨⟩⟩,⟨⟩⟩,⟨⟨rfl,(fits_ok _),⟨⟩⟩,⟨⟩⟩,⟨⟨rfl,⟨⟩,⟨⟩⟩,⟨rfl,⟨⟩,⟨⟩⟩,⟨⟩⟩,⟨⟨rfl,⟨⟩,⟨⟩⟩,⟨⟩⟩,⟨⟨rfl,⟨⟩,⟨⟩⟩,⟨⟩⟩,⟨⟨rfl,⟨⟩,⟨⟩⟩,⟨⟩⟩,⟨⟨rfl,⟨⟩,⟨⟩⟩,⟨⟩⟩,⟨⟨rfl,⟨⟨⟩,(by first | exact h3 | simpa [wvF] using h3)⟩,⟨⟩⟩,⟨⟩⟩,⟨⟩,⟨⟩⟩ ?_
  refine Ev.ret ?_
  refine ⟨⟨⟨⟩,⟨⟩,⟨⟩,⟨⟩⟩,(?_ : ((2 : Int) = 2∧((.fn (.func 43) [] []) : D) = (.fn (.func 43) [] [])∧((.fn (.func 47) [] []) : D) = (.fn (.func 47) [] [])∧True)∧(wvF 6 ws k w) = (wvF 6 ws k w)∧false = false∧True),.inl rfl⟩
  exact ⟨⟨rfl,rfl,rfl,⟨⟩⟩,rfl,rfl,⟨⟩⟩

def zg_7_1_0 (ws xs : List Int) (k w : Int) : St := ⟨[(4,(.ptr 1 0 0 0)),(7,(.ptr 2 0 0 0)),(9,(i6 (wvF 7 ws k w)))],[(.var 61 [(LI ws),(LI xs),(i6 k),(i6 w)]),(.var 57 [(i6 0),(.v .nilf),(.v .nilf)]),(.var 57 [(i6 2),(.fn (.func 43) [] []),(.fn (.func 48) [] [])])]⟩
def zg_7_1_1 (ws xs : List Int) (k w : Int) : St := ⟨[(4,(.ptr 1 0 0 0)),(7,(.ptr 2 0 0 0)),(9,(i6 (wvF 7 ws k w))),(44,(.agg [(i6 2),(.fn (.func 43) [] []),(.fn (.func 48) [] [])]))],[(.var 61 [(LI ws),(LI xs),(i6 k),(i6 w)]),(.var 57 [(i6 0),(.v .nilf),(.v .nilf)]),(.var 57 [(i6 2),(.fn (.func 43) [] []),(.fn (.func 48) [] [])])]⟩
def zg_7_1_2 (ws xs : List Int) (k w : Int) : St := ⟨[(4,(.ptr 1 0 0 0)),(7,(.ptr 2 0 0 0)),(9,(i6 (wvF 7 ws k w))),(45,(i6 (wvF 7 ws k w)))],[(.var 61 [(LI ws),(LI xs),(i6 k),(i6 w)]),(.var 57 [(i6 0),(.v .nilf),(.v .nilf)]),(.var 57 [(i6 2),(.fn (.func 43) [] []),(.fn (.func 48) [] [])])]⟩
def zg_7_1_3 (ws xs : List Int) (k w : Int) : St := ⟨[(4,(.ptr 1 0 0 0)),(7,(.ptr 2 0 0 0)),(9,(i6 (wvF 7 ws k w))),(46,(i6 (wvF 7 ws k w)))],[(.var 61 [(LI ws),(LI xs),(i6 k),(i6 w)]),(.var 57 [(i6 0),(.v .nilf),(.v .nilf)]),(.var 57 [(i6 2),(.fn (.func 43) [] []),(.fn (.func 48) [] [])])]⟩
def zg_7_1_4 (ws xs : List Int) (k w : Int) : St := ⟨[(4,(.ptr 1 0 0 0)),(7,(.ptr 2 0 0 0)),(9,(i6 (wvF 7 ws k w))),(44,(.agg [(i6 2),(.fn (.func 43) [] []),(.fn (.func 48) [] [])])),(45,(i6 (wvF 7 ws k w)))],[(.var 61 [(LI ws),(LI xs),(i6 k),(i6 w)]),(.var 57 [(i6 0),(.v .nilf),(.v .nilf)]),(.var 57 [(i6 2),(.fn (.func 43) [] []),(.fn (.func 48) [] [])])]⟩
def zg_7_1_5 (ws xs : List Int) (k w : Int) : St := ⟨[(4,(.ptr 1 0 0 0)),(7,(.ptr 2 0 0 0)),(9,(i6 (wvF 7 ws k w))),(44,(.agg [(i6 2),(.fn (.func 43) [] []),(.fn (.func 48) [] [])])),(46,(i6 (wvF 7 ws k w)))],[(.var 61 [(LI ws),(LI xs),(i6 k),(i6 w)]),(.var 57 [(i6 0),(.v .nilf),(.v .nilf)]),(.var 57 [(i6 2),(.fn (.func 43) [] []),(.fn (.func 48) [] [])])]⟩
def zg_7_1_6 (ws xs : List Int) (k w : Int) : St := ⟨[(4,(.ptr 1 0 0 0)),(7,(.ptr 2 0 0 0)),(9,(i6 (wvF 7 ws k w))),(45,(i6 (wvF 7 ws k w))),(46,(i6 (wvF 7 ws k w)))],[(.var 61 [(LI ws),(LI xs),(i6 k),(i6 w)]),(.var 57 [(i6 0),(.v .nilf),(.v .nilf)]),(.var 57 [(i6 2),(.fn (.func 43) [] []),(.fn (.func 48) [] [])])]⟩
def zg_7_1_7 (ws xs : List Int) (k w : Int) : St := ⟨[(4,(.ptr 1 0 0 0)),(7,(.ptr 2 0 0 0)),(9,(i6 (wvF 7 ws k w))),(46,(i6 (wvF 7 ws k w))),(47,(dB (fitsF (wvF 7 ws k w))))],[(.var 61 [(LI ws),(LI xs),(i6 k),(i6 w)]),(.var 57 [(i6 0),(.v .nilf),(.v .nilf)]),(.var 57 [(i6 2),(.fn (.func 43) [] []),(.fn (.func 48) [] [])])]⟩
def zg_7_1_8 (ws xs : List Int) (k w : Int) : St := ⟨[(4,(.ptr 1 0 0 0)),(7,(.ptr 2 0 0 0)),(9,(i6 (wvF 7 ws k w))),(44,(.agg [(i6 2),(.fn (.func 43) [] []),(.fn (.func 48) [] [])])),(45,(i6 (wvF 7 ws k w))),(46,(i6 (wvF 7 ws k w)))],[(.var 61 [(LI ws),(LI xs),(i6 k),(i6 w)]),(.var 57 [(i6 0),(.v .nilf),(.v .nilf)]),(.var 57 [(i6 2),(.fn (.func 43) [] []),(.fn (.func 48) [] [])])]⟩
def zg_7_1_9 (ws xs : List Int) (k w : Int) : St := ⟨[(4,(.ptr 1 0 0 0)),(7,(.ptr 2 0 0 0)),(9,(i6 (wvF 7 ws k w))),(44,(.agg [(i6 2),(.fn (.func 43) [] []),(.fn (.func 48) [] [])])),(46,(i6 (wvF 7 ws k w))),(47,(dB (fitsF (wvF 7 ws k w))))],[(.var 61 [(LI ws),(LI xs),(i6 k),(i6 w)]),(.var 57 [(i6 0),(.v .nilf),(.v .nilf)]),(.var 57 [(i6 2),(.fn (.func 43) [] []),(.fn (.func 48) [] [])])]⟩
def zg_7_1_10 (ws xs : List Int) (k w : Int) : St := ⟨[(4,(.ptr 1 0 0 0)),(7,(.ptr 2 0 0 0)),(9,(i6 (wvF 7 ws k w))),(45,(i6 (wvF 7 ws k w))),(46,(i6 (wvF 7 ws k w))),(47,(dB (fitsF (wvF 7 ws k w))))],[(.var 61 [(LI ws),(LI xs),(i6 k),(i6 w)]),(.var 57 [(i6 0),(.v .nilf),(.v .nilf)]),(.var 57 [(i6 2),(.fn (.func 43) [] []),(.fn (.func 48) [] [])])]⟩
def zg_7_1_11 (ws xs : List Int) (k w : Int) : St := ⟨[(4,(.ptr 1 0 0 0)),(7,(.ptr 2 0 0 0)),(9,(i6 (wvF 7 ws k w))),(44,(.agg [(i6 2),(.fn (.func 43) [] []),(.fn (.func 48) [] [])])),(45,(i6 (wvF 7 ws k w))),(46,(i6 (wvF 7 ws k w))),(47,(dB (fitsF (wvF 7 ws k w))))],[(.var 61 [(LI ws),(LI xs),(i6 k),(i6 w)]),(.var 57 [(i6 0),(.v .nilf),(.v .nilf)]),(.var 57 [(i6 2),(.fn (.func 43) [] []),(.fn (.func 48) [] [])])]⟩
def zg_7_1_12 (ws xs : List Int) (k w : Int) : St := ⟨[(4,(.ptr 1 0 0 0)),(7,(.ptr 2 0 0 0)),(9,(i6 (wvF 7 ws k w))),(44,(.agg [(i6 2),(.fn (.func 43) [] []),(.fn (.func 48) [] [])])),(46,(i6 (wvF 7 ws k w))),(47,(dB (fitsF (wvF 7 ws k w))))],[(.var 61 [(LI ws),(LI xs),(i6 k),(i6 w)]),(.var 57 [(i6 2),(.fn (.func 43) [] []),(.fn (.func 48) [] [])]),(.var 57 [(i6 2),(.fn (.func 43) [] []),(.fn (.func 48) [] [])])]⟩
def zg_7_1_13 (ws xs : List Int) (k w : Int) : St := ⟨[(4,(.ptr 1 0 0 0)),(7,(.ptr 2 0 0 0)),(9,(i6 (wvF 7 ws k w))),(44,(.agg [(i6 2),(.fn (.func 43) [] []),(.fn (.func 48) [] [])])),(45,(i6 (wvF 7 ws k w))),(46,(i6 (wvF 7 ws k w))),(47,(dB (fitsF (wvF 7 ws k w))))],[(.var 61 [(LI ws),(LI xs),(i6 k),(i6 w)]),(.var 57 [(i6 2),(.fn (.func 43) [] []),(.fn (.func 48) [] [])]),(.var 57 [(i6 2),(.fn (.func 43) [] []),(.fn (.func 48) [] [])])]⟩
def zg_7_1_14 (ws xs : List Int) (k w : Int) : St := ⟨[(4,(.ptr 1 0 0 0)),(5,(i6 (wvF 7 ws k w))),(7,(.ptr 2 0 0 0)),(9,(i6 (wvF 7 ws k w))),(44,(.agg [(i6 2),(.fn (.func 43) [] []),(.fn (.func 48) [] [])])),(45,(i6 (wvF 7 ws k w))),(46,(i6 (wvF 7 ws k w))),(47,(dB (fitsF (wvF 7 ws k w))))],[(.var 61 [(LI ws),(LI xs),(i6 k),(i6 w)]),(.var 57 [(i6 2),(.fn (.func 43) [] []),(.fn (.func 48) [] [])]),(.var 57 [(i6 2),(.fn (.func 43) [] []),(.fn (.func 48) [] [])])]⟩
def zg_7_1_15 (ws xs : List Int) (k w : Int) : St := ⟨[(4,(.ptr 1 0 0 0)),(5,(i6 (wvF 7 ws k w))),(6,(dB true))],[(.var 61 [(LI ws),(LI xs),(i6 k),(i6 w)]),(.var 57 [(i6 2),(.fn (.func 43) [] []),(.fn (.func 48) [] [])]),(.var 57 [(i6 2),(.fn (.func 43) [] []),(.fn (.func 48) [] [])])]⟩
set_option maxRecDepth 100000 in
theorem width_good_7 (ws xs : List Int) (k w : Int) (hw : ws.length ≤ 9223372036854775807) (h : okF 7 ws k w = true) : CallOk Try.prog 27 [(i6 7),(.agg [(LI ws),(LI xs),(i6 k),(i6 w)])] [] true (.tup [(.agg [(i6 2),(.fn (.func 43) [] []),(.fn (.func 48) [] [])]),(i6 (wvF 7 ws k w)),(dB true)]) [] := by
  refine CallOk.of_ev Try.func27 rfl rfl rfl ?_
  rintro ⟨_,W,S0,_,susp,_⟩ rfl rfl rfl
  obtain ⟨h1,h2,h3⟩ := ok_yes h
  have hA : arityF 7 = 2 := by decide
  rw [hA] at h1
  refine Ev.seq ?_
  refine Ev.reg [] [0,3,4] (st' := ⟨[(0,(i6 7)),(3,(.ptr 0 0 0 0)),(4,(.ptr 1 0 0 0))],[(.var 61 [(LI ws),(LI xs),(i6 k),(i6 w)]),(.var 57 [(i6 0),(.v .nilf),(.v .nilf)])]⟩)
    (p := True∧True∧True∧True∧True) (by kernel_rfl)
    ⟨⟨⟩,⟨⟩,⟨⟩,⟨⟩,⟨⟩⟩ ?_
  refine Ev.seq ?_
  refine Ev.reg [(0,.call none false (.v (.mp simpleM))),(2,.idx (some 5))] [0,3,4,7,8] (st' := ⟨[(0,(i6 7)),(3,(.ptr 0 0 0 0)),(4,(.ptr 1 0 0 0)),(7,(.ptr 2 0 0 0)),(8,(dB true))],[(.var 61 [(LI ws),(LI xs),(i6 k),(i6 w)]),(.var 57 [(i6 0),(.v .nilf),(.v .nilf)]),(.var 57 [(i6 2),(.fn (.func 43) [] []),(.fn (.func 48) [] [])])]⟩)
    (p := callOb Try.prog 33 [(.var 61 [(LI ws),(LI xs),(i6 k),(i6 w)]),(.var 57 [(i6 0),(.v .nilf),(.v .nilf)])] [] none false (.v (.mp simpleM))∧True∧((7 : Int) = 7∧∀ e' ∈ simpleM.take 5,(7 : Int) ≠ e'.1)∧True∧True∧True∧True∧True∧True∧True) (by kernel_rfl)
    ⟨simple_ok,⟨⟩,(by decide),⟨⟩,⟨⟩,⟨⟩,⟨⟩,⟨⟩,⟨⟩,⟨⟩⟩ ?_
  refine Ev.seq ?_
  refine Ev.seq ?_
  refine Ev.reg [] [0,3,4,7,8,17] (st' := ⟨[(0,(i6 7)),(3,(.ptr 0 0 0 0)),(4,(.ptr 1 0 0 0)),(7,(.ptr 2 0 0 0)),(8,(dB true)),(17,(dB false))],[(.var 61 [(LI ws),(LI xs),(i6 k),(i6 w)]),(.var 57 [(i6 0),(.v .nilf),(.v .nilf)]),(.var 57 [(i6 2),(.fn (.func 43) [] []),(.fn (.func 48) [] [])])]⟩)
    (p := True∧True∧True) (by kernel_rfl)
    ⟨⟨⟩,⟨⟩,⟨⟩⟩ ?_
  refine Ev.cond false rfl (fun h => (by cases h)) (fun _ => ?_)
  refine Ev.skip ?_
  refine Ev.seq ?_
  refine Ev.seq ?_
  refine Ev.reg [(8,.val (dB false)),(13,.call none false (dB (!(ws.all fitsF)))),(14,.val (dB false))] [3,4,7,38] (st' := ⟨[(3,(.ptr 0 0 0 0)),(4,(.ptr 1 0 0 0)),(7,(.ptr 2 0 0 0)),(38,(dB false))],[(.var 61 [(LI ws),(LI xs),(i6 k),(i6 w)]),(.var 57 [(i6 0),(.v .nilf),(.v .nilf)]),(.var 57 [(i6 2),(.fn (.func 43) [] []),(.fn (.func 48) [] [])])]⟩)
    (p := True∧True∧True∧True∧True∧True∧True∧True∧(True∧(((ws.length : Nat) : Int) != 2) = false)∧True∧True∧True∧True∧callOb Try.prog 35 [(.var 61 [(LI ws),(LI xs),(i6 k),(i6 w)]),(.var 57 [(i6 0),(.v .nilf),(.v .nilf)]),(.var 57 [(i6 2),(.fn (.func 43) [] []),(.fn (.func 48) [] [])])] [(LI ws),(.fn (.func 36) [] [])] none false (dB (!(ws.all fitsF)))∧(True∧(!(ws.all fitsF)) = false)∧True) (by kernel_rfl)
    ⟨⟨⟩,⟨⟩,⟨⟩,⟨⟩,⟨⟩,⟨⟩,⟨⟩,⟨⟩,⟨⟨⟩,(by rw [h1]; rfl)⟩,⟨⟩,⟨⟩,⟨⟩,⟨⟩,(contains_ok _ (by first | omega | (simp; first | done | omega))),⟨⟨⟩,(by rw [h2]; rfl)⟩,⟨⟩⟩ ?_
  refine Ev.cond false rfl (fun h => (by cases h)) (fun _ => ?_)
  refine Ev.skip ?_
  refine Ev.seq ?_
  refine Ev.reg [(3,.call none false (i6 (alikeF ws))),(4,.val (i6 (wvF 7 ws k w)))] [4,7,9] (st' := ⟨[(4,(.ptr 1 0 0 0)),(7,(.ptr 2 0 0 0)),(9,(i6 (wvF 7 ws k w)))],[(.var 61 [(LI ws),(LI xs),(i6 k),(i6 w)]),(.var 57 [(i6 0),(.v .nilf),(.v .nilf)]),(.var 57 [(i6 2),(.fn (.func 43) [] []),(.fn (.func 48) [] [])])]⟩)
    (p := True∧True∧True∧callOb Try.prog 43 [(.var 61 [(LI ws),(LI xs),(i6 k),(i6 w)]),(.var 57 [(i6 0),(.v .nilf),(.v .nilf)]),(.var 57 [(i6 2),(.fn (.func 43) [] []),(.fn (.func 48) [] [])])] [(.agg [(LI ws),(LI xs),(i6 k),(i6 w)])] none false (i6 (alikeF ws))∧(True∧(alikeF ws) = (wvF 7 ws k w))∧True) (by kernel_rfl)
    ⟨⟨⟩,⟨⟩,⟨⟩,(alike_ok _ _ _ _ (by omega) (by assumption)),⟨⟨⟩,(by first | rfl | simp [wvF])⟩,⟨⟩⟩ ?_
  refine Ev.seq ?_
  refine Ev.any [(3,.call none false (dB (fitsF (wvF 7 ws k w)))),(6,.val (dB true))] [((bm 7 0),(zg_7_1_0 ws xs k w)),((bm 7 1),(zg_7_1_1 ws xs k w)),((bm 7 2),(zg_7_1_2 ws xs k w)),((bm 7 4),(zg_7_1_3 ws xs k w)),((bm 7 3),(zg_7_1_4 ws xs k w)),((bm 7 5),(zg_7_1_5 ws xs k w)),((bm 7 6),(zg_7_1_6 ws xs k w)),((bm 7 12),(zg_7_1_7 ws xs k w)),((bm 7 7),(zg_7_1_8 ws xs k w)),((bm 7 13),(zg_7_1_9 ws xs k w)),((bm 7 14),(zg_7_1_10 ws xs k w)),((bm 7 15),(zg_7_1_11 ws xs k w)),((bm 7 29),(zg_7_1_12 ws xs k w)),((bm 7 31),(zg_7_1_13 ws xs k w)),((bm 7 63),(zg_7_1_14 ws xs k w)),((bm 7 127),(zg_7_1_15 ws xs k w))] (st0 := (zg_7_1_0 ws xs k w)) (st' := ⟨[(4,(.ptr 1 0 0 0)),(5,(i6 (wvF 7 ws k w))),(6,(dB true))],[(.var 61 [(LI ws),(LI xs),(i6 k),(i6 w)]),(.var 57 [(i6 2),(.fn (.func 43) [] []),(.fn (.func 48) [] [])]),(.var 57 [(i6 2),(.fn (.func 43) [] []),(.fn (.func 48) [] [])])]⟩)
    (p := ((((zg_7_1_1 ws xs k w) : St) = (zg_7_1_1 ws xs k w)∧True∧True)∧(((zg_7_1_2 ws xs k w) : St) = (zg_7_1_2 ws xs k w)∧True∧True)∧(((zg_7_1_3 ws xs k w) : St) = (zg_7_1_3 ws xs k w)∧True∧True)∧True)∧((((zg_7_1_4 ws xs k w) : St) = (zg_7_1_4 ws xs k w)∧True∧True)∧(((zg_7_1_5 ws xs k w) : St) = (zg_7_1_5 ws xs k w)∧True∧True)∧True)∧((((zg_7_1_4 ws xs k w) : St) = (zg_7_1_4 ws xs k w)∧True∧True)∧(((zg_7_1_6 ws xs k w) : St) = (zg_7_1_6 ws xs k w)∧True∧True)∧True)∧((((zg_7_1_5 ws xs k w) : St) = (zg_7_1_5 ws xs k w)∧True∧True)∧(((zg_7_1_6 ws xs k w) : St) = (zg_7_1_6 ws xs k w)∧True∧True)∧(((zg_7_1_7 ws xs k w) : St) = (zg_7_1_7 ws xs k w)∧callOb Try.prog 37 [(.var 61 [(LI ws),(LI xs),(i6 k),(i6 w)]),(.var 57 [(i6 0),(.v .nilf),(.v .nilf)]),(.var 57 [(i6 2),(.fn (.func 43) [] []),(.fn (.func 48) [] [])])] [(i6 (wvF 7 ws k w))] none false (dB (fitsF (wvF 7 ws k w)))∧True)∧True)∧((((zg_7_1_8 ws xs k w) : St) = (zg_7_1_8 ws xs k w)∧True∧True)∧True)∧((((zg_7_1_8 ws xs k w) : St) = (zg_7_1_8 ws xs k w)∧True∧True)∧(((zg_7_1_9 ws xs k w) : St) = (zg_7_1_9 ws xs k w)∧callOb Try.prog 37 [(.var 61 [(LI ws),(LI xs),(i6 k),(i6 w)]),(.var 57 [(i6 0),(.v .nilf),(.v .nilf)]),(.var 57 [(i6 2),(.fn (.func 43) [] []),(.fn (.func 48) [] [])])] [(i6 (wvF 7 ws k w))] none false (dB (fitsF (wvF 7 ws k w)))∧True)∧True)∧((((zg_7_1_8 ws xs k w) : St) = (zg_7_1_8 ws xs k w)∧True∧True)∧(((zg_7_1_10 ws xs k w) : St) = (zg_7_1_10 ws xs k w)∧callOb Try.prog 37 [(.var 61 [(LI ws),(LI xs),(i6 k),(i6 w)]),(.var 57 [(i6 0),(.v .nilf),(.v .nilf)]),(.var 57 [(i6 2),(.fn (.func 43) [] []),(.fn (.func 48) [] [])])] [(i6 (wvF 7 ws k w))] none false (dB (fitsF (wvF 7 ws k w)))∧True)∧True)∧((((zg_7_1_9 ws xs k w) : St) = (zg_7_1_9 ws xs k w)∧True∧True)∧(((zg_7_1_10 ws xs k w) : St) = (zg_7_1_10 ws xs k w)∧True∧True)∧True)∧((((zg_7_1_11 ws xs k w) : St) = (zg_7_1_11 ws xs k w)∧callOb Try.prog 37 [(.var 61 [(LI ws),(LI xs),(i6 k),(i6 w)]),(.var 57 [(i6 0),(.v .nilf),(.v .nilf)]),(.var 57 [(i6 2),(.fn (.func 43) [] []),(.fn (.func 48) [] [])])] [(i6 (wvF 7 ws k w))] none false (dB (fitsF (wvF 7 ws k w)))∧True)∧True)∧((((zg_7_1_11 ws xs k w) : St) = (zg_7_1_11 ws xs k w)∧True∧True)∧(((zg_7_1_12 ws xs k w) : St) = (zg_7_1_12 ws xs k w)∧True∧True)∧True)∧((((zg_7_1_11 ws xs k w) : St) = (zg_7_1_11 ws xs k w)∧True∧True)∧True)∧((((zg_7_1_13 ws xs k w) : St) = (zg_7_1_13 ws xs k w)∧True∧True)∧True)∧((((zg_7_1_13 ws xs k w) : St) = (zg_7_1_13 ws xs k w)∧True∧True)∧True)∧((((zg_7_1_14 ws xs k w) : St) = (zg_7_1_14 ws xs k w)∧True∧True)∧True)∧((((zg_7_1_15 ws xs k w) : St) = (zg_7_1_15 ws xs k w)∧(True∧(fitsF (wvF 7 ws k w)) = true)∧True)∧True)∧True∧True) (by kernel_rfl) (by kernel_rfl) (by kernel_rfl) (by kernel_rfl) (by kernel_rfl) (by kernel_rfl)
    ⟨⟨⟨rfl,⟨⟩,⟨⟩⟩,⟨rfl,⟨⟩,⟨⟩⟩,⟨rfl,⟨⟩,⟨⟩⟩,⟨⟩⟩,⟨⟨rfl,⟨⟩,⟨⟩⟩,⟨rfl,⟨⟩,⟨⟩⟩,⟨⟩⟩,⟨⟨rfl,⟨⟩,⟨⟩⟩,⟨rfl,⟨⟩,⟨⟩⟩,⟨⟩⟩,⟨⟨rfl,⟨⟩,⟨⟩⟩,⟨rfl,⟨⟩,⟨⟩⟩,⟨rfl,(fits_ok _),⟨⟩⟩,⟨⟩⟩,⟨⟨rfl,⟨⟩,⟨⟩⟩,⟨⟩⟩,⟨⟨rfl,⟨⟩,⟨⟩⟩,⟨rfl,(fits_ok _),⟨⟩⟩,⟨⟩⟩,⟨⟨rfl,⟨⟩,⟨⟩⟩,⟨rfl,(fits_ok _),⟨⟩⟩,⟨⟩⟩,⟨⟨rfl,⟨⟩,⟨⟩⟩,⟨rfl,⟨⟩,⟨⟩⟩,⟨⟩⟩,⟨⟨rfl,(fits_ok _),⟨⟩⟩,⟨⟩⟩,⟨⟨rfl,⟨⟩,⟨⟩⟩,⟨rfl,⟨⟩,⟨⟩⟩,⟨⟩⟩,⟨⟨rfl,⟨⟩,⟨⟩⟩,⟨⟩⟩,⟨⟨rfl,⟨⟩,⟨⟩⟩,⟨⟩⟩,⟨⟨rfl,⟨⟩,⟨⟩⟩,⟨⟩⟩,⟨⟨rfl,⟨⟩,⟨⟩⟩,⟨⟩⟩,⟨⟨rfl,⟨⟨⟩,(by first | exact h3 | simpa [wvF] using h3)⟩,⟨⟩⟩,⟨⟩⟩,⟨⟩,⟨⟩⟩ ?_
  refine Ev.ret ?_
  refine ⟨⟨⟨⟩,⟨⟩,⟨⟩,⟨⟩⟩,(?_ : ((2 : Int) = 2∧((.fn (.func 43) [] []) : D) = (.fn (.func 43) [] [])∧((.fn (.func 48) [] []) : D) = (.fn (.func 48) [] [])∧True)∧(wvF 7 ws k w) = (wvF 7 ws k w)∧true = true∧True),.inl rfl⟩
  exact ⟨⟨rfl,rfl,rfl,⟨⟩⟩,rfl,rfl,⟨⟩⟩

set_option maxRecDepth 100000 in
theorem width_bad_7 (ws xs : List Int) (k w : Int) (hw : ws.length ≤ 9223372036854775807) (h : okB 7 ws = false) : CallOk Try.prog 27 [(i6 7),(.agg [(LI ws),(LI xs),(i6 k),(i6 w)])] [] true (.tup [(.agg [(i6 0),(.v .nilf),(.v .nilf)]),(i6 0),(dB false)]) [] := by
  refine CallOk.of_ev Try.func27 rfl rfl rfl ?_
  rintro ⟨_,W,S0,_,susp,_⟩ rfl rfl rfl
  refine Ev.seq ?_
  refine Ev.reg [] [0,3,4] (st' := ⟨[(0,(i6 7)),(3,(.ptr 0 0 0 0)),(4,(.ptr 1 0 0 0))],[(.var 61 [(LI ws),(LI xs),(i6 k),(i6 w)]),(.var 57 [(i6 0),(.v .nilf),(.v .nilf)])]⟩)
    (p := True∧True∧True∧True∧True) (by kernel_rfl)
    ⟨⟨⟩,⟨⟩,⟨⟩,⟨⟩,⟨⟩⟩ ?_
  refine Ev.seq ?_
  refine Ev.reg [(0,.call none false (.v (.mp simpleM))),(2,.idx (some 5))] [0,3,4,7,8] (st' := ⟨[(0,(i6 7)),(3,(.ptr 0 0 0 0)),(4,(.ptr 1 0 0 0)),(7,(.ptr 2 0 0 0)),(8,(dB true))],[(.var 61 [(LI ws),(LI xs),(i6 k),(i6 w)]),(.var 57 [(i6 0),(.v .nilf),(.v .nilf)]),(.var 57 [(i6 2),(.fn (.func 43) [] []),(.fn (.func 48) [] [])])]⟩)
    (p := callOb Try.prog 33 [(.var 61 [(LI ws),(LI xs),(i6 k),(i6 w)]),(.var 57 [(i6 0),(.v .nilf),(.v .nilf)])] [] none false (.v (.mp simpleM))∧True∧((7 : Int) = 7∧∀ e' ∈ simpleM.take 5,(7 : Int) ≠ e'.1)∧True∧True∧True∧True∧True∧True∧True) (by kernel_rfl)
    ⟨simple_ok,⟨⟩,(by decide),⟨⟩,⟨⟩,⟨⟩,⟨⟩,⟨⟩,⟨⟩,⟨⟩⟩ ?_
  refine Ev.seq ?_
  refine Ev.seq ?_
  refine Ev.reg [] [0,3,4,7,8,17] (st' := ⟨[(0,(i6 7)),(3,(.ptr 0 0 0 0)),(4,(.ptr 1 0 0 0)),(7,(.ptr 2 0 0 0)),(8,(dB true)),(17,(dB false))],[(.var 61 [(LI ws),(LI xs),(i6 k),(i6 w)]),(.var 57 [(i6 0),(.v .nilf),(.v .nilf)]),(.var 57 [(i6 2),(.fn (.func 43) [] []),(.fn (.func 48) [] [])])]⟩)
    (p := True∧True∧True) (by kernel_rfl)
    ⟨⟨⟩,⟨⟩,⟨⟩⟩ ?_
  refine Ev.cond false rfl (fun h => (by cases h)) (fun _ => ?_)
  refine Ev.skip ?_
  refine Ev.seq ?_
  refine Ev.seq ?_
  rcases okB_no h with h1 | ⟨h1,h2⟩
  · skip
    have hA : arityF 7 = 2 := by decide
    rw [hA] at h1
    refine Ev.reg [(8,.val (dB true))] [3,4,7,38] (st' := ⟨[(3,(.ptr 0 0 0 0)),(4,(.ptr 1 0 0 0)),(7,(.ptr 2 0 0 0)),(38,(dB true))],[(.var 61 [(LI ws),(LI xs),(i6 k),(i6 w)]),(.var 57 [(i6 0),(.v .nilf),(.v .nilf)]),(.var 57 [(i6 2),(.fn (.func 43) [] []),(.fn (.func 48) [] [])])]⟩)
      (p := True∧True∧True∧True∧True∧True∧True∧True∧(True∧(((ws.length : Nat) : Int) != 2) = true)∧True∧True∧True∧True∧True∧True∧True) (by kernel_rfl)
      ⟨⟨⟩,⟨⟩,⟨⟩,⟨⟩,⟨⟩,⟨⟩,⟨⟩,⟨⟩,⟨⟨⟩,(by exact bne_iff_ne.2 (by omega))⟩,⟨⟩,⟨⟩,⟨⟩,⟨⟩,⟨⟩,⟨⟩,⟨⟩⟩ ?_
    refine Ev.cond true rfl (fun _ => ?_) (fun h => (by cases h))
    refine Ev.seq ?_
    refine Ev.reg [] [4,5,6] (st' := ⟨[(4,(.ptr 1 0 0 0)),(5,(i6 0)),(6,(dB false))],[(.var 61 [(LI ws),(LI xs),(i6 k),(i6 w)]),(.var 57 [(i6 0),(.v .nilf),(.v .nilf)]),(.var 57 [(i6 2),(.fn (.func 43) [] []),(.fn (.func 48) [] [])])]⟩)
      (p := True∧True∧True∧True∧True) (by kernel_rfl)
      ⟨⟨⟩,⟨⟩,⟨⟩,⟨⟩,⟨⟩⟩ ?_
    refine Ev.ret ?_
    refine ⟨⟨⟨⟩,⟨⟩,⟨⟩,⟨⟩⟩,(?_ : ((0 : Int) = 0∧True∧True∧True)∧(0 : Int) = 0∧false = false∧True),.inl rfl⟩
    exact ⟨⟨rfl,⟨⟩,⟨⟩,⟨⟩⟩,rfl,rfl,⟨⟩⟩
  · skip
    have hA : arityF 7 = 2 := by decide
    rw [hA] at h1
    refine Ev.reg [(8,.val (dB false)),(13,.call none false (dB (!(ws.all fitsF)))),(14,.val (dB true))] [3,4,7,38] (st' := ⟨[(3,(.ptr 0 0 0 0)),(4,(.ptr 1 0 0 0)),(7,(.ptr 2 0 0 0)),(38,(dB true))],[(.var 61 [(LI ws),(LI xs),(i6 k),(i6 w)]),(.var 57 [(i6 0),(.v .nilf),(.v .nilf)]),(.var 57 [(i6 2),(.fn (.func 43) [] []),(.fn (.func 48) [] [])])]⟩)
      (p := True∧True∧True∧True∧True∧True∧True∧True∧(True∧(((ws.length : Nat) : Int) != 2) = false)∧True∧True∧True∧True∧callOb Try.prog 35 [(.var 61 [(LI ws),(LI xs),(i6 k),(i6 w)]),(.var 57 [(i6 0),(.v .nilf),(.v .nilf)]),(.var 57 [(i6 2),(.fn (.func 43) [] []),(.fn (.func 48) [] [])])] [(LI ws),(.fn (.func 36) [] [])] none false (dB (!(ws.all fitsF)))∧(True∧(!(ws.all fitsF)) = true)∧True) (by kernel_rfl)
      ⟨⟨⟩,⟨⟩,⟨⟩,⟨⟩,⟨⟩,⟨⟩,⟨⟩,⟨⟩,⟨⟨⟩,(by rw [h1]; rfl)⟩,⟨⟩,⟨⟩,⟨⟩,⟨⟩,(contains_ok _ (by first | omega | (simp; first | done | omega))),⟨⟨⟩,(by rw [h2]; rfl)⟩,⟨⟩⟩ ?_
    refine Ev.cond true rfl (fun _ => ?_) (fun h => (by cases h))
    refine Ev.seq ?_
    refine Ev.reg [] [4,5,6] (st' := ⟨[(4,(.ptr 1 0 0 0)),(5,(i6 0)),(6,(dB false))],[(.var 61 [(LI ws),(LI xs),(i6 k),(i6 w)]),(.var 57 [(i6 0),(.v .nilf),(.v .nilf)]),(.var 57 [(i6 2),(.fn (.func 43) [] []),(.fn (.func 48) [] [])])]⟩)
      (p := True∧True∧True∧True∧True) (by kernel_rfl)
      ⟨⟨⟩,⟨⟩,⟨⟩,⟨⟩,⟨⟩⟩ ?_
    refine Ev.ret ?_
    refine ⟨⟨⟨⟩,⟨⟩,⟨⟩,⟨⟩⟩,(?_ : ((0 : Int) = 0∧True∧True∧True)∧(0 : Int) = 0∧false = false∧True),.inl rfl⟩
    exact ⟨⟨rfl,⟨⟩,⟨⟩,⟨⟩⟩,rfl,rfl,⟨⟩⟩

def zwv_7_1_0 (ws xs : List Int) (k w : Int) : St := ⟨[(4,(.ptr 1 0 0 0)),(7,(.ptr 2 0 0 0)),(9,(i6 (wvF 7 ws k w)))],[(.var 61 [(LI ws),(LI xs),(i6 k),(i6 w)]),(.var 57 [(i6 0),(.v .nilf),(.v .nilf)]),(.var 57 [(i6 2),(.fn (.func 43) [] []),(.fn (.func 48) [] [])])]⟩
def zwv_7_1_1 (ws xs : List Int) (k w : Int) : St := ⟨[(4,(.ptr 1 0 0 0)),(7,(.ptr 2 0 0 0)),(9,(i6 (wvF 7 ws k w))),(44,(.agg [(i6 2),(.fn (.func 43) [] []),(.fn (.func 48) [] [])]))],[(.var 61 [(LI ws),(LI xs),(i6 k),(i6 w)]),(.var 57 [(i6 0),(.v .nilf),(.v .nilf)]),(.var 57 [(i6 2),(.fn (.func 43) [] []),(.fn (.func 48) [] [])])]⟩
def zwv_7_1_2 (ws xs : List Int) (k w : Int) : St := ⟨[(4,(.ptr 1 0 0 0)),(7,(.ptr 2 0 0 0)),(9,(i6 (wvF 7 ws k w))),(45,(i6 (wvF 7 ws k w)))],[(.var 61 [(LI ws),(LI xs),(i6 k),(i6 w)]),(.var 57 [(i6 0),(.v .nilf),(.v .nilf)]),(.var 57 [(i6 2),(.fn (.func 43) [] []),(.fn (.func 48) [] [])])]⟩
def zwv_7_1_3 (ws xs : List Int) (k w : Int) : St := ⟨[(4,(.ptr 1 0 0 0)),(7,(.ptr 2 0 0 0)),(9,(i6 (wvF 7 ws k w))),(46,(i6 (wvF 7 ws k w)))],[(.var 61 [(LI ws),(LI xs),(i6 k),(i6 w)]),(.var 57 [(i6 0),(.v .nilf),(.v .nilf)]),(.var 57 [(i6 2),(.fn (.func 43) [] []),(.fn (.func 48) [] [])])]⟩
def zwv_7_1_4 (ws xs : List Int) (k w : Int) : St := ⟨[(4,(.ptr 1 0 0 0)),(7,(.ptr 2 0 0 0)),(9,(i6 (wvF 7 ws k w))),(44,(.agg [(i6 2),(.fn (.func 43) [] []),(.fn (.func 48) [] [])])),(45,(i6 (wvF 7 ws k w)))],[(.var 61 [(LI ws),(LI xs),(i6 k),(i6 w)]),(.var 57 [(i6 0),(.v .nilf),(.v .nilf)]),(.var 57 [(i6 2),(.fn (.func 43) [] []),(.fn (.func 48) [] [])])]⟩
def zwv_7_1_5 (ws xs : List Int) (k w : Int) : St := ⟨[(4,(.ptr 1 0 0 0)),(7,(.ptr 2 0 0 0)),(9,(i6 (wvF 7 ws k w))),(44,(.agg [(i6 2),(.fn (.func 43) [] []),(.fn (.func 48) [] [])])),(46,(i6 (wvF 7 ws k w)))],[(.var 61 [(LI ws),(LI xs),(i6 k),(i6 w)]),(.var 57 [(i6 0),(.v .nilf),(.v .nilf)]),(.var 57 [(i6 2),(.fn (.func 43) [] []),(.fn (.func 48) [] [])])]⟩
def zwv_7_1_6 (ws xs : List Int) (k w : Int) : St := ⟨[(4,(.ptr 1 0 0 0)),(7,(.ptr 2 0 0 0)),(9,(i6 (wvF 7 ws k w))),(45,(i6 (wvF 7 ws k w))),(46,(i6 (wvF 7 ws k w)))],[(.var 61 [(LI ws),(LI xs),(i6 k),(i6 w)]),(.var 57 [(i6 0),(.v .nilf),(.v .nilf)]),(.var 57 [(i6 2),(.fn (.func 43) [] []),(.fn (.func 48) [] [])])]⟩
def zwv_7_1_7 (ws xs : List Int) (k w : Int) : St := ⟨[(4,(.ptr 1 0 0 0)),(7,(.ptr 2 0 0 0)),(9,(i6 (wvF 7 ws k w))),(46,(i6 (wvF 7 ws k w))),(47,(dB (fitsF (wvF 7 ws k w))))],[(.var 61 [(LI ws),(LI xs),(i6 k),(i6 w)]),(.var 57 [(i6 0),(.v .nilf),(.v .nilf)]),(.var 57 [(i6 2),(.fn (.func 43) [] []),(.fn (.func 48) [] [])])]⟩
def zwv_7_1_8 (ws xs : List Int) (k w : Int) : St := ⟨[(4,(.ptr 1 0 0 0)),(7,(.ptr 2 0 0 0)),(9,(i6 (wvF 7 ws k w))),(44,(.agg [(i6 2),(.fn (.func 43) [] []),(.fn (.func 48) [] [])])),(45,(i6 (wvF 7 ws k w))),(46,(i6 (wvF 7 ws k w)))],[(.var 61 [(LI ws),(LI xs),(i6 k),(i6 w)]),(.var 57 [(i6 0),(.v .nilf),(.v .nilf)]),(.var 57 [(i6 2),(.fn (.func 43) [] []),(.fn (.func 48) [] [])])]⟩
def zwv_7_1_9 (ws xs : List Int) (k w : Int) : St := ⟨[(4,(.ptr 1 0 0 0)),(7,(.ptr 2 0 0 0)),(9,(i6 (wvF 7 ws k w))),(44,(.agg [(i6 2),(.fn (.func 43) [] []),(.fn (.func 48) [] [])])),(46,(i6 (wvF 7 ws k w))),(47,(dB (fitsF (wvF 7 ws k w))))],[(.var 61 [(LI ws),(LI xs),(i6 k),(i6 w)]),(.var 57 [(i6 0),(.v .nilf),(.v .nilf)]),(.var 57 [(i6 2),(.fn (.func 43) [] []),(.fn (.func 48) [] [])])]⟩
def zwv_7_1_10 (ws xs : List Int) (k w : Int) : St := ⟨[(4,(.ptr 1 0 0 0)),(7,(.ptr 2 0 0 0)),(9,(i6 (wvF 7 ws k w))),(45,(i6 (wvF 7 ws k w))),(46,(i6 (wvF 7 ws k w))),(47,(dB (fitsF (wvF 7 ws k w))))],[(.var 61 [(LI ws),(LI xs),(i6 k),(i6 w)]),(.var 57 [(i6 0),(.v .nilf),(.v .nilf)]),(.var 57 [(i6 2),(.fn (.func 43) [] []),(.fn (.func 48) [] [])])]⟩
def zwv_7_1_11 (ws xs : List Int) (k w : Int) : St := ⟨[(4,(.ptr 1 0 0 0)),(7,(.ptr 2 0 0 0)),(9,(i6 (wvF 7 ws k w))),(44,(.agg [(i6 2),(.fn (.func 43) [] []),(.fn (.func 48) [] [])])),(45,(i6 (wvF 7 ws k w))),(46,(i6 (wvF 7 ws k w))),(47,(dB (fitsF (wvF 7 ws k w))))],[(.var 61 [(LI ws),(LI xs),(i6 k),(i6 w)]),(.var 57 [(i6 0),(.v .nilf),(.v .nilf)]),(.var 57 [(i6 2),(.fn (.func 43) [] []),(.fn (.func 48) [] [])])]⟩
def zwv_7_1_12 (ws xs : List Int) (k w : Int) : St := ⟨[(4,(.ptr 1 0 0 0)),(7,(.ptr 2 0 0 0)),(9,(i6 (wvF 7 ws k w))),(44,(.agg [(i6 2),(.fn (.func 43) [] []),(.fn (.func 48) [] [])])),(46,(i6 (wvF 7 ws k w))),(47,(dB (fitsF (wvF 7 ws k w))))],[(.var 61 [(LI ws),(LI xs),(i6 k),(i6 w)]),(.var 57 [(i6 2),(.fn (.func 43) [] []),(.fn (.func 48) [] [])]),(.var 57 [(i6 2),(.fn (.func 43) [] []),(.fn (.func 48) [] [])])]⟩
def zwv_7_1_13 (ws xs : List Int) (k w : Int) : St := ⟨[(4,(.ptr 1 0 0 0)),(7,(.ptr 2 0 0 0)),(9,(i6 (wvF 7 ws k w))),(44,(.agg [(i6 2),(.fn (.func 43) [] []),(.fn (.func 48) [] [])])),(45,(i6 (wvF 7 ws k w))),(46,(i6 (wvF 7 ws k w))),(47,(dB (fitsF (wvF 7 ws k w))))],[(.var 61 [(LI ws),(LI xs),(i6 k),(i6 w)]),(.var 57 [(i6 2),(.fn (.func 43) [] []),(.fn (.func 48) [] [])]),(.var 57 [(i6 2),(.fn (.func 43) [] []),(.fn (.func 48) [] [])])]⟩
def zwv_7_1_14 (ws xs : List Int) (k w : Int) : St := ⟨[(4,(.ptr 1 0 0 0)),(5,(i6 (wvF 7 ws k w))),(7,(.ptr 2 0 0 0)),(9,(i6 (wvF 7 ws k w))),(44,(.agg [(i6 2),(.fn (.func 43) [] []),(.fn (.func 48) [] [])])),(45,(i6 (wvF 7 ws k w))),(46,(i6 (wvF 7 ws k w))),(47,(dB (fitsF (wvF 7 ws k w))))],[(.var 61 [(LI ws),(LI xs),(i6 k),(i6 w)]),(.var 57 [(i6 2),(.fn (.func 43) [] []),(.fn (.func 48) [] [])]),(.var 57 [(i6 2),(.fn (.func 43) [] []),(.fn (.func 48) [] [])])]⟩
def zwv_7_1_15 (ws xs : List Int) (k w : Int) : St := ⟨[(4,(.ptr 1 0 0 0)),(5,(i6 (wvF 7 ws k w))),(6,(dB false))],[(.var 61 [(LI ws),(LI xs),(i6 k),(i6 w)]),(.var 57 [(i6 2),(.fn (.func 43) [] []),(.fn (.func 48) [] [])]),(.var 57 [(i6 2),(.fn (.func 43) [] []),(.fn (.func 48) [] [])])]⟩
set_option maxRecDepth 100000 in
theorem width_wv_7 (ws xs : List Int) (k w : Int) (hw : ws.length ≤ 9223372036854775807) (h : okB 7 ws = true) (h3 : fitsF (wvF 7 ws k w) = false) : CallOk Try.prog 27 [(i6 7),(.agg [(LI ws),(LI xs),(i6 k),(i6 w)])] [] true (.tup [(.agg [(i6 2),(.fn (.func 43) [] []),(.fn (.func 48) [] [])]),(i6 (wvF 7 ws k w)),(dB false)]) [] := by
  refine CallOk.of_ev Try.func27 rfl rfl rfl ?_
  rintro ⟨_,W,S0,_,susp,_⟩ rfl rfl rfl
  obtain ⟨h1,h2⟩ := okB_yes h
  have hA : arityF 7 = 2 := by decide
  rw [hA] at h1
  refine Ev.seq ?_
  refine Ev.reg [] [0,3,4] (st' := ⟨[(0,(i6 7)),(3,(.ptr 0 0 0 0)),(4,(.ptr 1 0 0 0))],[(.var 61 [(LI ws),(LI xs),(i6 k),(i6 w)]),(.var 57 [(i6 0),(.v .nilf),(.v .nilf)])]⟩)
    (p := True∧True∧True∧True∧True) (by kernel_rfl)
    ⟨⟨⟩,⟨⟩,⟨⟩,⟨⟩,⟨⟩⟩ ?_
  refine Ev.seq ?_
  refine Ev.reg [(0,.call none false (.v (.mp simpleM))),(2,.idx (some 5))] [0,3,4,7,8] (st' := ⟨[(0,(i6 7)),(3,(.ptr 0 0 0 0)),(4,(.ptr 1 0 0 0)),(7,(.ptr 2 0 0 0)),(8,(dB true))],[(.var 61 [(LI ws),(LI xs),(i6 k),(i6 w)]),(.var 57 [(i6 0),(.v .nilf),(.v .nilf)]),(.var 57 [(i6 2),(.fn (.func 43) [] []),(.fn (.func 48) [] [])])]⟩)
    (p := callOb Try.prog 33 [(.var 61 [(LI ws),(LI xs),(i6 k),(i6 w)]),(.var 57 [(i6 0),(.v .nilf),(.v .nilf)])] [] none false (.v (.mp simpleM))∧True∧((7 : Int) = 7∧∀ e' ∈ simpleM.take 5,(7 : Int) ≠ e'.1)∧True∧True∧True∧True∧True∧True∧True) (by kernel_rfl)
    ⟨simple_ok,⟨⟩,(by decide),⟨⟩,⟨⟩,⟨⟩,⟨⟩,⟨⟩,⟨⟩,⟨⟩⟩ ?_
  refine Ev.seq ?_
  refine Ev.seq ?_
  refine Ev.reg [] [0,3,4,7,8,17] (st' := ⟨[(0,(i6 7)),(3,(.ptr 0 0 0 0)),(4,(.ptr 1 0 0 0)),(7,(.ptr 2 0 0 0)),(8,(dB true)),(17,(dB false))],[(.var 61 [(LI ws),(LI xs),(i6 k),(i6 w)]),(.var 57 [(i6 0),(.v .nilf),(.v .nilf)]),(.var 57 [(i6 2),(.fn (.func 43) [] []),(.fn (.func 48) [] [])])]⟩)
    (p := True∧True∧True) (by kernel_rfl)
    ⟨⟨⟩,⟨⟩,⟨⟩⟩ ?_
  refine Ev.cond false rfl (fun h => (by cases h)) (fun _ => ?_)
  refine Ev.skip ?_
  refine Ev.seq ?_
  refine Ev.seq ?_
  refine Ev.reg [(8,.val (dB false)),(13,.call none false (dB (!(ws.all fitsF)))),(14,.val (dB false))] [3,4,7,38] (st' := ⟨[(3,(.ptr 0 0 0 0)),(4,(.ptr 1 0 0 0)),(7,(.ptr 2 0 0 0)),(38,(dB false))],[(.var 61 [(LI ws),(LI xs),(i6 k),(i6 w)]),(.var 57 [(i6 0),(.v .nilf),(.v .nilf)]),(.var 57 [(i6 2),(.fn (.func 43) [] []),(.fn (.func 48) [] [])])]⟩)
    (p := True∧True∧True∧True∧True∧True∧True∧True∧(True∧(((ws.length : Nat) : Int) != 2) = false)∧True∧True∧True∧True∧callOb Try.prog 35 [(.var 61 [(LI ws),(LI xs),(i6 k),(i6 w)]),(.var 57 [(i6 0),(.v .nilf),(.v .nilf)]),(.var 57 [(i6 2),(.fn (.func 43) [] []),(.fn (.func 48) [] [])])] [(LI ws),(.fn (.func 36) [] [])] none false (dB (!(ws.all fitsF)))∧(True∧(!(ws.all fitsF)) = false)∧True) (by kernel_rfl)
    ⟨⟨⟩,⟨⟩,⟨⟩,⟨⟩,⟨⟩,⟨⟩,⟨⟩,⟨⟩,⟨⟨⟩,(by rw [h1]; rfl)⟩,⟨⟩,⟨⟩,⟨⟩,⟨⟩,(contains_ok _ (by first | omega | (simp; first | done | omega))),⟨⟨⟩,(by rw [h2]; rfl)⟩,⟨⟩⟩ ?_
  refine Ev.cond false rfl (fun h => (by cases h)) (fun _ => ?_)
  refine Ev.skip ?_
  refine Ev.seq ?_
  refine Ev.reg [(3,.call none false (i6 (alikeF ws))),(4,.val (i6 (wvF 7 ws k w)))] [4,7,9] (st' := ⟨[(4,(.ptr 1 0 0 0)),(7,(.ptr 2 0 0 0)),(9,(i6 (wvF 7 ws k w)))],[(.var 61 [(LI ws),(LI xs),(i6 k),(i6 w)]),(.var 57 [(i6 0),(.v .nilf),(.v .nilf)]),(.var 57 [(i6 2),(.fn (.func 43) [] []),(.fn (.func 48) [] [])])]⟩)
    (p := True∧True∧True∧callOb Try.prog 43 [(.var 61 [(LI ws),(LI xs),(i6 k),(i6 w)]),(.var 57 [(i6 0),(.v .nilf),(.v .nilf)]),(.var 57 [(i6 2),(.fn (.func 43) [] []),(.fn (.func 48) [] [])])] [(.agg [(LI ws),(LI xs),(i6 k),(i6 w)])] none false (i6 (alikeF ws))∧(True∧(alikeF ws) = (wvF 7 ws k w))∧True) (by kernel_rfl)
    ⟨⟨⟩,⟨⟩,⟨⟩,(alike_ok _ _ _ _ (by omega) (by assumption)),⟨⟨⟩,(by first | rfl | simp [wvF])⟩,⟨⟩⟩ ?_
  refine Ev.seq ?_
  refine Ev.any [(3,.call none false (dB (fitsF (wvF 7 ws k w)))),(6,.val (dB false))] [((bm 7 0),(zwv_7_1_0 ws xs k w)),((bm 7 1),(zwv_7_1_1 ws xs k w)),((bm 7 2),(zwv_7_1_2 ws xs k w)),((bm 7 4),(zwv_7_1_3 ws xs k w)),((bm 7 3),(zwv_7_1_4 ws xs k w)),((bm 7 5),(zwv_7_1_5 ws xs k w)),((bm 7 6),(zwv_7_1_6 ws xs k w)),((bm 7 12),(zwv_7_1_7 ws xs k w)),((bm 7 7),(zwv_7_1_8 ws xs k w)),((bm 7 13),(zwv_7_1_9 ws xs k w)),((bm 7 14),(zwv_7_1_10 ws xs k w)),((bm 7 15),(zwv_7_1_11 ws xs k w)),((bm 7 29),(zwv_7_1_12 ws xs k w)),((bm 7 31),(zwv_7_1_13 ws xs k w)),((bm 7 63),(zwv_7_1_14 ws xs k w)),((bm 7 127),(zwv_7_1_15 ws xs k w))] (st0 := (zwv_7_1_0 ws xs k w)) (st' := ⟨[(4,(.ptr 1 0 0 0)),(5,(i6 (wvF 7 ws k w))),(6,(dB false))],[(.var 61 [(LI ws),(LI xs),(i6 k),(i6 w)]),(.var 57 [(i6 2),(.fn (.func 43) [] []),(.fn (.func 48) [] [])]),(.var 57 [(i6 2),(.fn (.func 43) [] []),(.fn (.func 48) [] [])])]⟩)
    (p := ((((zwv_7_1_1 ws xs k w) : St) = (zwv_7_1_1 ws xs k w)∧True∧True)∧(((zwv_7_1_2 ws xs k w) : St) = (zwv_7_1_2 ws xs k w)∧True∧True)∧(((zwv_7_1_3 ws xs k w) : St) = (zwv_7_1_3 ws xs k w)∧True∧True)∧True)∧((((zwv_7_1_4 ws xs k w) : St) = (zwv_7_1_4 ws xs k w)∧True∧True)∧(((zwv_7_1_5 ws xs k w) : St) = (zwv_7_1_5 ws xs k w)∧True∧True)∧True)∧((((zwv_7_1_4 ws xs k w) : St) = (zwv_7_1_4 ws xs k w)∧True∧True)∧(((zwv_7_1_6 ws xs k w) : St) = (zwv_7_1_6 ws xs k w)∧True∧True)∧True)∧((((zwv_7_1_5 ws xs k w) : St) = (zwv_7_1_5 ws xs k w)∧True∧True)∧(((zwv_7_1_6 ws xs k w) : St) = (zwv_7_1_6 ws xs k w)∧True∧True)∧(((zwv_7_1_7 ws xs k w) : St) = (zwv_7_1_7 ws xs k w)∧callOb Try.prog 37 [(.var 61 [(LI ws),(LI xs),(i6 k),(i6 w)]),(.var 57 [(i6 0),(.v .nilf),(.v .nilf)]),(.var 57 [(i6 2),(.fn (.func 43) [] []),(.fn (.func 48) [] [])])] [(i6 (wvF 7 ws k w))] none false (dB (fitsF (wvF 7 ws k w)))∧True)∧True)∧((((zwv_7_1_8 ws xs k w) : St) = (zwv_7_1_8 ws xs k w)∧True∧True)∧True)∧((((zwv_7_1_8 ws xs k w) : St) = (zwv_7_1_8 ws xs k w)∧True∧True)∧(((zwv_7_1_9 ws xs k w) : St) = (zwv_7_1_9 ws xs k w)∧callOb Try.prog 37 [(.var 61 [(LI ws),(LI xs),(i6 k),(i6 w)]),(.var 57 [(i6 0),(.v .nilf),(.v .nilf)]),(.var 57 [(i6 2),(.fn (.func 43) [] []),(.fn (.func 48) [] [])])] [(i6 (wvF 7 ws k w))] none false (dB (fitsF (wvF 7 ws k w)))∧True)∧True)∧((((zwv_7_1_8 ws xs k w) : St) = (zwv_7_1_8 ws xs k w)∧True∧True)∧(((zwv_7_1_10 ws xs k w) : St) = (zwv_7_1_10 ws xs k w)∧callOb Try.prog 37 [(.var 61 [(LI ws),(LI xs),(i6 k),(i6 w)]),(.var 57 [(i6 0),(.v .nilf),(.v .nilf)]),(.var 57 [(i6 2),(.fn (.func 43) [] []),(.fn (.func 48) [] [])])] [(i6 (wvF 7 ws k w))] none false (dB (fitsF (wvF 7 ws k w)))∧True)∧True)∧((((zwv_7_1_9 ws xs k w) : St) = (zwv_7_1_9 ws xs k w)∧True∧True)∧(((zwv_7_1_10 ws xs k w) : St) = (zwv_7_1_10 ws xs k w)∧True∧True)∧True)∧((((zwv_7_1_11 ws xs k w) : St) = (zwv_7_1_11 ws xs k w)∧callOb Try.prog 37 [(.var 61 [(LI ws),(LI xs),(i6 k),(i6 w)]),(.var 57 [(i6 0),(.v .nilf),(.v .nilf)]),(.var 57 [(i6 2),(.fn (.func 43) [] []),(.fn (.func 48) [] [])])] [(i6 (wvF 7 ws k w))] none false (dB (fitsF (wvF 7 ws k w)))∧True)∧True)∧((((zwv_7_1_11 ws xs k w) : St) = (zwv_7_1_11 ws xs k w)∧True∧True)∧(((zwv_7_1_12 ws xs k w) : St) = (zwv_7_1_12 ws xs k w)∧True∧True)∧True)∧((((zwv_7_1_11 ws xs k w) : St) = (zwv_7_1_11 ws xs k w)∧True∧True)∧True)∧((((zwv_7_1_13 ws xs k w) : St) = (zwv_7_1_13 ws xs k w)∧True∧True)∧True)∧((((zwv_7_1_13 ws xs k w) : St) = (zwv_7_1_13 ws xs k w)∧True∧True)∧True)∧((((zwv_7_1_14 ws xs k w) : St) = (zwv_7_1_14 ws xs k w)∧True∧True)∧True)∧((((zwv_7_1_15 ws xs k w) : St) = (zwv_7_1_15 ws xs k w)∧(True∧(fitsF (wvF 7 ws k w)) = false)∧True)∧True)∧True∧True) (by kernel_rfl) (by kernel_rfl) (by kernel_rfl) (by kernel_rfl) (by kernel_rfl) (by kernel_rfl)
    ⟨⟨⟨rfl,⟨⟩,⟨⟩⟩,⟨rfl,⟨⟩,⟨⟩⟩,⟨rfl,⟨⟩,⟨⟩⟩,⟨⟩⟩,⟨⟨rfl,⟨⟩,⟨⟩⟩,⟨rfl,⟨⟩,⟨⟩⟩,⟨⟩⟩,⟨⟨rfl,⟨⟩,⟨⟩⟩,⟨rfl,⟨⟩,⟨⟩⟩,⟨⟩⟩,⟨⟨rfl,⟨⟩,⟨⟩⟩,⟨rfl,⟨⟩,⟨⟩⟩,⟨rfl,(fits_ok _),⟨⟩⟩,⟨⟩⟩,⟨⟨rfl,⟨⟩,⟨⟩⟩,⟨⟩⟩,⟨⟨rfl,⟨⟩,⟨⟩⟩,⟨rfl,(fits_ok _),⟨⟩⟩,⟨⟩⟩,⟨⟨rfl,⟨⟩,⟨⟩⟩,⟨rfl,(fits_ok _),⟨⟩⟩,⟨⟩⟩,⟨⟨rfl,⟨⟩,⟨⟩⟩,⟨rfl,⟨⟩,⟨⟩⟩,⟨⟩⟩,⟨⟨rfl,(fits_ok _),⟨⟩⟩,⟨⟩⟩,⟨⟨rfl,⟨⟩,⟨⟩⟩,⟨rfl,⟨⟩,⟨⟩⟩,⟨⟩⟩,⟨⟨rfl,⟨⟩,⟨⟩⟩,⟨⟩⟩,⟨⟨rfl,⟨⟩,⟨⟩⟩,⟨⟩⟩,⟨⟨rfl,⟨⟩,⟨⟩⟩,⟨⟩⟩,⟨⟨rfl,⟨⟩,⟨⟩⟩,⟨⟩⟩,⟨⟨rfl,⟨⟨⟩,(by first | exact h3 | simpa [wvF] using h3)⟩,⟨⟩⟩,⟨⟩⟩,⟨⟩,⟨⟩⟩ ?_
  refine Ev.ret ?_
  refine ⟨⟨⟨⟩,⟨⟩,⟨⟩,⟨⟩⟩,(?_ : ((2 : Int) = 2∧((.fn (.func 43) [] []) : D) = (.fn (.func 43) [] [])∧((.fn (.func 48) [] []) : D) = (.fn (.func 48) [] [])∧True)∧(wvF 7 ws k w) = (wvF 7 ws k w)∧false = false∧True),.inl rfl⟩
  exact ⟨⟨rfl,rfl,rfl,⟨⟩⟩,rfl,rfl,⟨⟩⟩

end Go.Proofs.Ytaghhicmnalmmaa
