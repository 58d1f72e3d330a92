/-
  Package bits: widths of operations.
-/
import Derived.Test.YtaghhicmnalmmaaBitD
namespace Go.Proofs.Ytaghhicmnalmmaa
open Go.RowKit
set_option linter.unusedVariables false
set_option linter.unusedSimpArgs false

def zg_8_1_0 (ws xs : List Int) (k w : Int) : St := ⟨[(4,(.ptr 1 0 0 0)),(7,(.ptr 2 0 0 0)),(9,(i6 (wvF 8 ws k w)))],[(.var 61 [(LI ws),(LI xs),(i6 k),(i6 w)]),(.var 57 [(i6 0),(.v .nilf),(.v .nilf)]),(.var 57 [(i6 2),(.fn (.func 49) [] []),(.fn (.func 50) [] [])])]⟩
def zg_8_1_1 (ws xs : List Int) (k w : Int) : St := ⟨[(4,(.ptr 1 0 0 0)),(7,(.ptr 2 0 0 0)),(9,(i6 (wvF 8 ws k w))),(44,(.agg [(i6 2),(.fn (.func 49) [] []),(.fn (.func 50) [] [])]))],[(.var 61 [(LI ws),(LI xs),(i6 k),(i6 w)]),(.var 57 [(i6 0),(.v .nilf),(.v .nilf)]),(.var 57 [(i6 2),(.fn (.func 49) [] []),(.fn (.func 50) [] [])])]⟩
def zg_8_1_2 (ws xs : List Int) (k w : Int) : St := ⟨[(4,(.ptr 1 0 0 0)),(7,(.ptr 2 0 0 0)),(9,(i6 (wvF 8 ws k w))),(45,(i6 (wvF 8 ws k w)))],[(.var 61 [(LI ws),(LI xs),(i6 k),(i6 w)]),(.var 57 [(i6 0),(.v .nilf),(.v .nilf)]),(.var 57 [(i6 2),(.fn (.func 49) [] []),(.fn (.func 50) [] [])])]⟩
def zg_8_1_3 (ws xs : List Int) (k w : Int) : St := ⟨[(4,(.ptr 1 0 0 0)),(7,(.ptr 2 0 0 0)),(9,(i6 (wvF 8 ws k w))),(46,(i6 (wvF 8 ws k w)))],[(.var 61 [(LI ws),(LI xs),(i6 k),(i6 w)]),(.var 57 [(i6 0),(.v .nilf),(.v .nilf)]),(.var 57 [(i6 2),(.fn (.func 49) [] []),(.fn (.func 50) [] [])])]⟩
def zg_8_1_4 (ws xs : List Int) (k w : Int) : St := ⟨[(4,(.ptr 1 0 0 0)),(7,(.ptr 2 0 0 0)),(9,(i6 (wvF 8 ws k w))),(44,(.agg [(i6 2),(.fn (.func 49) [] []),(.fn (.func 50) [] [])])),(45,(i6 (wvF 8 ws k w)))],[(.var 61 [(LI ws),(LI xs),(i6 k),(i6 w)]),(.var 57 [(i6 0),(.v .nilf),(.v .nilf)]),(.var 57 [(i6 2),(.fn (.func 49) [] []),(.fn (.func 50) [] [])])]⟩
def zg_8_1_5 (ws xs : List Int) (k w : Int) : St := ⟨[(4,(.ptr 1 0 0 0)),(7,(.ptr 2 0 0 0)),(9,(i6 (wvF 8 ws k w))),(44,(.agg [(i6 2),(.fn (.func 49) [] []),(.fn (.func 50) [] [])])),(46,(i6 (wvF 8 ws k w)))],[(.var 61 [(LI ws),(LI xs),(i6 k),(i6 w)]),(.var 57 [(i6 0),(.v .nilf),(.v .nilf)]),(.var 57 [(i6 2),(.fn (.func 49) [] []),(.fn (.func 50) [] [])])]⟩
def zg_8_1_6 (ws xs : List Int) (k w : Int) : St := ⟨[(4,(.ptr 1 0 0 0)),(7,(.ptr 2 0 0 0)),(9,(i6 (wvF 8 ws k w))),(45,(i6 (wvF 8 ws k w))),(46,(i6 (wvF 8 ws k w)))],[(.var 61 [(LI ws),(LI xs),(i6 k),(i6 w)]),(.var 57 [(i6 0),(.v .nilf),(.v .nilf)]),(.var 57 [(i6 2),(.fn (.func 49) [] []),(.fn (.func 50) [] [])])]⟩
def zg_8_1_7 (ws xs : List Int) (k w : Int) : St := ⟨[(4,(.ptr 1 0 0 0)),(7,(.ptr 2 0 0 0)),(9,(i6 (wvF 8 ws k w))),(46,(i6 (wvF 8 ws k w))),(47,(dB (fitsF (wvF 8 ws k w))))],[(.var 61 [(LI ws),(LI xs),(i6 k),(i6 w)]),(.var 57 [(i6 0),(.v .nilf),(.v .nilf)]),(.var 57 [(i6 2),(.fn (.func 49) [] []),(.fn (.func 50) [] [])])]⟩
def zg_8_1_8 (ws xs : List Int) (k w : Int) : St := ⟨[(4,(.ptr 1 0 0 0)),(7,(.ptr 2 0 0 0)),(9,(i6 (wvF 8 ws k w))),(44,(.agg [(i6 2),(.fn (.func 49) [] []),(.fn (.func 50) [] [])])),(45,(i6 (wvF 8 ws k w))),(46,(i6 (wvF 8 ws k w)))],[(.var 61 [(LI ws),(LI xs),(i6 k),(i6 w)]),(.var 57 [(i6 0),(.v .nilf),(.v .nilf)]),(.var 57 [(i6 2),(.fn (.func 49) [] []),(.fn (.func 50) [] [])])]⟩
def zg_8_1_9 (ws xs : List Int) (k w : Int) : St := ⟨[(4,(.ptr 1 0 0 0)),(7,(.ptr 2 0 0 0)),(9,(i6 (wvF 8 ws k w))),(44,(.agg [(i6 2),(.fn (.func 49) [] []),(.fn (.func 50) [] [])])),(46,(i6 (wvF 8 ws k w))),(47,(dB (fitsF (wvF 8 ws k w))))],[(.var 61 [(LI ws),(LI xs),(i6 k),(i6 w)]),(.var 57 [(i6 0),(.v .nilf),(.v .nilf)]),(.var 57 [(i6 2),(.fn (.func 49) [] []),(.fn (.func 50) [] [])])]⟩
def zg_8_1_10 (ws xs : List Int) (k w : Int) : St := ⟨[(4,(.ptr 1 0 0 0)),(7,(.ptr 2 0 0 0)),(9,(i6 (wvF 8 ws k w))),(45,(i6 (wvF 8 ws k w))),(46,(i6 (wvF 8 ws k w))),(47,(dB (fitsF (wvF 8 ws k w))))],[(.var 61 [(LI ws),(LI xs),(i6 k),(i6 w)]),(.var 57 [(i6 0),(.v .nilf),(.v .nilf)]),(.var 57 [(i6 2),(.fn (.func 49) [] []),(.fn (.func 50) [] [])])]⟩
def zg_8_1_11 (ws xs : List Int) (k w : Int) : St := ⟨[(4,(.ptr 1 0 0 0)),(7,(.ptr 2 0 0 0)),(9,(i6 (wvF 8 ws k w))),(44,(.agg [(i6 2),(.fn (.func 49) [] []),(.fn (.func 50) [] [])])),(45,(i6 (wvF 8 ws k w))),(46,(i6 (wvF 8 ws k w))),(47,(dB (fitsF (wvF 8 ws k w))))],[(.var 61 [(LI ws),(LI xs),(i6 k),(i6 w)]),(.var 57 [(i6 0),(.v .nilf),(.v .nilf)]),(.var 57 [(i6 2),(.fn (.func 49) [] []),(.fn (.func 50) [] [])])]⟩
def zg_8_1_12 (ws xs : List Int) (k w : Int) : St := ⟨[(4,(.ptr 1 0 0 0)),(7,(.ptr 2 0 0 0)),(9,(i6 (wvF 8 ws k w))),(44,(.agg [(i6 2),(.fn (.func 49) [] []),(.fn (.func 50) [] [])])),(46,(i6 (wvF 8 ws k w))),(47,(dB (fitsF (wvF 8 ws k w))))],[(.var 61 [(LI ws),(LI xs),(i6 k),(i6 w)]),(.var 57 [(i6 2),(.fn (.func 49) [] []),(.fn (.func 50) [] [])]),(.var 57 [(i6 2),(.fn (.func 49) [] []),(.fn (.func 50) [] [])])]⟩
def zg_8_1_13 (ws xs : List Int) (k w : Int) : St := ⟨[(4,(.ptr 1 0 0 0)),(7,(.ptr 2 0 0 0)),(9,(i6 (wvF 8 ws k w))),(44,(.agg [(i6 2),(.fn (.func 49) [] []),(.fn (.func 50) [] [])])),(45,(i6 (wvF 8 ws k w))),(46,(i6 (wvF 8 ws k w))),(47,(dB (fitsF (wvF 8 ws k w))))],[(.var 61 [(LI ws),(LI xs),(i6 k),(i6 w)]),(.var 57 [(i6 2),(.fn (.func 49) [] []),(.fn (.func 50) [] [])]),(.var 57 [(i6 2),(.fn (.func 49) [] []),(.fn (.func 50) [] [])])]⟩
def zg_8_1_14 (ws xs : List Int) (k w : Int) : St := ⟨[(4,(.ptr 1 0 0 0)),(5,(i6 (wvF 8 ws k w))),(7,(.ptr 2 0 0 0)),(9,(i6 (wvF 8 ws k w))),(44,(.agg [(i6 2),(.fn (.func 49) [] []),(.fn (.func 50) [] [])])),(45,(i6 (wvF 8 ws k w))),(46,(i6 (wvF 8 ws k w))),(47,(dB (fitsF (wvF 8 ws k w))))],[(.var 61 [(LI ws),(LI xs),(i6 k),(i6 w)]),(.var 57 [(i6 2),(.fn (.func 49) [] []),(.fn (.func 50) [] [])]),(.var 57 [(i6 2),(.fn (.func 49) [] []),(.fn (.func 50) [] [])])]⟩
def zg_8_1_15 (ws xs : List Int) (k w : Int) : St := ⟨[(4,(.ptr 1 0 0 0)),(5,(i6 (wvF 8 ws k w))),(6,(dB true))],[(.var 61 [(LI ws),(LI xs),(i6 k),(i6 w)]),(.var 57 [(i6 2),(.fn (.func 49) [] []),(.fn (.func 50) [] [])]),(.var 57 [(i6 2),(.fn (.func 49) [] []),(.fn (.func 50) [] [])])]⟩
set_option maxRecDepth 100000 in
theorem width_good_8 (ws xs : List Int) (k w : Int) (hw : ws.length ≤ 9223372036854775807) (h : okF 8 ws k w = true) : CallOk Try.prog 27 [(i6 8),(.agg [(LI ws),(LI xs),(i6 k),(i6 w)])] [] true (.tup [(.agg [(i6 2),(.fn (.func 49) [] []),(.fn (.func 50) [] [])]),(i6 (wvF 8 ws k w)),(dB true)]) [] := by
  refine CallOk.of_ev Try.func27 rfl rfl rfl ?_
  rintro ⟨_,W,S0,_,susp,_⟩ rfl rfl rfl
  obtain ⟨h1,h2,h3⟩ := ok_yes h
  have hA : arityF 8 = 2 := by decide
  rw [hA] at h1
  refine Ev.seq ?_
  refine Ev.reg [] [0,3,4] (st' := ⟨[(0,(i6 8)),(3,(.ptr 0 0 0 0)),(4,(.ptr 1 0 0 0))],[(.var 61 [(LI ws),(LI xs),(i6 k),(i6 w)]),(.var 57 [(i6 0),(.v .nilf),(.v .nilf)])]⟩)
    (p := True∧True∧True∧True∧True) (by kernel_rfl)
    ⟨⟨⟩,⟨⟩,⟨⟩,⟨⟩,⟨⟩⟩ ?_
  refine Ev.seq ?_
  refine Ev.reg [(0,.call none false (.v (.mp simpleM))),(2,.idx (some 6))] [0,3,4,7,8] (st' := ⟨[(0,(i6 8)),(3,(.ptr 0 0 0 0)),(4,(.ptr 1 0 0 0)),(7,(.ptr 2 0 0 0)),(8,(dB true))],[(.var 61 [(LI ws),(LI xs),(i6 k),(i6 w)]),(.var 57 [(i6 0),(.v .nilf),(.v .nilf)]),(.var 57 [(i6 2),(.fn (.func 49) [] []),(.fn (.func 50) [] [])])]⟩)
    (p := callOb Try.prog 33 [(.var 61 [(LI ws),(LI xs),(i6 k),(i6 w)]),(.var 57 [(i6 0),(.v .nilf),(.v .nilf)])] [] none false (.v (.mp simpleM))∧True∧((8 : Int) = 8∧∀ e' ∈ simpleM.take 6,(8 : Int) ≠ e'.1)∧True∧True∧True∧True∧True∧True∧True) (by kernel_rfl)
    ⟨simple_ok,⟨⟩,(by decide),⟨⟩,⟨⟩,⟨⟩,⟨⟩,⟨⟩,⟨⟩,⟨⟩⟩ ?_
  refine Ev.seq ?_
  refine Ev.seq ?_
  refine Ev.reg [] [0,3,4,7,8,17] (st' := ⟨[(0,(i6 8)),(3,(.ptr 0 0 0 0)),(4,(.ptr 1 0 0 0)),(7,(.ptr 2 0 0 0)),(8,(dB true)),(17,(dB false))],[(.var 61 [(LI ws),(LI xs),(i6 k),(i6 w)]),(.var 57 [(i6 0),(.v .nilf),(.v .nilf)]),(.var 57 [(i6 2),(.fn (.func 49) [] []),(.fn (.func 50) [] [])])]⟩)
    (p := True∧True∧True) (by kernel_rfl)
    ⟨⟨⟩,⟨⟩,⟨⟩⟩ ?_
  refine Ev.cond false rfl (fun h => (by cases h)) (fun _ => ?_)
  refine Ev.skip ?_
  refine Ev.seq ?_
  refine Ev.seq ?_
  refine Ev.reg [(8,.val (dB false)),(13,.call none false (dB (!(ws.all fitsF)))),(14,.val (dB false))] [3,4,7,38] (st' := ⟨[(3,(.ptr 0 0 0 0)),(4,(.ptr 1 0 0 0)),(7,(.ptr 2 0 0 0)),(38,(dB false))],[(.var 61 [(LI ws),(LI xs),(i6 k),(i6 w)]),(.var 57 [(i6 0),(.v .nilf),(.v .nilf)]),(.var 57 [(i6 2),(.fn (.func 49) [] []),(.fn (.func 50) [] [])])]⟩)
    (p := True∧True∧True∧True∧True∧True∧True∧True∧(True∧(((ws.length : Nat) : Int) != 2) = false)∧True∧True∧True∧True∧callOb Try.prog 35 [(.var 61 [(LI ws),(LI xs),(i6 k),(i6 w)]),(.var 57 [(i6 0),(.v .nilf),(.v .nilf)]),(.var 57 [(i6 2),(.fn (.func 49) [] []),(.fn (.func 50) [] [])])] [(LI ws),(.fn (.func 36) [] [])] none false (dB (!(ws.all fitsF)))∧(True∧(!(ws.all fitsF)) = false)∧True) (by kernel_rfl)
    ⟨⟨⟩,⟨⟩,⟨⟩,⟨⟩,⟨⟩,⟨⟩,⟨⟩,⟨⟩,⟨⟨⟩,(by rw [h1]; rfl)⟩,⟨⟩,⟨⟩,⟨⟩,⟨⟩,(contains_ok _ (by first | omega | (simp; first | done | omega))),⟨⟨⟩,(by rw [h2]; rfl)⟩,⟨⟩⟩ ?_
  refine Ev.cond false rfl (fun h => (by cases h)) (fun _ => ?_)
  refine Ev.skip ?_
  refine Ev.seq ?_
  refine Ev.reg [(3,.call none false (i6 (min (alikeF ws) 1))),(4,.val (i6 (wvF 8 ws k w)))] [4,7,9] (st' := ⟨[(4,(.ptr 1 0 0 0)),(7,(.ptr 2 0 0 0)),(9,(i6 (wvF 8 ws k w)))],[(.var 61 [(LI ws),(LI xs),(i6 k),(i6 w)]),(.var 57 [(i6 0),(.v .nilf),(.v .nilf)]),(.var 57 [(i6 2),(.fn (.func 49) [] []),(.fn (.func 50) [] [])])]⟩)
    (p := True∧True∧True∧callOb Try.prog 49 [(.var 61 [(LI ws),(LI xs),(i6 k),(i6 w)]),(.var 57 [(i6 0),(.v .nilf),(.v .nilf)]),(.var 57 [(i6 2),(.fn (.func 49) [] []),(.fn (.func 50) [] [])])] [(.agg [(LI ws),(LI xs),(i6 k),(i6 w)])] none false (i6 (min (alikeF ws) 1))∧(True∧(min (alikeF ws) 1) = (wvF 8 ws k w))∧True) (by kernel_rfl)
    ⟨⟨⟩,⟨⟩,⟨⟩,(one_ok _ _ _ _ (by omega) (by assumption)),⟨⟨⟩,(by first | rfl | simp [wvF])⟩,⟨⟩⟩ ?_
  refine Ev.seq ?_
  refine Ev.any [(3,.call none false (dB (fitsF (wvF 8 ws k w)))),(6,.val (dB true))] [((bm 7 0),(zg_8_1_0 ws xs k w)),((bm 7 1),(zg_8_1_1 ws xs k w)),((bm 7 2),(zg_8_1_2 ws xs k w)),((bm 7 4),(zg_8_1_3 ws xs k w)),((bm 7 3),(zg_8_1_4 ws xs k w)),((bm 7 5),(zg_8_1_5 ws xs k w)),((bm 7 6),(zg_8_1_6 ws xs k w)),((bm 7 12),(zg_8_1_7 ws xs k w)),((bm 7 7),(zg_8_1_8 ws xs k w)),((bm 7 13),(zg_8_1_9 ws xs k w)),((bm 7 14),(zg_8_1_10 ws xs k w)),((bm 7 15),(zg_8_1_11 ws xs k w)),((bm 7 29),(zg_8_1_12 ws xs k w)),((bm 7 31),(zg_8_1_13 ws xs k w)),((bm 7 63),(zg_8_1_14 ws xs k w)),((bm 7 127),(zg_8_1_15 ws xs k w))] (st0 := (zg_8_1_0 ws xs k w)) (st' := ⟨[(4,(.ptr 1 0 0 0)),(5,(i6 (wvF 8 ws k w))),(6,(dB true))],[(.var 61 [(LI ws),(LI xs),(i6 k),(i6 w)]),(.var 57 [(i6 2),(.fn (.func 49) [] []),(.fn (.func 50) [] [])]),(.var 57 [(i6 2),(.fn (.func 49) [] []),(.fn (.func 50) [] [])])]⟩)
    (p := ((((zg_8_1_1 ws xs k w) : St) = (zg_8_1_1 ws xs k w)∧True∧True)∧(((zg_8_1_2 ws xs k w) : St) = (zg_8_1_2 ws xs k w)∧True∧True)∧(((zg_8_1_3 ws xs k w) : St) = (zg_8_1_3 ws xs k w)∧True∧True)∧True)∧((((zg_8_1_4 ws xs k w) : St) = (zg_8_1_4 ws xs k w)∧True∧True)∧(((zg_8_1_5 ws xs k w) : St) = (zg_8_1_5 ws xs k w)∧True∧True)∧True)∧((((zg_8_1_4 ws xs k w) : St) = (zg_8_1_4 ws xs k w)∧True∧True)∧(((zg_8_1_6 ws xs k w) : St) = (zg_8_1_6 ws xs k w)∧True∧True)∧True)∧((((zg_8_1_5 ws xs k w) : St) = (zg_8_1_5 ws xs k w)∧True∧True)∧(((zg_8_1_6 ws xs k w) : St) = (zg_8_1_6 ws xs k w)∧True∧True)∧(((zg_8_1_7 ws xs k w) : St) = (zg_8_1_7 ws xs k w)∧callOb Try.prog 37 [(.var 61 [(LI ws),(LI xs),(i6 k),(i6 w)]),(.var 57 [(i6 0),(.v .nilf),(.v .nilf)]),(.var 57 [(i6 2),(.fn (.func 49) [] []),(.fn (.func 50) [] [])])] [(i6 (wvF 8 ws k w))] none false (dB (fitsF (wvF 8 ws k w)))∧True)∧True)∧((((zg_8_1_8 ws xs k w) : St) = (zg_8_1_8 ws xs k w)∧True∧True)∧True)∧((((zg_8_1_8 ws xs k w) : St) = (zg_8_1_8 ws xs k w)∧True∧True)∧(((zg_8_1_9 ws xs k w) : St) = (zg_8_1_9 ws xs k w)∧callOb Try.prog 37 [(.var 61 [(LI ws),(LI xs),(i6 k),(i6 w)]),(.var 57 [(i6 0),(.v .nilf),(.v .nilf)]),(.var 57 [(i6 2),(.fn (.func 49) [] []),(.fn (.func 50) [] [])])] [(i6 (wvF 8 ws k w))] none false (dB (fitsF (wvF 8 ws k w)))∧True)∧True)∧((((zg_8_1_8 ws xs k w) : St) = (zg_8_1_8 ws xs k w)∧True∧True)∧(((zg_8_1_10 ws xs k w) : St) = (zg_8_1_10 ws xs k w)∧callOb Try.prog 37 [(.var 61 [(LI ws),(LI xs),(i6 k),(i6 w)]),(.var 57 [(i6 0),(.v .nilf),(.v .nilf)]),(.var 57 [(i6 2),(.fn (.func 49) [] []),(.fn (.func 50) [] [])])] [(i6 (wvF 8 ws k w))] none false (dB (fitsF (wvF 8 ws k w)))∧True)∧True)∧((((zg_8_1_9 ws xs k w) : St) = (zg_8_1_9 ws xs k w)∧True∧True)∧(((zg_8_1_10 ws xs k w) : St) = (zg_8_1_10 ws xs k w)∧True∧True)∧True)∧((((zg_8_1_11 ws xs k w) : St) = (zg_8_1_11 ws xs k w)∧callOb Try.prog 37 [(.var 61 [(LI ws),(LI xs),(i6 k),(i6 w)]),(.var 57 [(i6 0),(.v .nilf),(.v .nilf)]),(.var 57 [(i6 2),(.fn (.func 49) [] []),(.fn (.func 50) [] [])])] [(i6 (wvF 8 ws k w))] none false (dB (fitsF (wvF 8 ws k w)))∧True)∧True)∧((((zg_8_1_11 ws xs k w) : St) = (zg_8_1_11 ws xs k w)∧True∧True)∧(((zg_8_1_12 ws xs k w) : St) = (zg_8_1_12 ws xs k w)∧True∧True)∧True)∧((((zg_8_1_11 ws xs k w) : St) = (zg_8_1_11 ws xs k w)∧True∧True)∧True)∧((((zg_8_1_13 ws xs k w) : St) = (zg_8_1_13 ws xs k w)∧True∧True)∧True)∧((((zg_8_1_13 ws xs k w) : St) = (zg_8_1_13 ws xs k w)∧True∧True)∧True)∧((((zg_8_1_14 ws xs k w) : St) = (zg_8_1_14 ws xs k w)∧True∧True)∧True)∧((((zg_8_1_15 ws xs k w) : St) = (zg_8_1_15 ws xs k w)∧(True∧(fitsF (wvF 8 ws k w)) = true)∧True)∧True)∧True∧True) (by kernel_rfl) (by kernel_rfl) (by kernel_rfl) (by kernel_rfl) (by kernel_rfl) (by kernel_rfl)
    ⟨⟨⟨rfl,⟨⟩,⟨⟩⟩,⟨rfl,⟨⟩,⟨⟩⟩,⟨rfl,⟨⟩,⟨⟩⟩,⟨⟩⟩,⟨⟨rfl,⟨⟩,⟨⟩⟩,⟨rfl,⟨⟩,⟨⟩⟩,⟨⟩⟩,⟨⟨rfl,⟨⟩,⟨⟩⟩,⟨rfl,⟨⟩,⟨⟩⟩,⟨⟩⟩,⟨⟨rfl,⟨⟩,⟨⟩⟩,⟨rfl,⟨⟩,⟨⟩⟩,⟨rfl,(fits_ok _),⟨⟩⟩,⟨⟩⟩,⟨⟨rfl,⟨⟩,⟨⟩⟩,⟨⟩⟩,⟨⟨rfl,⟨⟩,⟨⟩⟩,⟨rfl,(fits_ok _),⟨⟩⟩,⟨⟩⟩,⟨⟨rfl,⟨⟩,⟨⟩⟩,⟨rfl,(fits_ok _),⟨⟩⟩,⟨⟩⟩,⟨⟨rfl,⟨⟩,⟨⟩⟩,⟨rfl,⟨⟩,⟨⟩⟩,⟨⟩⟩,⟨⟨rfl,(fits_ok _),⟨⟩⟩,⟨⟩⟩,⟨⟨rfl,⟨⟩,⟨⟩⟩,⟨rfl,⟨⟩,⟨⟩⟩,⟨⟩⟩,⟨⟨rfl,⟨⟩,⟨⟩⟩,⟨⟩⟩,⟨⟨rfl,⟨⟩,⟨⟩⟩,⟨⟩⟩,⟨⟨rfl,⟨⟩,⟨⟩⟩,⟨⟩⟩,⟨⟨rfl,⟨⟩,⟨⟩⟩,⟨⟩⟩,⟨⟨rfl,⟨⟨⟩,(by first | exact h3 | simpa [wvF] using h3)⟩,⟨⟩⟩,⟨⟩⟩,⟨⟩,⟨⟩⟩ ?_
  refine Ev.ret ?_
  refine ⟨⟨⟨⟩,⟨⟩,⟨⟩,⟨⟩⟩,(?_ : ((2 : Int) = 2∧((.fn (.func 49) [] []) : D) = (.fn (.func 49) [] [])∧((.fn (.func 50) [] []) : D) = (.fn (.func 50) [] [])∧True)∧(wvF 8 ws k w) = (wvF 8 ws k w)∧true = true∧True),.inl rfl⟩
  exact ⟨⟨rfl,rfl,rfl,⟨⟩⟩,rfl,rfl,⟨⟩⟩

set_option maxRecDepth 100000 in
theorem width_bad_8 (ws xs : List Int) (k w : Int) (hw : ws.length ≤ 9223372036854775807) (h : okB 8 ws = false) : CallOk Try.prog 27 [(i6 8),(.agg [(LI ws),(LI xs),(i6 k),(i6 w)])] [] true (.tup [(.agg [(i6 0),(.v .nilf),(.v .nilf)]),(i6 0),(dB false)]) [] := by
  refine CallOk.of_ev Try.func27 rfl rfl rfl ?_
  rintro ⟨_,W,S0,_,susp,_⟩ rfl rfl rfl
  refine Ev.seq ?_
  refine Ev.reg [] [0,3,4] (st' := ⟨[(0,(i6 8)),(3,(.ptr 0 0 0 0)),(4,(.ptr 1 0 0 0))],[(.var 61 [(LI ws),(LI xs),(i6 k),(i6 w)]),(.var 57 [(i6 0),(.v .nilf),(.v .nilf)])]⟩)
    (p := True∧True∧True∧True∧True) (by kernel_rfl)
    ⟨⟨⟩,⟨⟩,⟨⟩,⟨⟩,⟨⟩⟩ ?_
  refine Ev.seq ?_
  refine Ev.reg [(0,.call none false (.v (.mp simpleM))),(2,.idx (some 6))] [0,3,4,7,8] (st' := ⟨[(0,(i6 8)),(3,(.ptr 0 0 0 0)),(4,(.ptr 1 0 0 0)),(7,(.ptr 2 0 0 0)),(8,(dB true))],[(.var 61 [(LI ws),(LI xs),(i6 k),(i6 w)]),(.var 57 [(i6 0),(.v .nilf),(.v .nilf)]),(.var 57 [(i6 2),(.fn (.func 49) [] []),(.fn (.func 50) [] [])])]⟩)
    (p := callOb Try.prog 33 [(.var 61 [(LI ws),(LI xs),(i6 k),(i6 w)]),(.var 57 [(i6 0),(.v .nilf),(.v .nilf)])] [] none false (.v (.mp simpleM))∧True∧((8 : Int) = 8∧∀ e' ∈ simpleM.take 6,(8 : Int) ≠ e'.1)∧True∧True∧True∧True∧True∧True∧True) (by kernel_rfl)
    ⟨simple_ok,⟨⟩,(by decide),⟨⟩,⟨⟩,⟨⟩,⟨⟩,⟨⟩,⟨⟩,⟨⟩⟩ ?_
  refine Ev.seq ?_
  refine Ev.seq ?_
  refine Ev.reg [] [0,3,4,7,8,17] (st' := ⟨[(0,(i6 8)),(3,(.ptr 0 0 0 0)),(4,(.ptr 1 0 0 0)),(7,(.ptr 2 0 0 0)),(8,(dB true)),(17,(dB false))],[(.var 61 [(LI ws),(LI xs),(i6 k),(i6 w)]),(.var 57 [(i6 0),(.v .nilf),(.v .nilf)]),(.var 57 [(i6 2),(.fn (.func 49) [] []),(.fn (.func 50) [] [])])]⟩)
    (p := True∧True∧True) (by kernel_rfl)
    ⟨⟨⟩,⟨⟩,⟨⟩⟩ ?_
  refine Ev.cond false rfl (fun h => (by cases h)) (fun _ => ?_)
  refine Ev.skip ?_
  refine Ev.seq ?_
  refine Ev.seq ?_
  rcases okB_no h with h1 | ⟨h1,h2⟩
  · skip
    have hA : arityF 8 = 2 := by decide
    rw [hA] at h1
    refine Ev.reg [(8,.val (dB true))] [3,4,7,38] (st' := ⟨[(3,(.ptr 0 0 0 0)),(4,(.ptr 1 0 0 0)),(7,(.ptr 2 0 0 0)),(38,(dB true))],[(.var 61 [(LI ws),(LI xs),(i6 k),(i6 w)]),(.var 57 [(i6 0),(.v .nilf),(.v .nilf)]),(.var 57 [(i6 2),(.fn (.func 49) [] []),(.fn (.func 50) [] [])])]⟩)
      (p := True∧True∧True∧True∧True∧True∧True∧True∧(True∧(((ws.length : Nat) : Int) != 2) = true)∧True∧True∧True∧True∧True∧True∧True) (by kernel_rfl)
      ⟨⟨⟩,⟨⟩,⟨⟩,⟨⟩,⟨⟩,⟨⟩,⟨⟩,⟨⟩,⟨⟨⟩,(by exact bne_iff_ne.2 (by omega))⟩,⟨⟩,⟨⟩,⟨⟩,⟨⟩,⟨⟩,⟨⟩,⟨⟩⟩ ?_
    refine Ev.cond true rfl (fun _ => ?_) (fun h => (by cases h))
    refine Ev.seq ?_
    refine Ev.reg [] [4,5,6] (st' := ⟨[(4,(.ptr 1 0 0 0)),(5,(i6 0)),(6,(dB false))],[(.var 61 [(LI ws),(LI xs),(i6 k),(i6 w)]),(.var 57 [(i6 0),(.v .nilf),(.v .nilf)]),(.var 57 [(i6 2),(.fn (.func 49) [] []),(.fn (.func 50) [] [])])]⟩)
      (p := True∧True∧True∧True∧True) (by kernel_rfl)
      ⟨⟨⟩,⟨⟩,⟨⟩,⟨⟩,⟨⟩⟩ ?_
    refine Ev.ret ?_
    refine ⟨⟨⟨⟩,⟨⟩,⟨⟩,⟨⟩⟩,(?_ : ((0 : Int) = 0∧True∧True∧True)∧(0 : Int) = 0∧false = false∧True),.inl rfl⟩
    exact ⟨⟨rfl,⟨⟩,⟨⟩,⟨⟩⟩,rfl,rfl,⟨⟩⟩
  · skip
    have hA : arityF 8 = 2 := by decide
    rw [hA] at h1
    refine Ev.reg [(8,.val (dB false)),(13,.call none false (dB (!(ws.all fitsF)))),(14,.val (dB true))] [3,4,7,38] (st' := ⟨[(3,(.ptr 0 0 0 0)),(4,(.ptr 1 0 0 0)),(7,(.ptr 2 0 0 0)),(38,(dB true))],[(.var 61 [(LI ws),(LI xs),(i6 k),(i6 w)]),(.var 57 [(i6 0),(.v .nilf),(.v .nilf)]),(.var 57 [(i6 2),(.fn (.func 49) [] []),(.fn (.func 50) [] [])])]⟩)
      (p := True∧True∧True∧True∧True∧True∧True∧True∧(True∧(((ws.length : Nat) : Int) != 2) = false)∧True∧True∧True∧True∧callOb Try.prog 35 [(.var 61 [(LI ws),(LI xs),(i6 k),(i6 w)]),(.var 57 [(i6 0),(.v .nilf),(.v .nilf)]),(.var 57 [(i6 2),(.fn (.func 49) [] []),(.fn (.func 50) [] [])])] [(LI ws),(.fn (.func 36) [] [])] none false (dB (!(ws.all fitsF)))∧(True∧(!(ws.all fitsF)) = true)∧True) (by kernel_rfl)
      ⟨⟨⟩,⟨⟩,⟨⟩,⟨⟩,⟨⟩,⟨⟩,⟨⟩,⟨⟩,⟨⟨⟩,(by rw [h1]; rfl)⟩,⟨⟩,⟨⟩,⟨⟩,⟨⟩,(contains_ok _ (by first | omega | (simp; first | done | omega))),⟨⟨⟩,(by rw [h2]; rfl)⟩,⟨⟩⟩ ?_
    refine Ev.cond true rfl (fun _ => ?_) (fun h => (by cases h))
    refine Ev.seq ?_
    refine Ev.reg [] [4,5,6] (st' := ⟨[(4,(.ptr 1 0 0 0)),(5,(i6 0)),(6,(dB false))],[(.var 61 [(LI ws),(LI xs),(i6 k),(i6 w)]),(.var 57 [(i6 0),(.v .nilf),(.v .nilf)]),(.var 57 [(i6 2),(.fn (.func 49) [] []),(.fn (.func 50) [] [])])]⟩)
      (p := True∧True∧True∧True∧True) (by kernel_rfl)
      ⟨⟨⟩,⟨⟩,⟨⟩,⟨⟩,⟨⟩⟩ ?_
    refine Ev.ret ?_
    refine ⟨⟨⟨⟩,⟨⟩,⟨⟩,⟨⟩⟩,(?_ : ((0 : Int) = 0∧True∧True∧True)∧(0 : Int) = 0∧false = false∧True),.inl rfl⟩
    exact ⟨⟨rfl,⟨⟩,⟨⟩,⟨⟩⟩,rfl,rfl,⟨⟩⟩

def zwv_8_1_0 (ws xs : List Int) (k w : Int) : St := ⟨[(4,(.ptr 1 0 0 0)),(7,(.ptr 2 0 0 0)),(9,(i6 (wvF 8 ws k w)))],[(.var 61 [(LI ws),(LI xs),(i6 k),(i6 w)]),(.var 57 [(i6 0),(.v .nilf),(.v .nilf)]),(.var 57 [(i6 2),(.fn (.func 49) [] []),(.fn (.func 50) [] [])])]⟩
def zwv_8_1_1 (ws xs : List Int) (k w : Int) : St := ⟨[(4,(.ptr 1 0 0 0)),(7,(.ptr 2 0 0 0)),(9,(i6 (wvF 8 ws k w))),(44,(.agg [(i6 2),(.fn (.func 49) [] []),(.fn (.func 50) [] [])]))],[(.var 61 [(LI ws),(LI xs),(i6 k),(i6 w)]),(.var 57 [(i6 0),(.v .nilf),(.v .nilf)]),(.var 57 [(i6 2),(.fn (.func 49) [] []),(.fn (.func 50) [] [])])]⟩
def zwv_8_1_2 (ws xs : List Int) (k w : Int) : St := ⟨[(4,(.ptr 1 0 0 0)),(7,(.ptr 2 0 0 0)),(9,(i6 (wvF 8 ws k w))),(45,(i6 (wvF 8 ws k w)))],[(.var 61 [(LI ws),(LI xs),(i6 k),(i6 w)]),(.var 57 [(i6 0),(.v .nilf),(.v .nilf)]),(.var 57 [(i6 2),(.fn (.func 49) [] []),(.fn (.func 50) [] [])])]⟩
def zwv_8_1_3 (ws xs : List Int) (k w : Int) : St := ⟨[(4,(.ptr 1 0 0 0)),(7,(.ptr 2 0 0 0)),(9,(i6 (wvF 8 ws k w))),(46,(i6 (wvF 8 ws k w)))],[(.var 61 [(LI ws),(LI xs),(i6 k),(i6 w)]),(.var 57 [(i6 0),(.v .nilf),(.v .nilf)]),(.var 57 [(i6 2),(.fn (.func 49) [] []),(.fn (.func 50) [] [])])]⟩
def zwv_8_1_4 (ws xs : List Int) (k w : Int) : St := ⟨[(4,(.ptr 1 0 0 0)),(7,(.ptr 2 0 0 0)),(9,(i6 (wvF 8 ws k w))),(44,(.agg [(i6 2),(.fn (.func 49) [] []),(.fn (.func 50) [] [])])),(45,(i6 (wvF 8 ws k w)))],[(.var 61 [(LI ws),(LI xs),(i6 k),(i6 w)]),(.var 57 [(i6 0),(.v .nilf),(.v .nilf)]),(.var 57 [(i6 2),(.fn (.func 49) [] []),(.fn (.func 50) [] [])])]⟩
def zwv_8_1_5 (ws xs : List Int) (k w : Int) : St := ⟨[(4,(.ptr 1 0 0 0)),(7,(.ptr 2 0 0 0)),(9,(i6 (wvF 8 ws k w))),(44,(.agg [(i6 2),(.fn (.func 49) [] []),(.fn (.func 50) [] [])])),(46,(i6 (wvF 8 ws k w)))],[(.var 61 [(LI ws),(LI xs),(i6 k),(i6 w)]),(.var 57 [(i6 0),(.v .nilf),(.v .nilf)]),(.var 57 [(i6 2),(.fn (.func 49) [] []),(.fn (.func 50) [] [])])]⟩
def zwv_8_1_6 (ws xs : List Int) (k w : Int) : St := ⟨[(4,(.ptr 1 0 0 0)),(7,(.ptr 2 0 0 0)),(9,(i6 (wvF 8 ws k w))),(45,(i6 (wvF 8 ws k w))),(46,(i6 (wvF 8 ws k w)))],[(.var 61 [(LI ws),(LI xs),(i6 k),(i6 w)]),(.var 57 [(i6 0),(.v .nilf),(.v .nilf)]),(.var 57 [(i6 2),(.fn (.func 49) [] []),(.fn (.func 50) [] [])])]⟩
def zwv_8_1_7 (ws xs : List Int) (k w : Int) : St := ⟨[(4,(.ptr 1 0 0 0)),(7,(.ptr 2 0 0 0)),(9,(i6 (wvF 8 ws k w))),(46,(i6 (wvF 8 ws k w))),(47,(dB (fitsF (wvF 8 ws k w))))],[(.var 61 [(LI ws),(LI xs),(i6 k),(i6 w)]),(.var 57 [(i6 0),(.v .nilf),(.v .nilf)]),(.var 57 [(i6 2),(.fn (.func 49) [] []),(.fn (.func 50) [] [])])]⟩
def zwv_8_1_8 (ws xs : List Int) (k w : Int) : St := ⟨[(4,(.ptr 1 0 0 0)),(7,(.ptr 2 0 0 0)),(9,(i6 (wvF 8 ws k w))),(44,(.agg [(i6 2),(.fn (.func 49) [] []),(.fn (.func 50) [] [])])),(45,(i6 (wvF 8 ws k w))),(46,(i6 (wvF 8 ws k w)))],[(.var 61 [(LI ws),(LI xs),(i6 k),(i6 w)]),(.var 57 [(i6 0),(.v .nilf),(.v .nilf)]),(.var 57 [(i6 2),(.fn (.func 49) [] []),(.fn (.func 50) [] [])])]⟩
def zwv_8_1_9 (ws xs : List Int) (k w : Int) : St := ⟨[(4,(.ptr 1 0 0 0)),(7,(.ptr 2 0 0 0)),(9,(i6 (wvF 8 ws k w))),(44,(.agg [(i6 2),(.fn (.func 49) [] []),(.fn (.func 50) [] [])])),(46,(i6 (wvF 8 ws k w))),(47,(dB (fitsF (wvF 8 ws k w))))],[(.var 61 [(LI ws),(LI xs),(i6 k),(i6 w)]),(.var 57 [(i6 0),(.v .nilf),(.v .nilf)]),(.var 57 [(i6 2),(.fn (.func 49) [] []),(.fn (.func 50) [] [])])]⟩
def zwv_8_1_10 (ws xs : List Int) (k w : Int) : St := ⟨[(4,(.ptr 1 0 0 0)),(7,(.ptr 2 0 0 0)),(9,(i6 (wvF 8 ws k w))),(45,(i6 (wvF 8 ws k w))),(46,(i6 (wvF 8 ws k w))),(47,(dB (fitsF (wvF 8 ws k w))))],[(.var 61 [(LI ws),(LI xs),(i6 k),(i6 w)]),(.var 57 [(i6 0),(.v .nilf),(.v .nilf)]),(.var 57 [(i6 2),(.fn (.func 49) [] []),(.fn (.func 50) [] [])])]⟩
def zwv_8_1_11 (ws xs : List Int) (k w : Int) : St := ⟨[(4,(.ptr 1 0 0 0)),(7,(.ptr 2 0 0 0)),(9,(i6 (wvF 8 ws k w))),(44,(.agg [(i6 2),(.fn (.func 49) [] []),(.fn (.func 50) [] [])])),(45,(i6 (wvF 8 ws k w))),(46,(i6 (wvF 8 ws k w))),(47,(dB (fitsF (wvF 8 ws k w))))],[(.var 61 [(LI ws),(LI xs),(i6 k),(i6 w)]),(.var 57 [(i6 0),(.v .nilf),(.v .nilf)]),(.var 57 [(i6 2),(.fn (.func 49) [] []),(.fn (.func 50) [] [])])]⟩
def zwv_8_1_12 (ws xs : List Int) (k w : Int) : St := ⟨[(4,(.ptr 1 0 0 0)),(7,(.ptr 2 0 0 0)),(9,(i6 (wvF 8 ws k w))),(44,(.agg [(i6 2),(.fn (.func 49) [] []),(.fn (.func 50) [] [])])),(46,(i6 (wvF 8 ws k w))),(47,(dB (fitsF (wvF 8 ws k w))))],[(.var 61 [(LI ws),(LI xs),(i6 k),(i6 w)]),(.var 57 [(i6 2),(.fn (.func 49) [] []),(.fn (.func 50) [] [])]),(.var 57 [(i6 2),(.fn (.func 49) [] []),(.fn (.func 50) [] [])])]⟩
def zwv_8_1_13 (ws xs : List Int) (k w : Int) : St := ⟨[(4,(.ptr 1 0 0 0)),(7,(.ptr 2 0 0 0)),(9,(i6 (wvF 8 ws k w))),(44,(.agg [(i6 2),(.fn (.func 49) [] []),(.fn (.func 50) [] [])])),(45,(i6 (wvF 8 ws k w))),(46,(i6 (wvF 8 ws k w))),(47,(dB (fitsF (wvF 8 ws k w))))],[(.var 61 [(LI ws),(LI xs),(i6 k),(i6 w)]),(.var 57 [(i6 2),(.fn (.func 49) [] []),(.fn (.func 50) [] [])]),(.var 57 [(i6 2),(.fn (.func 49) [] []),(.fn (.func 50) [] [])])]⟩
def zwv_8_1_14 (ws xs : List Int) (k w : Int) : St := ⟨[(4,(.ptr 1 0 0 0)),(5,(i6 (wvF 8 ws k w))),(7,(.ptr 2 0 0 0)),(9,(i6 (wvF 8 ws k w))),(44,(.agg [(i6 2),(.fn (.func 49) [] []),(.fn (.func 50) [] [])])),(45,(i6 (wvF 8 ws k w))),(46,(i6 (wvF 8 ws k w))),(47,(dB (fitsF (wvF 8 ws k w))))],[(.var 61 [(LI ws),(LI xs),(i6 k),(i6 w)]),(.var 57 [(i6 2),(.fn (.func 49) [] []),(.fn (.func 50) [] [])]),(.var 57 [(i6 2),(.fn (.func 49) [] []),(.fn (.func 50) [] [])])]⟩
def zwv_8_1_15 (ws xs : List Int) (k w : Int) : St := ⟨[(4,(.ptr 1 0 0 0)),(5,(i6 (wvF 8 ws k w))),(6,(dB false))],[(.var 61 [(LI ws),(LI xs),(i6 k),(i6 w)]),(.var 57 [(i6 2),(.fn (.func 49) [] []),(.fn (.func 50) [] [])]),(.var 57 [(i6 2),(.fn (.func 49) [] []),(.fn (.func 50) [] [])])]⟩
set_option maxRecDepth 100000 in
theorem width_wv_8 (ws xs : List Int) (k w : Int) (hw : ws.length ≤ 9223372036854775807) (h : okB 8 ws = true) (h3 : fitsF (wvF 8 ws k w) = false) : CallOk Try.prog 27 [(i6 8),(.agg [(LI ws),(LI xs),(i6 k),(i6 w)])] [] true (.tup [(.agg [(i6 2),(.fn (.func 49) [] []),(.fn (.func 50) [] [])]),(i6 (wvF 8 ws k w)),(dB false)]) [] := by
  refine CallOk.of_ev Try.func27 rfl rfl rfl ?_
  rintro ⟨_,W,S0,_,susp,_⟩ rfl rfl rfl
  obtain ⟨h1,h2⟩ := okB_yes h
  have hA : arityF 8 = 2 := by decide
  rw [hA] at h1
  refine Ev.seq ?_
  refine Ev.reg [] [0,3,4] (st' := ⟨[(0,(i6 8)),(3,(.ptr 0 0 0 0)),(4,(.ptr 1 0 0 0))],[(.var 61 [(LI ws),(LI xs),(i6 k),(i6 w)]),(.var 57 [(i6 0),(.v .nilf),(.v .nilf)])]⟩)
    (p := True∧True∧True∧True∧True) (by kernel_rfl)
    ⟨⟨⟩,⟨⟩,⟨⟩,⟨⟩,⟨⟩⟩ ?_
  refine Ev.seq ?_
  refine Ev.reg [(0,.call none false (.v (.mp simpleM))),(2,.idx (some 6))] [0,3,4,7,8] (st' := ⟨[(0,(i6 8)),(3,(.ptr 0 0 0 0)),(4,(.ptr 1 0 0 0)),(7,(.ptr 2 0 0 0)),(8,(dB true))],[(.var 61 [(LI ws),(LI xs),(i6 k),(i6 w)]),(.var 57 [(i6 0),(.v .nilf),(.v .nilf)]),(.var 57 [(i6 2),(.fn (.func 49) [] []),(.fn (.func 50) [] [])])]⟩)
    (p := callOb Try.prog 33 [(.var 61 [(LI ws),(LI xs),(i6 k),(i6 w)]),(.var 57 [(i6 0),(.v .nilf),(.v .nilf)])] [] none false (.v (.mp simpleM))∧True∧((8 : Int) = 8∧∀ e' ∈ simpleM.take 6,(8 : Int) ≠ e'.1)∧True∧True∧True∧True∧True∧True∧True) (by kernel_rfl)
    ⟨simple_ok,⟨⟩,(by decide),⟨⟩,⟨⟩,⟨⟩,⟨⟩,⟨⟩,⟨⟩,⟨⟩⟩ ?_
  refine Ev.seq ?_
  refine Ev.seq ?_
  refine Ev.reg [] [0,3,4,7,8,17] (st' := ⟨[(0,(i6 8)),(3,(.ptr 0 0 0 0)),(4,(.ptr 1 0 0 0)),(7,(.ptr 2 0 0 0)),(8,(dB true)),(17,(dB false))],[(.var 61 [(LI ws),(LI xs),(i6 k),(i6 w)]),(.var 57 [(i6 0),(.v .nilf),(.v .nilf)]),(.var 57 [(i6 2),(.fn (.func 49) [] []),(.fn (.func 50) [] [])])]⟩)
    (p := True∧True∧True) (by kernel_rfl)
    ⟨⟨⟩,⟨⟩,⟨⟩⟩ ?_
  refine Ev.cond false rfl (fun h => (by cases h)) (fun _ => ?_)
  refine Ev.skip ?_
  refine Ev.seq ?_
  refine Ev.seq ?_
  refine Ev.reg [(8,.val (dB false)),(13,.call none false (dB (!(ws.all fitsF)))),(14,.val (dB false))] [3,4,7,38] (st' := ⟨[(3,(.ptr 0 0 0 0)),(4,(.ptr 1 0 0 0)),(7,(.ptr 2 0 0 0)),(38,(dB false))],[(.var 61 [(LI ws),(LI xs),(i6 k),(i6 w)]),(.var 57 [(i6 0),(.v .nilf),(.v .nilf)]),(.var 57 [(i6 2),(.fn (.func 49) [] []),(.fn (.func 50) [] [])])]⟩)
    (p := True∧True∧True∧True∧True∧True∧True∧True∧(True∧(((ws.length : Nat) : Int) != 2) = false)∧True∧True∧True∧True∧callOb Try.prog 35 [(.var 61 [(LI ws),(LI xs),(i6 k),(i6 w)]),(.var 57 [(i6 0),(.v .nilf),(.v .nilf)]),(.var 57 [(i6 2),(.fn (.func 49) [] []),(.fn (.func 50) [] [])])] [(LI ws),(.fn (.func 36) [] [])] none false (dB (!(ws.all fitsF)))∧(True∧(!(ws.all fitsF)) = false)∧True) (by kernel_rfl)
    ⟨⟨⟩,⟨⟩,⟨⟩,⟨⟩,⟨⟩,⟨⟩,⟨⟩,⟨⟩,⟨⟨⟩,(by rw [h1]; rfl)⟩,⟨⟩,⟨⟩,⟨⟩,⟨⟩,(contains_ok _ (by first | omega | (simp; first | done | omega))),⟨⟨⟩,(by rw [h2]; rfl)⟩,⟨⟩⟩ ?_
  refine Ev.cond false rfl (fun h => (by cases h)) (fun _ => ?_)
  refine Ev.skip ?_
  refine Ev.seq ?_
  refine Ev.reg [(3,.call none false (i6 (min (alikeF ws) 1))),(4,.val (i6 (wvF 8 ws k w)))] [4,7,9] (st' := ⟨[(4,(.ptr 1 0 0 0)),(7,(.ptr 2 0 0 0)),(9,(i6 (wvF 8 ws k w)))],[(.var 61 [(LI ws),(LI xs),(i6 k),(i6 w)]),(.var 57 [(i6 0),(.v .nilf),(.v .nilf)]),(.var 57 [(i6 2),(.fn (.func 49) [] []),(.fn (.func 50) [] [])])]⟩)
    (p := True∧True∧True∧callOb Try.prog 49 [(.var 61 [(LI ws),(LI xs),(i6 k),(i6 w)]),(.var 57 [(i6 0),(.v .nilf),(.v .nilf)]),(.var 57 [(i6 2),(.fn (.func 49) [] []),(.fn (.func 50) [] [])])] [(.agg [(LI ws),(LI xs),(i6 k),(i6 w)])] none false (i6 (min (alikeF ws) 1))∧(True∧(min (alikeF ws) 1) = (wvF 8 ws k w))∧True) (by kernel_rfl)
    ⟨⟨⟩,⟨⟩,⟨⟩,(one_ok _ _ _ _ (by omega) (by assumption)),⟨⟨⟩,(by first | rfl | simp [wvF])⟩,⟨⟩⟩ ?_
  refine Ev.seq ?_
  refine Ev.any [(3,.call none false (dB (fitsF (wvF 8 ws k w)))),(6,.val (dB false))] [((bm 7 0),(zwv_8_1_0 ws xs k w)),((bm 7 1),(zwv_8_1_1 ws xs k w)),((bm 7 2),(zwv_8_1_2 ws xs k w)),((bm 7 4),(zwv_8_1_3 ws xs k w)),((bm 7 3),(zwv_8_1_4 ws xs k w)),((bm 7 5),(zwv_8_1_5 ws xs k w)),((bm 7 6),(zwv_8_1_6 ws xs k w)),((bm 7 12),(zwv_8_1_7 ws xs k w)),((bm 7 7),(zwv_8_1_8 ws xs k w)),((bm 7 13),(zwv_8_1_9 ws xs k w)),((bm 7 14),(zwv_8_1_10 ws xs k w)),((bm 7 15),(zwv_8_1_11 ws xs k w)),((bm 7 29),(zwv_8_1_12 ws xs k w)),((bm 7 31),(zwv_8_1_13 ws xs k w)),((bm 7 63),(zwv_8_1_14 ws xs k w)),((bm 7 127),(zwv_8_1_15 ws xs k w))] (st0 := (zwv_8_1_0 ws xs k w)) (st' := ⟨[(4,(.ptr 1 0 0 0)),(5,(i6 (wvF 8 ws k w))),(6,(dB false))],[(.var 61 [(LI ws),(LI xs),(i6 k),(i6 w)]),(.var 57 [(i6 2),(.fn (.func 49) [] []),(.fn (.func 50) [] [])]),(.var 57 [(i6 2),(.fn (.func 49) [] []),(.fn (.func 50) [] [])])]⟩)
    (p := ((((zwv_8_1_1 ws xs k w) : St) = (zwv_8_1_1 ws xs k w)∧True∧True)∧(((zwv_8_1_2 ws xs k w) : St) = (zwv_8_1_2 ws xs k w)∧True∧True)∧(((zwv_8_1_3 ws xs k w) : St) = (zwv_8_1_3 ws xs k w)∧True∧True)∧True)∧((((zwv_8_1_4 ws xs k w) : St) = (zwv_8_1_4 ws xs k w)∧True∧True)∧(((zwv_8_1_5 ws xs k w) : St) = (zwv_8_1_5 ws xs k w)∧True∧True)∧True)∧((((zwv_8_1_4 ws xs k w) : St) = (zwv_8_1_4 ws xs k w)∧True∧True)∧(((zwv_8_1_6 ws xs k w) : St) = (zwv_8_1_6 ws xs k w)∧True∧True)∧True)∧((((zwv_8_1_5 ws xs k w) : St) = (zwv_8_1_5 ws xs k w)∧True∧True)∧(((zwv_8_1_6 ws xs k w) : St) = (zwv_8_1_6 ws xs k w)∧True∧True)∧(((zwv_8_1_7 ws xs k w) : St) = (zwv_8_1_7 ws xs k w)∧callOb Try.prog 37 [(.var 61 [(LI ws),(LI xs),(i6 k),(i6 w)]),(.var 57 [(i6 0),(.v .nilf),(.v .nilf)]),(.var 57 [(i6 2),(.fn (.func 49) [] []),(.fn (.func 50) [] [])])] [(i6 (wvF 8 ws k w))] none false (dB (fitsF (wvF 8 ws k w)))∧True)∧True)∧((((zwv_8_1_8 ws xs k w) : St) = (zwv_8_1_8 ws xs k w)∧True∧True)∧True)∧((((zwv_8_1_8 ws xs k w) : St) = (zwv_8_1_8 ws xs k w)∧True∧True)∧(((zwv_8_1_9 ws xs k w) : St) = (zwv_8_1_9 ws xs k w)∧callOb Try.prog 37 [(.var 61 [(LI ws),(LI xs),(i6 k),(i6 w)]),(.var 57 [(i6 0),(.v .nilf),(.v .nilf)]),(.var 57 [(i6 2),(.fn (.func 49) [] []),(.fn (.func 50) [] [])])] [(i6 (wvF 8 ws k w))] none false (dB (fitsF (wvF 8 ws k w)))∧True)∧True)∧((((zwv_8_1_8 ws xs k w) : St) = (zwv_8_1_8 ws xs k w)∧True∧True)∧(((zwv_8_1_10 ws xs k w) : St) = (zwv_8_1_10 ws xs k w)∧callOb Try.prog 37 [(.var 61 [(LI ws),(LI xs),(i6 k),(i6 w)]),(.var 57 [(i6 0),(.v .nilf),(.v .nilf)]),(.var 57 [(i6 2),(.fn (.func 49) [] []),(.fn (.func 50) [] [])])] [(i6 (wvF 8 ws k w))] none false (dB (fitsF (wvF 8 ws k w)))∧True)∧True)∧((((zwv_8_1_9 ws xs k w) : St) = (zwv_8_1_9 ws xs k w)∧True∧True)∧(((zwv_8_1_10 ws xs k w) : St) = (zwv_8_1_10 ws xs k w)∧True∧True)∧True)∧((((zwv_8_1_11 ws xs k w) : St) = (zwv_8_1_11 ws xs k w)∧callOb Try.prog 37 [(.var 61 [(LI ws),(LI xs),(i6 k),(i6 w)]),(.var 57 [(i6 0),(.v .nilf),(.v .nilf)]),(.var 57 [(i6 2),(.fn (.func 49) [] []),(.fn (.func 50) [] [])])] [(i6 (wvF 8 ws k w))] none false (dB (fitsF (wvF 8 ws k w)))∧True)∧True)∧((((zwv_8_1_11 ws xs k w) : St) = (zwv_8_1_11 ws xs k w)∧True∧True)∧(((zwv_8_1_12 ws xs k w) : St) = (zwv_8_1_12 ws xs k w)∧True∧True)∧True)∧((((zwv_8_1_11 ws xs k w) : St) = (zwv_8_1_11 ws xs k w)∧True∧True)∧True)∧((((zwv_8_1_13 ws xs k w) : St) = (zwv_8_1_13 ws xs k w)∧True∧True)∧True)∧((((zwv_8_1_13 ws xs k w) : St) = (zwv_8_1_13 ws xs k w)∧True∧True)∧True)∧((((zwv_8_1_14 ws xs k w) : St) = (zwv_8_1_14 ws xs k w)∧True∧True)∧True)∧((((zwv_8_1_15 ws xs k w) : St) = (zwv_8_1_15 ws xs k w)∧(True∧(fitsF (wvF 8 ws k w)) = false)∧True)∧True)∧True∧True) (by kernel_rfl) (by kernel_rfl) (by kernel_rfl) (by kernel_rfl) (by kernel_rfl) (by kernel_rfl)
    ⟨⟨⟨rfl,⟨⟩,⟨⟩⟩,⟨rfl,⟨⟩,⟨⟩⟩,⟨rfl,⟨⟩,⟨⟩⟩,⟨⟩⟩,⟨⟨rfl,⟨⟩,⟨⟩⟩,⟨rfl,⟨⟩,⟨⟩⟩,⟨⟩⟩,⟨⟨rfl,⟨⟩,⟨⟩⟩,⟨rfl,⟨⟩,⟨⟩⟩,⟨⟩⟩,⟨⟨rfl,⟨⟩,⟨⟩⟩,⟨rfl,⟨⟩,⟨⟩⟩,⟨rfl,(fits_ok _),⟨⟩⟩,⟨⟩⟩,⟨⟨rfl,⟨⟩,⟨⟩⟩,⟨⟩⟩,⟨⟨rfl,⟨⟩,⟨⟩⟩,⟨rfl,(fits_ok _),⟨⟩⟩,⟨⟩⟩,⟨⟨rfl,⟨⟩,⟨⟩⟩,⟨rfl,(fits_ok _),⟨⟩⟩,⟨⟩⟩,⟨⟨rfl,⟨⟩,⟨⟩⟩,⟨rfl,⟨⟩,⟨⟩⟩,⟨⟩⟩,⟨⟨rfl,(fits_ok _),⟨⟩⟩,⟨⟩⟩,⟨⟨rfl,⟨⟩,⟨⟩⟩,⟨rfl,⟨⟩,⟨⟩⟩,⟨⟩⟩,⟨⟨rfl,⟨⟩,⟨⟩⟩,⟨⟩⟩,⟨⟨rfl,⟨⟩,⟨⟩⟩,⟨⟩⟩,⟨⟨rfl,⟨⟩,⟨⟩⟩,⟨⟩⟩,⟨⟨rfl,⟨⟩,⟨⟩⟩,⟨⟩⟩,⟨⟨rfl,⟨⟨⟩,(by first | exact h3 | simpa [wvF] using h3)⟩,⟨⟩⟩,⟨⟩⟩,⟨⟩,⟨⟩⟩ ?_
  refine Ev.ret ?_
  refine ⟨⟨⟨⟩,⟨⟩,⟨⟩,⟨⟩⟩,(?_ : ((2 : Int) = 2∧((.fn (.func 49) [] []) : D) = (.fn (.func 49) [] [])∧((.fn (.func 50) [] []) : D) = (.fn (.func 50) [] [])∧True)∧(wvF 8 ws k w) = (wvF 8 ws k w)∧false = false∧True),.inl rfl⟩
  exact ⟨⟨rfl,rfl,rfl,⟨⟩⟩,rfl,rfl,⟨⟩⟩

def zg_9_1_0 (ws xs : List Int) (k w : Int) : St := ⟨[(4,(.ptr 1 0 0 0)),(7,(.ptr 2 0 0 0)),(9,(i6 (wvF 9 ws k w)))],[(.var 61 [(LI ws),(LI xs),(i6 k),(i6 w)]),(.var 57 [(i6 0),(.v .nilf),(.v .nilf)]),(.var 57 [(i6 2),(.fn (.func 49) [] []),(.fn (.func 51) [] [])])]⟩
def zg_9_1_1 (ws xs : List Int) (k w : Int) : St := ⟨[(4,(.ptr 1 0 0 0)),(7,(.ptr 2 0 0 0)),(9,(i6 (wvF 9 ws k w))),(44,(.agg [(i6 2),(.fn (.func 49) [] []),(.fn (.func 51) [] [])]))],[(.var 61 [(LI ws),(LI xs),(i6 k),(i6 w)]),(.var 57 [(i6 0),(.v .nilf),(.v .nilf)]),(.var 57 [(i6 2),(.fn (.func 49) [] []),(.fn (.func 51) [] [])])]⟩
def zg_9_1_2 (ws xs : List Int) (k w : Int) : St := ⟨[(4,(.ptr 1 0 0 0)),(7,(.ptr 2 0 0 0)),(9,(i6 (wvF 9 ws k w))),(45,(i6 (wvF 9 ws k w)))],[(.var 61 [(LI ws),(LI xs),(i6 k),(i6 w)]),(.var 57 [(i6 0),(.v .nilf),(.v .nilf)]),(.var 57 [(i6 2),(.fn (.func 49) [] []),(.fn (.func 51) [] [])])]⟩
def zg_9_1_3 (ws xs : List Int) (k w : Int) : St := ⟨[(4,(.ptr 1 0 0 0)),(7,(.ptr 2 0 0 0)),(9,(i6 (wvF 9 ws k w))),(46,(i6 (wvF 9 ws k w)))],[(.var 61 [(LI ws),(LI xs),(i6 k),(i6 w)]),(.var 57 [(i6 0),(.v .nilf),(.v .nilf)]),(.var 57 [(i6 2),(.fn (.func 49) [] []),(.fn (.func 51) [] [])])]⟩
def zg_9_1_4 (ws xs : List Int) (k w : Int) : St := ⟨[(4,(.ptr 1 0 0 0)),(7,(.ptr 2 0 0 0)),(9,(i6 (wvF 9 ws k w))),(44,(.agg [(i6 2),(.fn (.func 49) [] []),(.fn (.func 51) [] [])])),(45,(i6 (wvF 9 ws k w)))],[(.var 61 [(LI ws),(LI xs),(i6 k),(i6 w)]),(.var 57 [(i6 0),(.v .nilf),(.v .nilf)]),(.var 57 [(i6 2),(.fn (.func 49) [] []),(.fn (.func 51) [] [])])]⟩
def zg_9_1_5 (ws xs : List Int) (k w : Int) : St := ⟨[(4,(.ptr 1 0 0 0)),(7,(.ptr 2 0 0 0)),(9,(i6 (wvF 9 ws k w))),(44,(.agg [(i6 2),(.fn (.func 49) [] []),(.fn (.func 51) [] [])])),(46,(i6 (wvF 9 ws k w)))],[(.var 61 [(LI ws),(LI xs),(i6 k),(i6 w)]),(.var 57 [(i6 0),(.v .nilf),(.v .nilf)]),(.var 57 [(i6 2),(.fn (.func 49) [] []),(.fn (.func 51) [] [])])]⟩
def zg_9_1_6 (ws xs : List Int) (k w : Int) : St := ⟨[(4,(.ptr 1 0 0 0)),(7,(.ptr 2 0 0 0)),(9,(i6 (wvF 9 ws k w))),(45,(i6 (wvF 9 ws k w))),(46,(i6 (wvF 9 ws k w)))],[(.var 61 [(LI ws),(LI xs),(i6 k),(i6 w)]),(.var 57 [(i6 0),(.v .nilf),(.v .nilf)]),(.var 57 [(i6 2),(.fn (.func 49) [] []),(.fn (.func 51) [] [])])]⟩
def zg_9_1_7 (ws xs : List Int) (k w : Int) : St := ⟨[(4,(.ptr 1 0 0 0)),(7,(.ptr 2 0 0 0)),(9,(i6 (wvF 9 ws k w))),(46,(i6 (wvF 9 ws k w))),(47,(dB (fitsF (wvF 9 ws k w))))],[(.var 61 [(LI ws),(LI xs),(i6 k),(i6 w)]),(.var 57 [(i6 0),(.v .nilf),(.v .nilf)]),(.var 57 [(i6 2),(.fn (.func 49) [] []),(.fn (.func 51) [] [])])]⟩
def zg_9_1_8 (ws xs : List Int) (k w : Int) : St := ⟨[(4,(.ptr 1 0 0 0)),(7,(.ptr 2 0 0 0)),(9,(i6 (wvF 9 ws k w))),(44,(.agg [(i6 2),(.fn (.func 49) [] []),(.fn (.func 51) [] [])])),(45,(i6 (wvF 9 ws k w))),(46,(i6 (wvF 9 ws k w)))],[(.var 61 [(LI ws),(LI xs),(i6 k),(i6 w)]),(.var 57 [(i6 0),(.v .nilf),(.v .nilf)]),(.var 57 [(i6 2),(.fn (.func 49) [] []),(.fn (.func 51) [] [])])]⟩
def zg_9_1_9 (ws xs : List Int) (k w : Int) : St := ⟨[(4,(.ptr 1 0 0 0)),(7,(.ptr 2 0 0 0)),(9,(i6 (wvF 9 ws k w))),(44,(.agg [(i6 2),(.fn (.func 49) [] []),(.fn (.func 51) [] [])])),(46,(i6 (wvF 9 ws k w))),(47,(dB (fitsF (wvF 9 ws k w))))],[(.var 61 [(LI ws),(LI xs),(i6 k),(i6 w)]),(.var 57 [(i6 0),(.v .nilf),(.v .nilf)]),(.var 57 [(i6 2),(.fn (.func 49) [] []),(.fn (.func 51) [] [])])]⟩
def zg_9_1_10 (ws xs : List Int) (k w : Int) : St := ⟨[(4,(.ptr 1 0 0 0)),(7,(.ptr 2 0 0 0)),(9,(i6 (wvF 9 ws k w))),(45,(i6 (wvF 9 ws k w))),(46,(i6 (wvF 9 ws k w))),(47,(dB (fitsF (wvF 9 ws k w))))],[(.var 61 [(LI ws),(LI xs),(i6 k),(i6 w)]),(.var 57 [(i6 0),(.v .nilf),(.v .nilf)]),(.var 57 [(i6 2),(.fn (.func 49) [] []),(.fn (.func 51) [] [])])]⟩
def zg_9_1_11 (ws xs : List Int) (k w : Int) : St := ⟨[(4,(.ptr 1 0 0 0)),(7,(.ptr 2 0 0 0)),(9,(i6 (wvF 9 ws k w))),(44,(.agg [(i6 2),(.fn (.func 49) [] []),(.fn (.func 51) [] [])])),(45,(i6 (wvF 9 ws k w))),(46,(i6 (wvF 9 ws k w))),(47,(dB (fitsF (wvF 9 ws k w))))],[(.var 61 [(LI ws),(LI xs),(i6 k),(i6 w)]),(.var 57 [(i6 0),(.v .nilf),(.v .nilf)]),(.var 57 [(i6 2),(.fn (.func 49) [] []),(.fn (.func 51) [] [])])]⟩
def zg_9_1_12 (ws xs : List Int) (k w : Int) : St := ⟨[(4,(.ptr 1 0 0 0)),(7,(.ptr 2 0 0 0)),(9,(i6 (wvF 9 ws k w))),(44,(.agg [(i6 2),(.fn (.func 49) [] []),(.fn (.func 51) [] [])])),(46,(i6 (wvF 9 ws k w))),(47,(dB (fitsF (wvF 9 ws k w))))],[(.var 61 [(LI ws),(LI xs),(i6 k),(i6 w)]),(.var 57 [(i6 2),(.fn (.func 49) [] []),(.fn (.func 51) [] [])]),(.var 57 [(i6 2),(.fn (.func 49) [] []),(.fn (.func 51) [] [])])]⟩
def zg_9_1_13 (ws xs : List Int) (k w : Int) : St := ⟨[(4,(.ptr 1 0 0 0)),(7,(.ptr 2 0 0 0)),(9,(i6 (wvF 9 ws k w))),(44,(.agg [(i6 2),(.fn (.func 49) [] []),(.fn (.func 51) [] [])])),(45,(i6 (wvF 9 ws k w))),(46,(i6 (wvF 9 ws k w))),(47,(dB (fitsF (wvF 9 ws k w))))],[(.var 61 [(LI ws),(LI xs),(i6 k),(i6 w)]),(.var 57 [(i6 2),(.fn (.func 49) [] []),(.fn (.func 51) [] [])]),(.var 57 [(i6 2),(.fn (.func 49) [] []),(.fn (.func 51) [] [])])]⟩
def zg_9_1_14 (ws xs : List Int) (k w : Int) : St := ⟨[(4,(.ptr 1 0 0 0)),(5,(i6 (wvF 9 ws k w))),(7,(.ptr 2 0 0 0)),(9,(i6 (wvF 9 ws k w))),(44,(.agg [(i6 2),(.fn (.func 49) [] []),(.fn (.func 51) [] [])])),(45,(i6 (wvF 9 ws k w))),(46,(i6 (wvF 9 ws k w))),(47,(dB (fitsF (wvF 9 ws k w))))],[(.var 61 [(LI ws),(LI xs),(i6 k),(i6 w)]),(.var 57 [(i6 2),(.fn (.func 49) [] []),(.fn (.func 51) [] [])]),(.var 57 [(i6 2),(.fn (.func 49) [] []),(.fn (.func 51) [] [])])]⟩
def zg_9_1_15 (ws xs : List Int) (k w : Int) : St := ⟨[(4,(.ptr 1 0 0 0)),(5,(i6 (wvF 9 ws k w))),(6,(dB true))],[(.var 61 [(LI ws),(LI xs),(i6 k),(i6 w)]),(.var 57 [(i6 2),(.fn (.func 49) [] []),(.fn (.func 51) [] [])]),(.var 57 [(i6 2),(.fn (.func 49) [] []),(.fn (.func 51) [] [])])]⟩
set_option maxRecDepth 100000 in
theorem width_good_9 (ws xs : List Int) (k w : Int) (hw : ws.length ≤ 9223372036854775807) (h : okF 9 ws k w = true) : CallOk Try.prog 27 [(i6 9),(.agg [(LI ws),(LI xs),(i6 k),(i6 w)])] [] true (.tup [(.agg [(i6 2),(.fn (.func 49) [] []),(.fn (.func 51) [] [])]),(i6 (wvF 9 ws k w)),(dB true)]) [] := by
  refine CallOk.of_ev Try.func27 rfl rfl rfl ?_
  rintro ⟨_,W,S0,_,susp,_⟩ rfl rfl rfl
  obtain ⟨h1,h2,h3⟩ := ok_yes h
  have hA : arityF 9 = 2 := by decide
  rw [hA] at h1
  refine Ev.seq ?_
  refine Ev.reg [] [0,3,4] (st' := ⟨[(0,(i6 9)),(3,(.ptr 0 0 0 0)),(4,(.ptr 1 0 0 0))],[(.var 61 [(LI ws),(LI xs),(i6 k),(i6 w)]),(.var 57 [(i6 0),(.v .nilf),(.v .nilf)])]⟩)
    (p := True∧True∧True∧True∧True) (by kernel_rfl)
    ⟨⟨⟩,⟨⟩,⟨⟩,⟨⟩,⟨⟩⟩ ?_
  refine Ev.seq ?_
  refine Ev.reg [(0,.call none false (.v (.mp simpleM))),(2,.idx (some 7))] [0,3,4,7,8] (st' := ⟨[(0,(i6 9)),(3,(.ptr 0 0 0 0)),(4,(.ptr 1 0 0 0)),(7,(.ptr 2 0 0 0)),(8,(dB true))],[(.var 61 [(LI ws),(LI xs),(i6 k),(i6 w)]),(.var 57 [(i6 0),(.v .nilf),(.v .nilf)]),(.var 57 [(i6 2),(.fn (.func 49) [] []),(.fn (.func 51) [] [])])]⟩)
    (p := callOb Try.prog 33 [(.var 61 [(LI ws),(LI xs),(i6 k),(i6 w)]),(.var 57 [(i6 0),(.v .nilf),(.v .nilf)])] [] none false (.v (.mp simpleM))∧True∧((9 : Int) = 9∧∀ e' ∈ simpleM.take 7,(9 : Int) ≠ e'.1)∧True∧True∧True∧True∧True∧True∧True) (by kernel_rfl)
    ⟨simple_ok,⟨⟩,(by decide),⟨⟩,⟨⟩,⟨⟩,⟨⟩,⟨⟩,⟨⟩,⟨⟩⟩ ?_
  refine Ev.seq ?_
  refine Ev.seq ?_
  refine Ev.reg [] [0,3,4,7,8,17] (st' := ⟨[(0,(i6 9)),(3,(.ptr 0 0 0 0)),(4,(.ptr 1 0 0 0)),(7,(.ptr 2 0 0 0)),(8,(dB true)),(17,(dB false))],[(.var 61 [(LI ws),(LI xs),(i6 k),(i6 w)]),(.var 57 [(i6 0),(.v .nilf),(.v .nilf)]),(.var 57 [(i6 2),(.fn (.func 49) [] []),(.fn (.func 51) [] [])])]⟩)
    (p := True∧True∧True) (by kernel_rfl)
    ⟨⟨⟩,⟨⟩,⟨⟩⟩ ?_
  refine Ev.cond false rfl (fun h => (by cases h)) (fun _ => ?_)
  refine Ev.skip ?_
  refine Ev.seq ?_
  refine Ev.seq ?_
  refine Ev.reg [(8,.val (dB false)),(13,.call none false (dB (!(ws.all fitsF)))),(14,.val (dB false))] [3,4,7,38] (st' := ⟨[(3,(.ptr 0 0 0 0)),(4,(.ptr 1 0 0 0)),(7,(.ptr 2 0 0 0)),(38,(dB false))],[(.var 61 [(LI ws),(LI xs),(i6 k),(i6 w)]),(.var 57 [(i6 0),(.v .nilf),(.v .nilf)]),(.var 57 [(i6 2),(.fn (.func 49) [] []),(.fn (.func 51) [] [])])]⟩)
    (p := True∧True∧True∧True∧True∧True∧True∧True∧(True∧(((ws.length : Nat) : Int) != 2) = false)∧True∧True∧True∧True∧callOb Try.prog 35 [(.var 61 [(LI ws),(LI xs),(i6 k),(i6 w)]),(.var 57 [(i6 0),(.v .nilf),(.v .nilf)]),(.var 57 [(i6 2),(.fn (.func 49) [] []),(.fn (.func 51) [] [])])] [(LI ws),(.fn (.func 36) [] [])] none false (dB (!(ws.all fitsF)))∧(True∧(!(ws.all fitsF)) = false)∧True) (by kernel_rfl)
    ⟨⟨⟩,⟨⟩,⟨⟩,⟨⟩,⟨⟩,⟨⟩,⟨⟩,⟨⟩,⟨⟨⟩,(by rw [h1]; rfl)⟩,⟨⟩,⟨⟩,⟨⟩,⟨⟩,(contains_ok _ (by first | omega | (simp; first | done | omega))),⟨⟨⟩,(by rw [h2]; rfl)⟩,⟨⟩⟩ ?_
  refine Ev.cond false rfl (fun h => (by cases h)) (fun _ => ?_)
  refine Ev.skip ?_
  refine Ev.seq ?_
  refine Ev.reg [(3,.call none false (i6 (min (alikeF ws) 1))),(4,.val (i6 (wvF 9 ws k w)))] [4,7,9] (st' := ⟨[(4,(.ptr 1 0 0 0)),(7,(.ptr 2 0 0 0)),(9,(i6 (wvF 9 ws k w)))],[(.var 61 [(LI ws),(LI xs),(i6 k),(i6 w)]),(.var 57 [(i6 0),(.v .nilf),(.v .nilf)]),(.var 57 [(i6 2),(.fn (.func 49) [] []),(.fn (.func 51) [] [])])]⟩)
    (p := True∧True∧True∧callOb Try.prog 49 [(.var 61 [(LI ws),(LI xs),(i6 k),(i6 w)]),(.var 57 [(i6 0),(.v .nilf),(.v .nilf)]),(.var 57 [(i6 2),(.fn (.func 49) [] []),(.fn (.func 51) [] [])])] [(.agg [(LI ws),(LI xs),(i6 k),(i6 w)])] none false (i6 (min (alikeF ws) 1))∧(True∧(min (alikeF ws) 1) = (wvF 9 ws k w))∧True) (by kernel_rfl)
    ⟨⟨⟩,⟨⟩,⟨⟩,(one_ok _ _ _ _ (by omega) (by assumption)),⟨⟨⟩,(by first | rfl | simp [wvF])⟩,⟨⟩⟩ ?_
  refine Ev.seq ?_
  refine Ev.any [(3,.call none false (dB (fitsF (wvF 9 ws k w)))),(6,.val (dB true))] [((bm 7 0),(zg_9_1_0 ws xs k w)),((bm 7 1),(zg_9_1_1 ws xs k w)),((bm 7 2),(zg_9_1_2 ws xs k w)),((bm 7 4),(zg_9_1_3 ws xs k w)),((bm 7 3),(zg_9_1_4 ws xs k w)),((bm 7 5),(zg_9_1_5 ws xs k w)),((bm 7 6),(zg_9_1_6 ws xs k w)),((bm 7 12),(zg_9_1_7 ws xs k w)),((bm 7 7),(zg_9_1_8 ws xs k w)),((bm 7 13),(zg_9_1_9 ws xs k w)),((bm 7 14),(zg_9_1_10 ws xs k w)),((bm 7 15),(zg_9_1_11 ws xs k w)),((bm 7 29),(zg_9_1_12 ws xs k w)),((bm 7 31),(zg_9_1_13 ws xs k w)),((bm 7 63),(zg_9_1_14 ws xs k w)),((bm 7 127),(zg_9_1_15 ws xs k w))] (st0 := (zg_9_1_0 ws xs k w)) (st' := ⟨[(4,(.ptr 1 0 0 0)),(5,(i6 (wvF 9 ws k w))),(6,(dB true))],[(.var 61 [(LI ws),(LI xs),(i6 k),(i6 w)]),(.var 57 [(i6 2),(.fn (.func 49) [] []),(.fn (.func 51) [] [])]),(.var 57 [(i6 2),(.fn (.func 49) [] []),(.fn (.func 51) [] [])])]⟩)
    (p := ((((zg_9_1_1 ws xs k w) : St) = (zg_9_1_1 ws xs k w)∧True∧True)∧(((zg_9_1_2 ws xs k w) : St) = (zg_9_1_2 ws xs k w)∧True∧True)∧(((zg_9_1_3 ws xs k w) : St) = (zg_9_1_3 ws xs k w)∧True∧True)∧True)∧((((zg_9_1_4 ws xs k w) : St) = (zg_9_1_4 ws xs k w)∧True∧True)∧(((zg_9_1_5 ws xs k w) : St) = (zg_9_1_5 ws xs k w)∧True∧True)∧True)∧((((zg_9_1_4 ws xs k w) : St) = (zg_9_1_4 ws xs k w)∧True∧True)∧(((zg_9_1_6 ws xs k w) : St) = (zg_9_1_6 ws xs k w)∧True∧True)∧True)∧((((zg_9_1_5 ws xs k w) : St) = (zg_9_1_5 ws xs k w)∧True∧True)∧(((zg_9_1_6 ws xs k w) : St) = (zg_9_1_6 ws xs k w)∧True∧True)∧(((zg_9_1_7 ws xs k w) : St) = (zg_9_1_7 ws xs k w)∧callOb Try.prog 37 [(.var 61 [(LI ws),(LI xs),(i6 k),(i6 w)]),(.var 57 [(i6 0),(.v .nilf),(.v .nilf)]),(.var 57 [(i6 2),(.fn (.func 49) [] []),(.fn (.func 51) [] [])])] [(i6 (wvF 9 ws k w))] none false (dB (fitsF (wvF 9 ws k w)))∧True)∧True)∧((((zg_9_1_8 ws xs k w) : St) = (zg_9_1_8 ws xs k w)∧True∧True)∧True)∧((((zg_9_1_8 ws xs k w) : St) = (zg_9_1_8 ws xs k w)∧True∧True)∧(((zg_9_1_9 ws xs k w) : St) = (zg_9_1_9 ws xs k w)∧callOb Try.prog 37 [(.var 61 [(LI ws),(LI xs),(i6 k),(i6 w)]),(.var 57 [(i6 0),(.v .nilf),(.v .nilf)]),(.var 57 [(i6 2),(.fn (.func 49) [] []),(.fn (.func 51) [] [])])] [(i6 (wvF 9 ws k w))] none false (dB (fitsF (wvF 9 ws k w)))∧True)∧True)∧((((zg_9_1_8 ws xs k w) : St) = (zg_9_1_8 ws xs k w)∧True∧True)∧(((zg_9_1_10 ws xs k w) : St) = (zg_9_1_10 ws xs k w)∧callOb Try.prog 37 [(.var 61 [(LI ws),(LI xs),(i6 k),(i6 w)]),(.var 57 [(i6 0),(.v .nilf),(.v .nilf)]),(.var 57 [(i6 2),(.fn (.func 49) [] []),(.fn (.func 51) [] [])])] [(i6 (wvF 9 ws k w))] none false (dB (fitsF (wvF 9 ws k w)))∧True)∧True)∧((((zg_9_1_9 ws xs k w) : St) = (zg_9_1_9 ws xs k w)∧True∧True)∧(((zg_9_1_10 ws xs k w) : St) = (zg_9_1_10 ws xs k w)∧True∧True)∧True)∧((((zg_9_1_11 ws xs k w) : St) = (zg_9_1_11 ws xs k w)∧callOb Try.prog 37 [(.var 61 [(LI ws),(LI xs),(i6 k),(i6 w)]),(.var 57 [(i6 0),(.v .nilf),(.v .nilf)]),(.var 57 [(i6 2),(.fn (.func 49) [] []),(.fn (.func 51) [] [])])] [(i6 (wvF 9 ws k w))] none false (dB (fitsF (wvF 9 ws k w)))∧True)∧True)∧((((zg_9_1_11 ws xs k w) : St) = (zg_9_1_11 ws xs k w)∧True∧True)∧(((zg_9_1_12 ws xs k w) : St) = (zg_9_1_12 ws xs k w)∧True∧True)∧True)∧((((zg_9_1_11 ws xs k w) : St) = (zg_9_1_11 ws xs k w)∧True∧True)∧True)∧((((zg_9_1_13 ws xs k w) : St) = (zg_9_1_13 ws xs k w)∧True∧True)∧True)∧((((zg_9_1_13 ws xs k w) : St) = (zg_9_1_13 ws xs k w)∧True∧True)∧True)∧((((zg_9_1_14 ws xs k w) : St) = (zg_9_1_14 ws xs k w)∧True∧True)∧True)∧((((zg_9_1_15 ws xs k w) : St) = (zg_9_1_15 ws xs k w)∧(True∧(fitsF (wvF 9 ws k w)) = true)∧True)∧True)∧True∧True) (by kernel_rfl) (by kernel_rfl) (by kernel_rfl) (by kernel_rfl) (by kernel_rfl) (by kernel_rfl)
    ⟨⟨⟨rfl,⟨⟩,⟨⟩⟩,⟨rfl,⟨⟩,⟨⟩⟩,⟨rfl,⟨⟩,⟨⟩⟩,⟨⟩⟩,⟨⟨rfl,⟨⟩,⟨⟩⟩,⟨rfl,⟨⟩,⟨⟩⟩,⟨⟩⟩,⟨⟨rfl,⟨⟩,⟨⟩⟩,⟨rfl,⟨⟩,⟨⟩⟩,⟨⟩⟩,⟨⟨rfl,⟨⟩,⟨⟩⟩,⟨rfl,⟨⟩,⟨⟩⟩,⟨rfl,(fits_ok _),⟨⟩⟩,⟨⟩⟩,⟨⟨rfl,⟨⟩,⟨⟩⟩,⟨⟩⟩,⟨⟨rfl,⟨⟩,⟨⟩⟩,⟨rfl,(fits_ok _),⟨⟩⟩,⟨⟩⟩,⟨⟨rfl,⟨⟩,⟨⟩⟩,⟨rfl,(fits_ok _),⟨⟩⟩,⟨⟩⟩,⟨⟨rfl,⟨⟩,⟨⟩⟩,⟨rfl,⟨⟩,⟨⟩⟩,⟨⟩⟩,⟨⟨rfl,(fits_ok _),⟨⟩⟩,⟨⟩⟩,⟨⟨rfl,⟨⟩,⟨⟩⟩,⟨rfl,⟨⟩,⟨⟩⟩,⟨⟩⟩,⟨⟨rfl,⟨⟩,⟨⟩⟩,⟨⟩⟩,⟨⟨rfl,⟨⟩,⟨⟩⟩,⟨⟩⟩,⟨⟨rfl,⟨⟩,⟨⟩⟩,⟨⟩⟩,⟨⟨rfl,⟨⟩,⟨⟩⟩,⟨⟩⟩,⟨⟨rfl,⟨⟨⟩,(by first | exact h3 | simpa [wvF] using h3)⟩,⟨⟩⟩,⟨⟩⟩,⟨⟩,⟨⟩⟩ ?_
  refine Ev.ret ?_
  refine ⟨⟨⟨⟩,⟨⟩,⟨⟩,⟨⟩⟩,(?_ : ((2 : Int) = 2∧((.fn (.func 49) [] []) : D) = (.fn (.func 49) [] [])∧((.fn (.func 51) [] []) : D) = (.fn (.func 51) [] [])∧True)∧(wvF 9 ws k w) = (wvF 9 ws k w)∧true = true∧True),.inl rfl⟩
  exact ⟨⟨rfl,rfl,rfl,⟨⟩⟩,rfl,rfl,⟨⟩⟩

set_option maxRecDepth 100000 in
theorem width_bad_9 (ws xs : List Int) (k w : Int) (hw : ws.length ≤ 9223372036854775807) (h : okB 9 ws = false) : CallOk Try.prog 27 [(i6 9),(.agg [(LI ws),(LI xs),(i6 k),(i6 w)])] [] true (.tup [(.agg [(i6 0),(.v .nilf),(.v .nilf)]),(i6 0),(dB false)]) [] := by
  refine CallOk.of_ev Try.func27 rfl rfl rfl ?_
  rintro ⟨_,W,S0,_,susp,_⟩ rfl rfl rfl
  refine Ev.seq ?_
  refine Ev.reg [] [0,3,4] (st' := ⟨[(0,(i6 9)),(3,(.ptr 0 0 0 0)),(4,(.ptr 1 0 0 0))],[(.var 61 [(LI ws),(LI xs),(i6 k),(i6 w)]),(.var 57 [(i6 0),(.v .nilf),(.v .nilf)])]⟩)
    (p := True∧True∧True∧True∧True) (by kernel_rfl)
    ⟨⟨⟩,⟨⟩,⟨⟩,⟨⟩,⟨⟩⟩ ?_
  refine Ev.seq ?_
  refine Ev.reg [(0,.call none false (.v (.mp simpleM))),(2,.idx (some 7))] [0,3,4,7,8] (st' := ⟨[(0,(i6 9)),(3,(.ptr 0 0 0 0)),(4,(.ptr 1 0 0 0)),(7,(.ptr 2 0 0 0)),(8,(dB true))],[(.var 61 [(LI ws),(LI xs),(i6 k),(i6 w)]),(.var 57 [(i6 0),(.v .nilf),(.v .nilf)]),(.var 57 [(i6 2),(.fn (.func 49) [] []),(.fn (.func 51) [] [])])]⟩)
    (p := callOb Try.prog 33 [(.var 61 [(LI ws),(LI xs),(i6 k),(i6 w)]),(.var 57 [(i6 0),(.v .nilf),(.v .nilf)])] [] none false (.v (.mp simpleM))∧True∧((9 : Int) = 9∧∀ e' ∈ simpleM.take 7,(9 : Int) ≠ e'.1)∧True∧True∧True∧True∧True∧True∧True) (by kernel_rfl)
    ⟨simple_ok,⟨⟩,(by decide),⟨⟩,⟨⟩,⟨⟩,⟨⟩,⟨⟩,⟨⟩,⟨⟩⟩ ?_
  refine Ev.seq ?_
  refine Ev.seq ?_
  refine Ev.reg [] [0,3,4,7,8,17] (st' := ⟨[(0,(i6 9)),(3,(.ptr 0 0 0 0)),(4,(.ptr 1 0 0 0)),(7,(.ptr 2 0 0 0)),(8,(dB true)),(17,(dB false))],[(.var 61 [(LI ws),(LI xs),(i6 k),(i6 w)]),(.var 57 [(i6 0),(.v .nilf),(.v .nilf)]),(.var 57 [(i6 2),(.fn (.func 49) [] []),(.fn (.func 51) [] [])])]⟩)
    (p := True∧True∧True) (by kernel_rfl)
    ⟨⟨⟩,⟨⟩,⟨⟩⟩ ?_
  refine Ev.cond false rfl (fun h => (by cases h)) (fun _ => ?_)
  refine Ev.skip ?_
  refine Ev.seq ?_
  refine Ev.seq ?_
  rcases okB_no h with h1 | ⟨h1,h2⟩
  · skip
    have hA : arityF 9 = 2 := by decide
    rw [hA] at h1
    refine Ev.reg [(8,.val (dB true))] [3,4,7,38] (st' := ⟨[(3,(.ptr 0 0 0 0)),(4,(.ptr 1 0 0 0)),(7,(.ptr 2 0 0 0)),(38,(dB true))],[(.var 61 [(LI ws),(LI xs),(i6 k),(i6 w)]),(.var 57 [(i6 0),(.v .nilf),(.v .nilf)]),(.var 57 [(i6 2),(.fn (.func 49) [] []),(.fn (.func 51) [] [])])]⟩)
      (p := True∧True∧True∧True∧True∧True∧True∧True∧(True∧(((ws.length : Nat) : Int) != 2) = true)∧True∧True∧True∧True∧True∧True∧True) (by kernel_rfl)
      ⟨⟨⟩,⟨⟩,⟨⟩,⟨⟩,⟨⟩,⟨⟩,⟨⟩,⟨⟩,⟨⟨⟩,(by exact bne_iff_ne.2 (by omega))⟩,⟨⟩,⟨⟩,⟨⟩,⟨⟩,⟨⟩,⟨⟩,⟨⟩⟩ ?_
    refine Ev.cond true rfl (fun _ => ?_) (fun h => (by cases h))
    refine Ev.seq ?_
    refine Ev.reg [] [4,5,6] (st' := ⟨[(4,(.ptr 1 0 0 0)),(5,(i6 0)),(6,(dB false))],[(.var 61 [(LI ws),(LI xs),(i6 k),(i6 w)]),(.var 57 [(i6 0),(.v .nilf),(.v .nilf)]),(.var 57 [(i6 2),(.fn (.func 49) [] []),(.fn (.func 51) [] [])])]⟩)
      (p := True∧True∧True∧True∧True) (by kernel_rfl)
      ⟨⟨⟩,⟨⟩,⟨⟩,⟨⟩,⟨⟩⟩ ?_
    refine Ev.ret ?_
    refine ⟨⟨⟨⟩,⟨⟩,⟨⟩,⟨⟩⟩,(?_ : ((0 : Int) = 0∧True∧True∧True)∧(0 : Int) = 0∧false = false∧True),.inl rfl⟩
    exact ⟨⟨rfl,⟨⟩,⟨⟩,⟨⟩⟩,rfl,rfl,⟨⟩⟩
  · skip
    have hA : arityF 9 = 2 := by decide
    rw [hA] at h1
    refine Ev.reg [(8,.val (dB false)),(13,.call none false (dB (!(ws.all fitsF)))),(14,.val (dB true))] [3,4,7,38] (st' := ⟨[(3,(.ptr 0 0 0 0)),(4,(.ptr 1 0 0 0)),(7,(.ptr 2 0 0 0)),(38,(dB true))],[(.var 61 [(LI ws),(LI xs),(i6 k),(i6 w)]),(.var 57 [(i6 0),(.v .nilf),(.v .nilf)]),(.var 57 [(i6 2),(.fn (.func 49) [] []),(.fn (.func 51) [] [])])]⟩)
      (p := True∧True∧True∧True∧True∧True∧True∧True∧(True∧(((ws.length : Nat) : Int) != 2) = false)∧True∧True∧True∧True∧callOb Try.prog 35 [(.var 61 [(LI ws),(LI xs),(i6 k),(i6 w)]),(.var 57 [(i6 0),(.v .nilf),(.v .nilf)]),(.var 57 [(i6 2),(.fn (.func 49) [] []),(.fn (.func 51) [] [])])] [(LI ws),(.fn (.func 36) [] [])] none false (dB (!(ws.all fitsF)))∧(True∧(!(ws.all fitsF)) = true)∧True) (by kernel_rfl)
      ⟨⟨⟩,⟨⟩,⟨⟩,⟨⟩,⟨⟩,⟨⟩,⟨⟩,⟨⟩,⟨⟨⟩,(by rw [h1]; rfl)⟩,⟨⟩,⟨⟩,⟨⟩,⟨⟩,(contains_ok _ (by first | omega | (simp; first | done | omega))),⟨⟨⟩,(by rw [h2]; rfl)⟩,⟨⟩⟩ ?_
    refine Ev.cond true rfl (fun _ => ?_) (fun h => (by cases h))
    refine Ev.seq ?_
    refine Ev.reg [] [4,5,6] (st' := ⟨[(4,(.ptr 1 0 0 0)),(5,(i6 0)),(6,(dB false))],[(.var 61 [(LI ws),(LI xs),(i6 k),(i6 w)]),(.var 57 [(i6 0),(.v .nilf),(.v .nilf)]),(.var 57 [(i6 2),(.fn (.func 49) [] []),(.fn (.func 51) [] [])])]⟩)
      (p := True∧True∧True∧True∧True) (by kernel_rfl)
      ⟨⟨⟩,⟨⟩,⟨⟩,⟨⟩,⟨⟩⟩ ?_
    refine Ev.ret ?_
    refine ⟨⟨⟨⟩,⟨⟩,⟨⟩,⟨⟩⟩,(?_ : ((0 : Int) = 0∧True∧True∧True)∧(0 : Int) = 0∧false = false∧True),.inl rfl⟩
    exact ⟨⟨rfl,⟨⟩,⟨⟩,⟨⟩⟩,rfl,rfl,⟨⟩⟩

def zwv_9_1_0 (ws xs : List Int) (k w : Int) : St := ⟨[(4,(.ptr 1 0 0 0)),(7,(.ptr 2 0 0 0)),(9,(i6 (wvF 9 ws k w)))],[(.var 61 [(LI ws),(LI xs),(i6 k),(i6 w)]),(.var 57 [(i6 0),(.v .nilf),(.v .nilf)]),(.var 57 [(i6 2),(.fn (.func 49) [] []),(.fn (.func 51) [] [])])]⟩
def zwv_9_1_1 (ws xs : List Int) (k w : Int) : St := ⟨[(4,(.ptr 1 0 0 0)),(7,(.ptr 2 0 0 0)),(9,(i6 (wvF 9 ws k w))),(44,(.agg [(i6 2),(.fn (.func 49) [] []),(.fn (.func 51) [] [])]))],[(.var 61 [(LI ws),(LI xs),(i6 k),(i6 w)]),(.var 57 [(i6 0),(.v .nilf),(.v .nilf)]),(.var 57 [(i6 2),(.fn (.func 49) [] []),(.fn (.func 51) [] [])])]⟩
def zwv_9_1_2 (ws xs : List Int) (k w : Int) : St := ⟨[(4,(.ptr 1 0 0 0)),(7,(.ptr 2 0 0 0)),(9,(i6 (wvF 9 ws k w))),(45,(i6 (wvF 9 ws k w)))],[(.var 61 [(LI ws),(LI xs),(i6 k),(i6 w)]),(.var 57 [(i6 0),(.v .nilf),(.v .nilf)]),(.var 57 [(i6 2),(.fn (.func 49) [] []),(.fn (.func 51) [] [])])]⟩
def zwv_9_1_3 (ws xs : List Int) (k w : Int) : St := ⟨[(4,(.ptr 1 0 0 0)),(7,(.ptr 2 0 0 0)),(9,(i6 (wvF 9 ws k w))),(46,(i6 (wvF 9 ws k w)))],[(.var 61 [(LI ws),(LI xs),(i6 k),(i6 w)]),(.var 57 [(i6 0),(.v .nilf),(.v .nilf)]),(.var 57 [(i6 2),(.fn (.func 49) [] []),(.fn (.func 51) [] [])])]⟩
def zwv_9_1_4 (ws xs : List Int) (k w : Int) : St := ⟨[(4,(.ptr 1 0 0 0)),(7,(.ptr 2 0 0 0)),(9,(i6 (wvF 9 ws k w))),(44,(.agg [(i6 2),(.fn (.func 49) [] []),(.fn (.func 51) [] [])])),(45,(i6 (wvF 9 ws k w)))],[(.var 61 [(LI ws),(LI xs),(i6 k),(i6 w)]),(.var 57 [(i6 0),(.v .nilf),(.v .nilf)]),(.var 57 [(i6 2),(.fn (.func 49) [] []),(.fn (.func 51) [] [])])]⟩
def zwv_9_1_5 (ws xs : List Int) (k w : Int) : St := ⟨[(4,(.ptr 1 0 0 0)),(7,(.ptr 2 0 0 0)),(9,(i6 (wvF 9 ws k w))),(44,(.agg [(i6 2),(.fn (.func 49) [] []),(.fn (.func 51) [] [])])),(46,(i6 (wvF 9 ws k w)))],[(.var 61 [(LI ws),(LI xs),(i6 k),(i6 w)]),(.var 57 [(i6 0),(.v .nilf),(.v .nilf)]),(.var 57 [(i6 2),(.fn (.func 49) [] []),(.fn (.func 51) [] [])])]⟩
def zwv_9_1_6 (ws xs : List Int) (k w : Int) : St := ⟨[(4,(.ptr 1 0 0 0)),(7,(.ptr 2 0 0 0)),(9,(i6 (wvF 9 ws k w))),(45,(i6 (wvF 9 ws k w))),(46,(i6 (wvF 9 ws k w)))],[(.var 61 [(LI ws),(LI xs),(i6 k),(i6 w)]),(.var 57 [(i6 0),(.v .nilf),(.v .nilf)]),(.var 57 [(i6 2),(.fn (.func 49) [] []),(.fn (.func 51) [] [])])]⟩
def zwv_9_1_7 (ws xs : List Int) (k w : Int) : St := ⟨[(4,(.ptr 1 0 0 0)),(7,(.ptr 2 0 0 0)),(9,(i6 (wvF 9 ws k w))),(46,(i6 (wvF 9 ws k w))),(47,(dB (fitsF (wvF 9 ws k w))))],[(.var 61 [(LI ws),(LI xs),(i6 k),(i6 w)]),(.var 57 [(i6 0),(.v .nilf),(.v .nilf)]),(.var 57 [(i6 2),(.fn (.func 49) [] []),(.fn (.func 51) [] [])])]⟩
def zwv_9_1_8 (ws xs : List Int) (k w : Int) : St := ⟨[(4,(.ptr 1 0 0 0)),(7,(.ptr 2 0 0 0)),(9,(i6 (wvF 9 ws k w))),(44,(.agg [(i6 2),(.fn (.func 49) [] []),(.fn (.func 51) [] [])])),(45,(i6 (wvF 9 ws k w))),(46,(i6 (wvF 9 ws k w)))],[(.var 61 [(LI ws),(LI xs),(i6 k),(i6 w)]),(.var 57 [(i6 0),(.v .nilf),(.v .nilf)]),(.var 57 [(i6 2),(.fn (.func 49) [] []),(.fn (.func 51) [] [])])]⟩
def zwv_9_1_9 (ws xs : List Int) (k w : Int) : St := ⟨[(4,(.ptr 1 0 0 0)),(7,(.ptr 2 0 0 0)),(9,(i6 (wvF 9 ws k w))),(44,(.agg [(i6 2),(.fn (.func 49) [] []),(.fn (.func 51) [] [])])),(46,(i6 (wvF 9 ws k w))),(47,(dB (fitsF (wvF 9 ws k w))))],[(.var 61 [(LI ws),(LI xs),(i6 k),(i6 w)]),(.var 57 [(i6 0),(.v .nilf),(.v .nilf)]),(.var 57 [(i6 2),(.fn (.func 49) [] []),(.fn (.func 51) [] [])])]⟩
def zwv_9_1_10 (ws xs : List Int) (k w : Int) : St := ⟨[(4,(.ptr 1 0 0 0)),(7,(.ptr 2 0 0 0)),(9,(i6 (wvF 9 ws k w))),(45,(i6 (wvF 9 ws k w))),(46,(i6 (wvF 9 ws k w))),(47,(dB (fitsF (wvF 9 ws k w))))],[(.var 61 [(LI ws),(LI xs),(i6 k),(i6 w)]),(.var 57 [(i6 0),(.v .nilf),(.v .nilf)]),(.var 57 [(i6 2),(.fn (.func 49) [] []),(.fn (.func 51) [] [])])]⟩
def zwv_9_1_11 (ws xs : List Int) (k w : Int) : St := ⟨[(4,(.ptr 1 0 0 0)),(7,(.ptr 2 0 0 0)),(9,(i6 (wvF 9 ws k w))),(44,(.agg [(i6 2),(.fn (.func 49) [] []),(.fn (.func 51) [] [])])),(45,(i6 (wvF 9 ws k w))),(46,(i6 (wvF 9 ws k w))),(47,(dB (fitsF (wvF 9 ws k w))))],[(.var 61 [(LI ws),(LI xs),(i6 k),(i6 w)]),(.var 57 [(i6 0),(.v .nilf),(.v .nilf)]),(.var 57 [(i6 2),(.fn (.func 49) [] []),(.fn (.func 51) [] [])])]⟩
def zwv_9_1_12 (ws xs : List Int) (k w : Int) : St := ⟨[(4,(.ptr 1 0 0 0)),(7,(.ptr 2 0 0 0)),(9,(i6 (wvF 9 ws k w))),(44,(.agg [(i6 2),(.fn (.func 49) [] []),(.fn (.func 51) [] [])])),(46,(i6 (wvF 9 ws k w))),(47,(dB (fitsF (wvF 9 ws k w))))],[(.var 61 [(LI ws),(LI xs),(i6 k),(i6 w)]),(.var 57 [(i6 2),(.fn (.func 49) [] []),(.fn (.func 51) [] [])]),(.var 57 [(i6 2),(.fn (.func 49) [] []),(.fn (.func 51) [] [])])]⟩
def zwv_9_1_13 (ws xs : List Int) (k w : Int) : St := ⟨[(4,(.ptr 1 0 0 0)),(7,(.ptr 2 0 0 0)),(9,(i6 (wvF 9 ws k w))),(44,(.agg [(i6 2),(.fn (.func 49) [] []),(.fn (.func 51) [] [])])),(45,(i6 (wvF 9 ws k w))),(46,(i6 (wvF 9 ws k w))),(47,(dB (fitsF (wvF 9 ws k w))))],[(.var 61 [(LI ws),(LI xs),(i6 k),(i6 w)]),(.var 57 [(i6 2),(.fn (.func 49) [] []),(.fn (.func 51) [] [])]),(.var 57 [(i6 2),(.fn (.func 49) [] []),(.fn (.func 51) [] [])])]⟩
def zwv_9_1_14 (ws xs : List Int) (k w : Int) : St := ⟨[(4,(.ptr 1 0 0 0)),(5,(i6 (wvF 9 ws k w))),(7,(.ptr 2 0 0 0)),(9,(i6 (wvF 9 ws k w))),(44,(.agg [(i6 2),(.fn (.func 49) [] []),(.fn (.func 51) [] [])])),(45,(i6 (wvF 9 ws k w))),(46,(i6 (wvF 9 ws k w))),(47,(dB (fitsF (wvF 9 ws k w))))],[(.var 61 [(LI ws),(LI xs),(i6 k),(i6 w)]),(.var 57 [(i6 2),(.fn (.func 49) [] []),(.fn (.func 51) [] [])]),(.var 57 [(i6 2),(.fn (.func 49) [] []),(.fn (.func 51) [] [])])]⟩
def zwv_9_1_15 (ws xs : List Int) (k w : Int) : St := ⟨[(4,(.ptr 1 0 0 0)),(5,(i6 (wvF 9 ws k w))),(6,(dB false))],[(.var 61 [(LI ws),(LI xs),(i6 k),(i6 w)]),(.var 57 [(i6 2),(.fn (.func 49) [] []),(.fn (.func 51) [] [])]),(.var 57 [(i6 2),(.fn (.func 49) [] []),(.fn (.func 51) [] [])])]⟩
set_option maxRecDepth 100000 in
theorem width_wv_9 (ws xs : List Int) (k w : Int) (hw : ws.length ≤ 9223372036854775807) (h : okB 9 ws = true) (h3 : fitsF (wvF 9 ws k w) = false) : CallOk Try.prog 27 [(i6 9),(.agg [(LI ws),(LI xs),(i6 k),(i6 w)])] [] true (.tup [(.agg [(i6 2),(.fn (.func 49) [] []),(.fn (.func 51) [] [])]),(i6 (wvF 9 ws k w)),(dB false)]) [] := by
  refine CallOk.of_ev Try.func27 rfl rfl rfl ?_
  rintro ⟨_,W,S0,_,susp,_⟩ rfl rfl rfl
  obtain ⟨h1,h2⟩ := okB_yes h
  have hA : arityF 9 = 2 := by decide
  rw [hA] at h1
  refine Ev.seq ?_
  refine Ev.reg [] [0,3,4] (st' := ⟨[(0,(i6 9)),(3,(.ptr 0 0 0 0)),(4,(.ptr 1 0 0 0))],[(.var 61 [(LI ws),(LI xs),(i6 k),(i6 w)]),(.var 57 [(i6 0),(.v .nilf),(.v .nilf)])]⟩)
    (p := True∧True∧True∧True∧True) (by kernel_rfl)
    ⟨⟨⟩,⟨⟩,⟨⟩,⟨⟩,⟨⟩⟩ ?_
  refine Ev.seq ?_
  refine Ev.reg [(0,.call none false (.v (.mp simpleM))),(2,.idx (some 7))] [0,3,4,7,8] (st' := ⟨[(0,(i6 9)),(3,(.ptr 0 0 0 0)),(4,(.ptr 1 0 0 0)),(7,(.ptr 2 0 0 0)),(8,(dB true))],[(.var 61 [(LI ws),(LI xs),(i6 k),(i6 w)]),(.var 57 [(i6 0),(.v .nilf),(.v .nilf)]),(.var 57 [(i6 2),(.fn (.func 49) [] []),(.fn (.func 51) [] [])])]⟩)
    (p := callOb Try.prog 33 [(.var 61 [(LI ws),(LI xs),(i6 k),(i6 w)]),(.var 57 [(i6 0),(.v .nilf),(.v .nilf)])] [] none false (.v (.mp simpleM))∧True∧((9 : Int) = 9∧∀ e' ∈ simpleM.take 7,(9 : Int) ≠ e'.1)∧True∧True∧True∧True∧True∧True∧True) (by kernel_rfl)
    ⟨simple_ok,⟨⟩,(by decide),⟨⟩,⟨⟩,⟨⟩,⟨⟩,⟨⟩,⟨⟩,⟨⟩⟩ ?_
  refine Ev.seq ?_
  refine Ev.seq ?_
  refine Ev.reg [] [0,3,4,7,8,17] (st' := ⟨[(0,(i6 9)),(3,(.ptr 0 0 0 0)),(4,(.ptr 1 0 0 0)),(7,(.ptr 2 0 0 0)),(8,(dB true)),(17,(dB false))],[(.var 61 [(LI ws),(LI xs),(i6 k),(i6 w)]),(.var 57 [(i6 0),(.v .nilf),(.v .nilf)]),(.var 57 [(i6 2),(.fn (.func 49) [] []),(.fn (.func 51) [] [])])]⟩)
    (p := True∧True∧True) (by kernel_rfl)
    ⟨⟨⟩,⟨⟩,⟨⟩⟩ ?_
  refine Ev.cond false rfl (fun h => (by cases h)) (fun _ => ?_)
  refine Ev.skip ?_
  refine Ev.seq ?_
  refine Ev.seq ?_
  refine Ev.reg [(8,.val (dB false)),(13,.call none false (dB (!(ws.all fitsF)))),(14,.val (dB false))] [3,4,7,38] (st' := ⟨[(3,(.ptr 0 0 0 0)),(4,(.ptr 1 0 0 0)),(7,(.ptr 2 0 0 0)),(38,(dB false))],[(.var 61 [(LI ws),(LI xs),(i6 k),(i6 w)]),(.var 57 [(i6 0),(.v .nilf),(.v .nilf)]),(.var 57 [(i6 2),(.fn (.func 49) [] []),(.fn (.func 51) [] [])])]⟩)
    (p := True∧True∧True∧True∧True∧True∧True∧True∧(True∧(((ws.length : Nat) : Int) != 2) = false)∧True∧True∧True∧True∧callOb Try.prog 35 [(.var 61 [(LI ws),(LI xs),(i6 k),(i6 w)]),(.var 57 [(i6 0),(.v .nilf),(.v .nilf)]),(.var 57 [(i6 2),(.fn (.func 49) [] []),(.fn (.func 51) [] [])])] [(LI ws),(.fn (.func 36) [] [])] none false (dB (!(ws.all fitsF)))∧(True∧(!(ws.all fitsF)) = false)∧True) (by kernel_rfl)
    ⟨⟨⟩,⟨⟩,⟨⟩,⟨⟩,⟨⟩,⟨⟩,⟨⟩,⟨⟩,⟨⟨⟩,(by rw [h1]; rfl)⟩,⟨⟩,⟨⟩,⟨⟩,⟨⟩,(contains_ok _ (by first | omega | (simp; first | done | omega))),⟨⟨⟩,(by rw [h2]; rfl)⟩,⟨⟩⟩ ?_
  refine Ev.cond false rfl (fun h => (by cases h)) (fun _ => ?_)
  refine Ev.skip ?_
  refine Ev.seq ?_
  refine Ev.reg [(3,.call none false (i6 (min (alikeF ws) 1))),(4,.val (i6 (wvF 9 ws k w)))] [4,7,9] (st' := ⟨[(4,(.ptr 1 0 0 0)),(7,(.ptr 2 0 0 0)),(9,(i6 (wvF 9 ws k w)))],[(.var 61 [(LI ws),(LI xs),(i6 k),(i6 w)]),(.var 57 [(i6 0),(.v .nilf),(.v .nilf)]),(.var 57 [(i6 2),(.fn (.func 49) [] []),(.fn (.func 51) [] [])])]⟩)
    (p := True∧True∧True∧callOb Try.prog 49 [(.var 61 [(LI ws),(LI xs),(i6 k),(i6 w)]),(.var 57 [(i6 0),(.v .nilf),(.v .nilf)]),(.var 57 [(i6 2),(.fn (.func 49) [] []),(.fn (.func 51) [] [])])] [(.agg [(LI ws),(LI xs),(i6 k),(i6 w)])] none false (i6 (min (alikeF ws) 1))∧(True∧(min (alikeF ws) 1) = (wvF 9 ws k w))∧True) (by kernel_rfl)
    ⟨⟨⟩,⟨⟩,⟨⟩,(one_ok _ _ _ _ (by omega) (by assumption)),⟨⟨⟩,(by first | rfl | simp [wvF])⟩,⟨⟩⟩ ?_
  refine Ev.seq ?_
  refine Ev.any [(3,.call none false (dB (fitsF (wvF 9 ws k w)))),(6,.val (dB false))] [((bm 7 0),(zwv_9_1_0 ws xs k w)),((bm 7 1),(zwv_9_1_1 ws xs k w)),((bm 7 2),(zwv_9_1_2 ws xs k w)),((bm 7 4),(zwv_9_1_3 ws xs k w)),((bm 7 3),(zwv_9_1_4 ws xs k w)),((bm 7 5),(zwv_9_1_5 ws xs k w)),((bm 7 6),(zwv_9_1_6 ws xs k w)),((bm 7 12),(zwv_9_1_7 ws xs k w)),((bm 7 7),(zwv_9_1_8 ws xs k w)),((bm 7 13),(zwv_9_1_9 ws xs k w)),((bm 7 14),(zwv_9_1_10 ws xs k w)),((bm 7 15),(zwv_9_1_11 ws xs k w)),((bm 7 29),(zwv_9_1_12 ws xs k w)),((bm 7 31),(zwv_9_1_13 ws xs k w)),((bm 7 63),(zwv_9_1_14 ws xs k w)),((bm 7 127),(zwv_9_1_15 ws xs k w))] (st0 := (zwv_9_1_0 ws xs k w)) (st' := ⟨[(4,(.ptr 1 0 0 0)),(5,(i6 (wvF 9 ws k w))),(6,(dB false))],[(.var 61 [(LI ws),(LI xs),(i6 k),(i6 w)]),(.var 57 [(i6 2),(.fn (.func 49) [] []),(.fn (.func 51) [] [])]),(.var 57 [(i6 2),(.fn (.func 49) [] []),(.fn (.func 51) [] [])])]⟩)
    (p := ((((zwv_9_1_1 ws xs k w) : St) = (zwv_9_1_1 ws xs k w)∧True∧True)∧(((zwv_9_1_2 ws xs k w) : St) = (zwv_9_1_2 ws xs k w)∧True∧True)∧(((zwv_9_1_3 ws xs k w) : St) = (zwv_9_1_3 ws xs k w)∧True∧True)∧True)∧((((zwv_9_1_4 ws xs k w) : St) = (zwv_9_1_4 ws xs k w)∧True∧True)∧(((zwv_9_1_5 ws xs k w) : St) = (zwv_9_1_5 ws xs k w)∧True∧True)∧True)∧((((zwv_9_1_4 ws xs k w) : St) = (zwv_9_1_4 ws xs k w)∧True∧True)∧(((zwv_9_1_6 ws xs k w) : St) = (zwv_9_1_6 ws xs k w)∧True∧True)∧True)∧((((zwv_9_1_5 ws xs k w) : St) = (zwv_9_1_5 ws xs k w)∧True∧True)∧(((zwv_9_1_6 ws xs k w) : St) = (zwv_9_1_6 ws xs k w)∧True∧True)∧(((zwv_9_1_7 ws xs k w) : St) = (zwv_9_1_7 ws xs k w)∧callOb Try.prog 37 [(.var 61 [(LI ws),(LI xs),(i6 k),(i6 w)]),(.var 57 [(i6 0),(.v .nilf),(.v .nilf)]),(.var 57 [(i6 2),(.fn (.func 49) [] []),(.fn (.func 51) [] [])])] [(i6 (wvF 9 ws k w))] none false (dB (fitsF (wvF 9 ws k w)))∧True)∧True)∧((((zwv_9_1_8 ws xs k w) : St) = (zwv_9_1_8 ws xs k w)∧True∧True)∧True)∧((((zwv_9_1_8 ws xs k w) : St) = (zwv_9_1_8 ws xs k w)∧True∧True)∧(((zwv_9_1_9 ws xs k w) : St) = (zwv_9_1_9 ws xs k w)∧callOb Try.prog 37 [(.var 61 [(LI ws),(LI xs),(i6 k),(i6 w)]),(.var 57 [(i6 0),(.v .nilf),(.v .nilf)]),(.var 57 [(i6 2),(.fn (.func 49) [] []),(.fn (.func 51) [] [])])] [(i6 (wvF 9 ws k w))] none false (dB (fitsF (wvF 9 ws k w)))∧True)∧True)∧((((zwv_9_1_8 ws xs k w) : St) = (zwv_9_1_8 ws xs k w)∧True∧True)∧(((zwv_9_1_10 ws xs k w) : St) = (zwv_9_1_10 ws xs k w)∧callOb Try.prog 37 [(.var 61 [(LI ws),(LI xs),(i6 k),(i6 w)]),(.var 57 [(i6 0),(.v .nilf),(.v .nilf)]),(.var 57 [(i6 2),(.fn (.func 49) [] []),(.fn (.func 51) [] [])])] [(i6 (wvF 9 ws k w))] none false (dB (fitsF (wvF 9 ws k w)))∧True)∧True)∧((((zwv_9_1_9 ws xs k w) : St) = (zwv_9_1_9 ws xs k w)∧True∧True)∧(((zwv_9_1_10 ws xs k w) : St) = (zwv_9_1_10 ws xs k w)∧True∧True)∧True)∧((((zwv_9_1_11 ws xs k w) : St) = (zwv_9_1_11 ws xs k w)∧callOb Try.prog 37 [(.var 61 [(LI ws),(LI xs),(i6 k),(i6 w)]),(.var 57 [(i6 0),(.v .nilf),(.v .nilf)]),(.var 57 [(i6 2),(.fn (.func 49) [] []),(.fn (.func 51) [] [])])] [(i6 (wvF 9 ws k w))] none false (dB (fitsF (wvF 9 ws k w)))∧True)∧True)∧((((zwv_9_1_11 ws xs k w) : St) = (zwv_9_1_11 ws xs k w)∧True∧True)∧(((zwv_9_1_12 ws xs k w) : St) = (zwv_9_1_12 ws xs k w)∧True∧True)∧True)∧((((zwv_9_1_11 ws xs k w) : St) = (zwv_9_1_11 ws xs k w)∧True∧True)∧True)∧((((zwv_9_1_13 ws xs k w) : St) = (zwv_9_1_13 ws xs k w)∧True∧True)∧True)∧((((zwv_9_1_13 ws xs k w) : St) = (zwv_9_1_13 ws xs k w)∧True∧True)∧True)∧((((zwv_9_1_14 ws xs k w) : St) = (zwv_9_1_14 ws xs k w)∧True∧True)∧True)∧((((zwv_9_1_15 ws xs k w) : St) = (zwv_9_1_15 ws xs k w)∧(True∧(fitsF (wvF 9 ws k w)) = false)∧True)∧True)∧True∧True) (by kernel_rfl) (by kernel_rfl) (by kernel_rfl) (by kernel_rfl) (by kernel_rfl) (by kernel_rfl)
    ⟨⟨⟨rfl,⟨⟩,⟨⟩⟩,⟨rfl,⟨⟩,⟨⟩⟩,⟨rfl,⟨⟩,⟨⟩⟩,⟨⟩⟩,⟨⟨rfl,⟨⟩,⟨⟩⟩,⟨rfl,⟨⟩,⟨⟩⟩,⟨⟩⟩,⟨⟨rfl,⟨⟩,⟨⟩⟩,⟨rfl,⟨⟩,⟨⟩⟩,⟨⟩⟩,⟨⟨rfl,⟨⟩,⟨⟩⟩,⟨rfl,⟨⟩,⟨⟩⟩,⟨rfl,(fits_ok _),⟨⟩⟩,⟨⟩⟩,⟨⟨rfl,⟨⟩,⟨⟩⟩,⟨⟩⟩,⟨⟨rfl,⟨⟩,⟨⟩⟩,⟨rfl,(fits_ok _),⟨⟩⟩,⟨⟩⟩,⟨⟨rfl,⟨⟩,⟨⟩⟩,⟨rfl,(fits_ok _),⟨⟩⟩,⟨⟩⟩,⟨⟨rfl,⟨⟩,⟨⟩⟩,⟨rfl,⟨⟩,⟨⟩⟩,⟨⟩⟩,⟨⟨rfl,(fits_ok _),⟨⟩⟩,⟨⟩⟩,⟨⟨rfl,⟨⟩,⟨⟩⟩,⟨rfl,⟨⟩,⟨⟩⟩,⟨⟩⟩,⟨⟨rfl,⟨⟩,⟨⟩⟩,⟨⟩⟩,⟨⟨rfl,⟨⟩,⟨⟩⟩,⟨⟩⟩,⟨⟨rfl,⟨⟩,⟨⟩⟩,⟨⟩⟩,⟨⟨rfl,⟨⟩,⟨⟩⟩,⟨⟩⟩,⟨⟨rfl,⟨⟨⟩,(by first | exact h3 | simpa [wvF] using h3)⟩,⟨⟩⟩,⟨⟩⟩,⟨⟩,⟨⟩⟩ ?_
  refine Ev.ret ?_
  refine ⟨⟨⟨⟩,⟨⟩,⟨⟩,⟨⟩⟩,(?_ : ((2 : Int) = 2∧((.fn (.func 49) [] []) : D) = (.fn (.func 49) [] [])∧((.fn (.func 51) [] []) : D) = (.fn (.func 51) [] [])∧True)∧(wvF 9 ws k w) = (wvF 9 ws k w)∧false = false∧True),.inl rfl⟩
  exact ⟨⟨rfl,rfl,rfl,⟨⟩⟩,rfl,rfl,⟨⟩⟩

def zg_10_1_0 (ws xs : List Int) (k w : Int) : St := ⟨[(4,(.ptr 1 0 0 0)),(7,(.ptr 2 0 0 0)),(9,(i6 (wvF 10 ws k w)))],[(.var 61 [(LI ws),(LI xs),(i6 k),(i6 w)]),(.var 57 [(i6 0),(.v .nilf),(.v .nilf)]),(.var 57 [(i6 3),(.fn (.func 54) [] []),(.fn (.func 55) [] [])])]⟩
def zg_10_1_1 (ws xs : List Int) (k w : Int) : St := ⟨[(4,(.ptr 1 0 0 0)),(7,(.ptr 2 0 0 0)),(9,(i6 (wvF 10 ws k w))),(44,(.agg [(i6 3),(.fn (.func 54) [] []),(.fn (.func 55) [] [])]))],[(.var 61 [(LI ws),(LI xs),(i6 k),(i6 w)]),(.var 57 [(i6 0),(.v .nilf),(.v .nilf)]),(.var 57 [(i6 3),(.fn (.func 54) [] []),(.fn (.func 55) [] [])])]⟩
def zg_10_1_2 (ws xs : List Int) (k w : Int) : St := ⟨[(4,(.ptr 1 0 0 0)),(7,(.ptr 2 0 0 0)),(9,(i6 (wvF 10 ws k w))),(45,(i6 (wvF 10 ws k w)))],[(.var 61 [(LI ws),(LI xs),(i6 k),(i6 w)]),(.var 57 [(i6 0),(.v .nilf),(.v .nilf)]),(.var 57 [(i6 3),(.fn (.func 54) [] []),(.fn (.func 55) [] [])])]⟩
def zg_10_1_3 (ws xs : List Int) (k w : Int) : St := ⟨[(4,(.ptr 1 0 0 0)),(7,(.ptr 2 0 0 0)),(9,(i6 (wvF 10 ws k w))),(46,(i6 (wvF 10 ws k w)))],[(.var 61 [(LI ws),(LI xs),(i6 k),(i6 w)]),(.var 57 [(i6 0),(.v .nilf),(.v .nilf)]),(.var 57 [(i6 3),(.fn (.func 54) [] []),(.fn (.func 55) [] [])])]⟩
def zg_10_1_4 (ws xs : List Int) (k w : Int) : St := ⟨[(4,(.ptr 1 0 0 0)),(7,(.ptr 2 0 0 0)),(9,(i6 (wvF 10 ws k w))),(44,(.agg [(i6 3),(.fn (.func 54) [] []),(.fn (.func 55) [] [])])),(45,(i6 (wvF 10 ws k w)))],[(.var 61 [(LI ws),(LI xs),(i6 k),(i6 w)]),(.var 57 [(i6 0),(.v .nilf),(.v .nilf)]),(.var 57 [(i6 3),(.fn (.func 54) [] []),(.fn (.func 55) [] [])])]⟩
def zg_10_1_5 (ws xs : List Int) (k w : Int) : St := ⟨[(4,(.ptr 1 0 0 0)),(7,(.ptr 2 0 0 0)),(9,(i6 (wvF 10 ws k w))),(44,(.agg [(i6 3),(.fn (.func 54) [] []),(.fn (.func 55) [] [])])),(46,(i6 (wvF 10 ws k w)))],[(.var 61 [(LI ws),(LI xs),(i6 k),(i6 w)]),(.var 57 [(i6 0),(.v .nilf),(.v .nilf)]),(.var 57 [(i6 3),(.fn (.func 54) [] []),(.fn (.func 55) [] [])])]⟩
def zg_10_1_6 (ws xs : List Int) (k w : Int) : St := ⟨[(4,(.ptr 1 0 0 0)),(7,(.ptr 2 0 0 0)),(9,(i6 (wvF 10 ws k w))),(45,(i6 (wvF 10 ws k w))),(46,(i6 (wvF 10 ws k w)))],[(.var 61 [(LI ws),(LI xs),(i6 k),(i6 w)]),(.var 57 [(i6 0),(.v .nilf),(.v .nilf)]),(.var 57 [(i6 3),(.fn (.func 54) [] []),(.fn (.func 55) [] [])])]⟩
def zg_10_1_7 (ws xs : List Int) (k w : Int) : St := ⟨[(4,(.ptr 1 0 0 0)),(7,(.ptr 2 0 0 0)),(9,(i6 (wvF 10 ws k w))),(46,(i6 (wvF 10 ws k w))),(47,(dB (fitsF (wvF 10 ws k w))))],[(.var 61 [(LI ws),(LI xs),(i6 k),(i6 w)]),(.var 57 [(i6 0),(.v .nilf),(.v .nilf)]),(.var 57 [(i6 3),(.fn (.func 54) [] []),(.fn (.func 55) [] [])])]⟩
def zg_10_1_8 (ws xs : List Int) (k w : Int) : St := ⟨[(4,(.ptr 1 0 0 0)),(7,(.ptr 2 0 0 0)),(9,(i6 (wvF 10 ws k w))),(44,(.agg [(i6 3),(.fn (.func 54) [] []),(.fn (.func 55) [] [])])),(45,(i6 (wvF 10 ws k w))),(46,(i6 (wvF 10 ws k w)))],[(.var 61 [(LI ws),(LI xs),(i6 k),(i6 w)]),(.var 57 [(i6 0),(.v .nilf),(.v .nilf)]),(.var 57 [(i6 3),(.fn (.func 54) [] []),(.fn (.func 55) [] [])])]⟩
def zg_10_1_9 (ws xs : List Int) (k w : Int) : St := ⟨[(4,(.ptr 1 0 0 0)),(7,(.ptr 2 0 0 0)),(9,(i6 (wvF 10 ws k w))),(44,(.agg [(i6 3),(.fn (.func 54) [] []),(.fn (.func 55) [] [])])),(46,(i6 (wvF 10 ws k w))),(47,(dB (fitsF (wvF 10 ws k w))))],[(.var 61 [(LI ws),(LI xs),(i6 k),(i6 w)]),(.var 57 [(i6 0),(.v .nilf),(.v .nilf)]),(.var 57 [(i6 3),(.fn (.func 54) [] []),(.fn (.func 55) [] [])])]⟩
def zg_10_1_10 (ws xs : List Int) (k w : Int) : St := ⟨[(4,(.ptr 1 0 0 0)),(7,(.ptr 2 0 0 0)),(9,(i6 (wvF 10 ws k w))),(45,(i6 (wvF 10 ws k w))),(46,(i6 (wvF 10 ws k w))),(47,(dB (fitsF (wvF 10 ws k w))))],[(.var 61 [(LI ws),(LI xs),(i6 k),(i6 w)]),(.var 57 [(i6 0),(.v .nilf),(.v .nilf)]),(.var 57 [(i6 3),(.fn (.func 54) [] []),(.fn (.func 55) [] [])])]⟩
def zg_10_1_11 (ws xs : List Int) (k w : Int) : St := ⟨[(4,(.ptr 1 0 0 0)),(7,(.ptr 2 0 0 0)),(9,(i6 (wvF 10 ws k w))),(44,(.agg [(i6 3),(.fn (.func 54) [] []),(.fn (.func 55) [] [])])),(45,(i6 (wvF 10 ws k w))),(46,(i6 (wvF 10 ws k w))),(47,(dB (fitsF (wvF 10 ws k w))))],[(.var 61 [(LI ws),(LI xs),(i6 k),(i6 w)]),(.var 57 [(i6 0),(.v .nilf),(.v .nilf)]),(.var 57 [(i6 3),(.fn (.func 54) [] []),(.fn (.func 55) [] [])])]⟩
def zg_10_1_12 (ws xs : List Int) (k w : Int) : St := ⟨[(4,(.ptr 1 0 0 0)),(7,(.ptr 2 0 0 0)),(9,(i6 (wvF 10 ws k w))),(44,(.agg [(i6 3),(.fn (.func 54) [] []),(.fn (.func 55) [] [])])),(46,(i6 (wvF 10 ws k w))),(47,(dB (fitsF (wvF 10 ws k w))))],[(.var 61 [(LI ws),(LI xs),(i6 k),(i6 w)]),(.var 57 [(i6 3),(.fn (.func 54) [] []),(.fn (.func 55) [] [])]),(.var 57 [(i6 3),(.fn (.func 54) [] []),(.fn (.func 55) [] [])])]⟩
def zg_10_1_13 (ws xs : List Int) (k w : Int) : St := ⟨[(4,(.ptr 1 0 0 0)),(7,(.ptr 2 0 0 0)),(9,(i6 (wvF 10 ws k w))),(44,(.agg [(i6 3),(.fn (.func 54) [] []),(.fn (.func 55) [] [])])),(45,(i6 (wvF 10 ws k w))),(46,(i6 (wvF 10 ws k w))),(47,(dB (fitsF (wvF 10 ws k w))))],[(.var 61 [(LI ws),(LI xs),(i6 k),(i6 w)]),(.var 57 [(i6 3),(.fn (.func 54) [] []),(.fn (.func 55) [] [])]),(.var 57 [(i6 3),(.fn (.func 54) [] []),(.fn (.func 55) [] [])])]⟩
def zg_10_1_14 (ws xs : List Int) (k w : Int) : St := ⟨[(4,(.ptr 1 0 0 0)),(5,(i6 (wvF 10 ws k w))),(7,(.ptr 2 0 0 0)),(9,(i6 (wvF 10 ws k w))),(44,(.agg [(i6 3),(.fn (.func 54) [] []),(.fn (.func 55) [] [])])),(45,(i6 (wvF 10 ws k w))),(46,(i6 (wvF 10 ws k w))),(47,(dB (fitsF (wvF 10 ws k w))))],[(.var 61 [(LI ws),(LI xs),(i6 k),(i6 w)]),(.var 57 [(i6 3),(.fn (.func 54) [] []),(.fn (.func 55) [] [])]),(.var 57 [(i6 3),(.fn (.func 54) [] []),(.fn (.func 55) [] [])])]⟩
def zg_10_1_15 (ws xs : List Int) (k w : Int) : St := ⟨[(4,(.ptr 1 0 0 0)),(5,(i6 (wvF 10 ws k w))),(6,(dB true))],[(.var 61 [(LI ws),(LI xs),(i6 k),(i6 w)]),(.var 57 [(i6 3),(.fn (.func 54) [] []),(.fn (.func 55) [] [])]),(.var 57 [(i6 3),(.fn (.func 54) [] []),(.fn (.func 55) [] [])])]⟩
set_option maxRecDepth 100000 in
theorem width_good_10 (ws xs : List Int) (k w : Int) (hw : ws.length ≤ 9223372036854775807) (h : okF 10 ws k w = true) : CallOk Try.prog 27 [(i6 10),(.agg [(LI ws),(LI xs),(i6 k),(i6 w)])] [] true (.tup [(.agg [(i6 3),(.fn (.func 54) [] []),(.fn (.func 55) [] [])]),(i6 (wvF 10 ws k w)),(dB true)]) [] := by
  refine CallOk.of_ev Try.func27 rfl rfl rfl ?_
  rintro ⟨_,W,S0,_,susp,_⟩ rfl rfl rfl
  obtain ⟨h1,h2,h3⟩ := ok_yes h
  have hA : arityF 10 = 3 := by decide
  rw [hA] at h1
  refine Ev.seq ?_
  refine Ev.reg [] [0,3,4] (st' := ⟨[(0,(i6 10)),(3,(.ptr 0 0 0 0)),(4,(.ptr 1 0 0 0))],[(.var 61 [(LI ws),(LI xs),(i6 k),(i6 w)]),(.var 57 [(i6 0),(.v .nilf),(.v .nilf)])]⟩)
    (p := True∧True∧True∧True∧True) (by kernel_rfl)
    ⟨⟨⟩,⟨⟩,⟨⟩,⟨⟩,⟨⟩⟩ ?_
  refine Ev.seq ?_
  refine Ev.reg [(0,.call none false (.v (.mp simpleM))),(2,.idx none)] [0,3,4,7,8] (st' := ⟨[(0,(i6 10)),(3,(.ptr 0 0 0 0)),(4,(.ptr 1 0 0 0)),(7,(.ptr 2 0 0 0)),(8,(dB false))],[(.var 61 [(LI ws),(LI xs),(i6 k),(i6 w)]),(.var 57 [(i6 0),(.v .nilf),(.v .nilf)]),(.var 57 [(i6 0),(.v .nilf),(.v .nilf)])]⟩)
    (p := callOb Try.prog 33 [(.var 61 [(LI ws),(LI xs),(i6 k),(i6 w)]),(.var 57 [(i6 0),(.v .nilf),(.v .nilf)])] [] none false (.v (.mp simpleM))∧True∧(∀ e' ∈ simpleM,10 ≠ e'.1)∧True∧True∧True∧True∧True∧True∧True) (by kernel_rfl)
    ⟨simple_ok,⟨⟩,(by decide),⟨⟩,⟨⟩,⟨⟩,⟨⟩,⟨⟩,⟨⟩,⟨⟩⟩ ?_
  refine Ev.seq ?_
  refine Ev.seq ?_
  refine Ev.reg [] [0,3,4,7,8,17] (st' := ⟨[(0,(i6 10)),(3,(.ptr 0 0 0 0)),(4,(.ptr 1 0 0 0)),(7,(.ptr 2 0 0 0)),(8,(dB false)),(17,(dB true))],[(.var 61 [(LI ws),(LI xs),(i6 k),(i6 w)]),(.var 57 [(i6 0),(.v .nilf),(.v .nilf)]),(.var 57 [(i6 0),(.v .nilf),(.v .nilf)])]⟩)
    (p := True∧True∧True) (by kernel_rfl)
    ⟨⟨⟩,⟨⟩,⟨⟩⟩ ?_
  refine Ev.cond true rfl (fun _ => ?_) (fun h => (by cases h))
  refine Ev.reg [(0,.call none false (.v (.mp othersM))),(2,.idx (some 1))] [3,4,7,8] (st' := ⟨[(3,(.ptr 0 0 0 0)),(4,(.ptr 1 0 0 0)),(7,(.ptr 2 0 0 0)),(8,(dB true))],[(.var 61 [(LI ws),(LI xs),(i6 k),(i6 w)]),(.var 57 [(i6 0),(.v .nilf),(.v .nilf)]),(.var 57 [(i6 3),(.fn (.func 54) [] []),(.fn (.func 55) [] [])])]⟩)
    (p := callOb Try.prog 34 [(.var 61 [(LI ws),(LI xs),(i6 k),(i6 w)]),(.var 57 [(i6 0),(.v .nilf),(.v .nilf)]),(.var 57 [(i6 0),(.v .nilf),(.v .nilf)])] [] none false (.v (.mp othersM))∧True∧((10 : Int) = 10∧∀ e' ∈ othersM.take 1,(10 : Int) ≠ e'.1)∧True∧True∧True∧True∧True∧True) (by kernel_rfl)
    ⟨others_ok,⟨⟩,(by decide),⟨⟩,⟨⟩,⟨⟩,⟨⟩,⟨⟩,⟨⟩⟩ ?_
  refine Ev.seq ?_
  refine Ev.seq ?_
  refine Ev.reg [(8,.val (dB false)),(13,.call none false (dB (!(ws.all fitsF)))),(14,.val (dB false))] [3,4,7,38] (st' := ⟨[(3,(.ptr 0 0 0 0)),(4,(.ptr 1 0 0 0)),(7,(.ptr 2 0 0 0)),(38,(dB false))],[(.var 61 [(LI ws),(LI xs),(i6 k),(i6 w)]),(.var 57 [(i6 0),(.v .nilf),(.v .nilf)]),(.var 57 [(i6 3),(.fn (.func 54) [] []),(.fn (.func 55) [] [])])]⟩)
    (p := True∧True∧True∧True∧True∧True∧True∧True∧(True∧(((ws.length : Nat) : Int) != 3) = false)∧True∧True∧True∧True∧callOb Try.prog 35 [(.var 61 [(LI ws),(LI xs),(i6 k),(i6 w)]),(.var 57 [(i6 0),(.v .nilf),(.v .nilf)]),(.var 57 [(i6 3),(.fn (.func 54) [] []),(.fn (.func 55) [] [])])] [(LI ws),(.fn (.func 36) [] [])] none false (dB (!(ws.all fitsF)))∧(True∧(!(ws.all fitsF)) = false)∧True) (by kernel_rfl)
    ⟨⟨⟩,⟨⟩,⟨⟩,⟨⟩,⟨⟩,⟨⟩,⟨⟩,⟨⟩,⟨⟨⟩,(by rw [h1]; rfl)⟩,⟨⟩,⟨⟩,⟨⟩,⟨⟩,(contains_ok _ (by first | omega | (simp; first | done | omega))),⟨⟨⟩,(by rw [h2]; rfl)⟩,⟨⟩⟩ ?_
  refine Ev.cond false rfl (fun h => (by cases h)) (fun _ => ?_)
  refine Ev.skip ?_
  refine Ev.seq ?_
  refine Ev.reg [(3,.call none false (i6 (if ws.getD 0 0 ≠ 1 ∨ ws.getD 1 0 ≠ ws.getD 2 0 then 0 else ws.getD 1 0))),(4,.val (i6 (wvF 10 ws k w)))] [4,7,9] (st' := ⟨[(4,(.ptr 1 0 0 0)),(7,(.ptr 2 0 0 0)),(9,(i6 (wvF 10 ws k w)))],[(.var 61 [(LI ws),(LI xs),(i6 k),(i6 w)]),(.var 57 [(i6 0),(.v .nilf),(.v .nilf)]),(.var 57 [(i6 3),(.fn (.func 54) [] []),(.fn (.func 55) [] [])])]⟩)
    (p := True∧True∧True∧(callOb Try.prog 54 [(.var 61 [(LI ws),(LI xs),(i6 k),(i6 w)]),(.var 57 [(i6 0),(.v .nilf),(.v .nilf)]),(.var 57 [(i6 3),(.fn (.func 54) [] []),(.fn (.func 55) [] [])])] [(.agg [(LI ws),(LI xs),(i6 k),(i6 w)])] none false (i6 (if ws.getD 0 0 ≠ 1 ∨ ws.getD 1 0 ≠ ws.getD 2 0 then 0 else ws.getD 1 0)))∧(True∧((if ws.getD 0 0 ≠ 1 ∨ ws.getD 1 0 ≠ ws.getD 2 0 then 0 else ws.getD 1 0) = (wvF 10 ws k w)))∧True) (by kernel_rfl)
    ⟨⟨⟩,⟨⟩,⟨⟩,(wmux_ok _ _ _ _ (by omega) (by assumption)),⟨⟨⟩,(by first | rfl | simp [wvF])⟩,⟨⟩⟩ ?_
  refine Ev.seq ?_
  refine Ev.any [(3,.call none false (dB (fitsF (wvF 10 ws k w)))),(6,.val (dB true))] [((bm 7 0),(zg_10_1_0 ws xs k w)),((bm 7 1),(zg_10_1_1 ws xs k w)),((bm 7 2),(zg_10_1_2 ws xs k w)),((bm 7 4),(zg_10_1_3 ws xs k w)),((bm 7 3),(zg_10_1_4 ws xs k w)),((bm 7 5),(zg_10_1_5 ws xs k w)),((bm 7 6),(zg_10_1_6 ws xs k w)),((bm 7 12),(zg_10_1_7 ws xs k w)),((bm 7 7),(zg_10_1_8 ws xs k w)),((bm 7 13),(zg_10_1_9 ws xs k w)),((bm 7 14),(zg_10_1_10 ws xs k w)),((bm 7 15),(zg_10_1_11 ws xs k w)),((bm 7 29),(zg_10_1_12 ws xs k w)),((bm 7 31),(zg_10_1_13 ws xs k w)),((bm 7 63),(zg_10_1_14 ws xs k w)),((bm 7 127),(zg_10_1_15 ws xs k w))] (st0 := (zg_10_1_0 ws xs k w)) (st' := ⟨[(4,(.ptr 1 0 0 0)),(5,(i6 (wvF 10 ws k w))),(6,(dB true))],[(.var 61 [(LI ws),(LI xs),(i6 k),(i6 w)]),(.var 57 [(i6 3),(.fn (.func 54) [] []),(.fn (.func 55) [] [])]),(.var 57 [(i6 3),(.fn (.func 54) [] []),(.fn (.func 55) [] [])])]⟩)
    (p := ((((zg_10_1_1 ws xs k w) : St) = (zg_10_1_1 ws xs k w)∧True∧True)∧(((zg_10_1_2 ws xs k w) : St) = (zg_10_1_2 ws xs k w)∧True∧True)∧(((zg_10_1_3 ws xs k w) : St) = (zg_10_1_3 ws xs k w)∧True∧True)∧True)∧((((zg_10_1_4 ws xs k w) : St) = (zg_10_1_4 ws xs k w)∧True∧True)∧(((zg_10_1_5 ws xs k w) : St) = (zg_10_1_5 ws xs k w)∧True∧True)∧True)∧((((zg_10_1_4 ws xs k w) : St) = (zg_10_1_4 ws xs k w)∧True∧True)∧(((zg_10_1_6 ws xs k w) : St) = (zg_10_1_6 ws xs k w)∧True∧True)∧True)∧((((zg_10_1_5 ws xs k w) : St) = (zg_10_1_5 ws xs k w)∧True∧True)∧(((zg_10_1_6 ws xs k w) : St) = (zg_10_1_6 ws xs k w)∧True∧True)∧(((zg_10_1_7 ws xs k w) : St) = (zg_10_1_7 ws xs k w)∧callOb Try.prog 37 [(.var 61 [(LI ws),(LI xs),(i6 k),(i6 w)]),(.var 57 [(i6 0),(.v .nilf),(.v .nilf)]),(.var 57 [(i6 3),(.fn (.func 54) [] []),(.fn (.func 55) [] [])])] [(i6 (wvF 10 ws k w))] none false (dB (fitsF (wvF 10 ws k w)))∧True)∧True)∧((((zg_10_1_8 ws xs k w) : St) = (zg_10_1_8 ws xs k w)∧True∧True)∧True)∧((((zg_10_1_8 ws xs k w) : St) = (zg_10_1_8 ws xs k w)∧True∧True)∧(((zg_10_1_9 ws xs k w) : St) = (zg_10_1_9 ws xs k w)∧callOb Try.prog 37 [(.var 61 [(LI ws),(LI xs),(i6 k),(i6 w)]),(.var 57 [(i6 0),(.v .nilf),(.v .nilf)]),(.var 57 [(i6 3),(.fn (.func 54) [] []),(.fn (.func 55) [] [])])] [(i6 (wvF 10 ws k w))] none false (dB (fitsF (wvF 10 ws k w)))∧True)∧True)∧((((zg_10_1_8 ws xs k w) : St) = (zg_10_1_8 ws xs k w)∧True∧True)∧(((zg_10_1_10 ws xs k w) : St) = (zg_10_1_10 ws xs k w)∧callOb Try.prog 37 [(.var 61 [(LI ws),(LI xs),(i6 k),(i6 w)]),(.var 57 [(i6 0),(.v .nilf),(.v .nilf)]),(.var 57 [(i6 3),(.fn (.func 54) [] []),(.fn (.func 55) [] [])])] [(i6 (wvF 10 ws k w))] none false (dB (fitsF (wvF 10 ws k w)))∧True)∧True)∧((((zg_10_1_9 ws xs k w) : St) = (zg_10_1_9 ws xs k w)∧True∧True)∧(((zg_10_1_10 ws xs k w) : St) = (zg_10_1_10 ws xs k w)∧True∧True)∧True)∧((((zg_10_1_11 ws xs k w) : St) = (zg_10_1_11 ws xs k w)∧callOb Try.prog 37 [(.var 61 [(LI ws),(LI xs),(i6 k),(i6 w)]),(.var 57 [(i6 0),(.v .nilf),(.v .nilf)]),(.var 57 [(i6 3),(.fn (.func 54) [] []),(.fn (.func 55) [] [])])] [(i6 (wvF 10 ws k w))] none false (dB (fitsF (wvF 10 ws k w)))∧True)∧True)∧((((zg_10_1_11 ws xs k w) : St) = (zg_10_1_11 ws xs k w)∧True∧True)∧(((zg_10_1_12 ws xs k w) : St) = (zg_10_1_12 ws xs k w)∧True∧True)∧True)∧((((zg_10_1_11 ws xs k w) : St) = (zg_10_1_11 ws xs k w)∧True∧True)∧True)∧((((zg_10_1_13 ws xs k w) : St) = (zg_10_1_13 ws xs k w)∧True∧True)∧True)∧((((zg_10_1_13 ws xs k w) : St) = (zg_10_1_13 ws xs k w)∧True∧True)∧True)∧((((zg_10_1_14 ws xs k w) : St) = (zg_10_1_14 ws xs k w)∧True∧True)∧True)∧((((zg_10_1_15 ws xs k w) : St) = (zg_10_1_15 ws xs k w)∧(True∧(fitsF (wvF 10 ws k w)) = true)∧True)∧True)∧True∧True) (by kernel_rfl) (by kernel_rfl) (by kernel_rfl) (by kernel_rfl) (by kernel_rfl) (by kernel_rfl)
    ⟨⟨⟨rfl,⟨⟩,⟨⟩⟩,⟨rfl,⟨⟩,⟨⟩⟩,⟨rfl,⟨⟩,⟨⟩⟩,⟨⟩⟩,⟨⟨rfl,⟨⟩,⟨⟩⟩,⟨rfl,⟨⟩,⟨⟩⟩,⟨⟩⟩,⟨⟨rfl,⟨⟩,⟨⟩⟩,⟨rfl,⟨⟩,⟨⟩⟩,⟨⟩⟩,⟨⟨rfl,⟨⟩,⟨⟩⟩,⟨rfl,⟨⟩,⟨⟩⟩,⟨rfl,(fits_ok _),⟨⟩⟩,⟨⟩⟩,⟨⟨rfl,⟨⟩,⟨⟩⟩,⟨⟩⟩,⟨⟨rfl,⟨⟩,⟨⟩⟩,⟨rfl,(fits_ok _),⟨⟩⟩,⟨⟩⟩,⟨⟨rfl,⟨⟩,⟨⟩⟩,⟨rfl,(fits_ok _),⟨⟩⟩,⟨⟩⟩,⟨⟨rfl,⟨⟩,⟨⟩⟩,⟨rfl,⟨⟩,⟨⟩⟩,⟨⟩⟩,⟨⟨rfl,(fits_ok _),⟨⟩⟩,⟨⟩⟩,⟨⟨rfl,⟨⟩,⟨⟩⟩,⟨rfl,⟨⟩,⟨⟩⟩,⟨⟩⟩,⟨⟨rfl,⟨⟩,⟨⟩⟩,⟨⟩⟩,⟨⟨rfl,⟨⟩,⟨⟩⟩,⟨⟩⟩,⟨⟨rfl,⟨⟩,⟨⟩⟩,⟨⟩⟩,⟨⟨rfl,⟨⟩,⟨⟩⟩,⟨⟩⟩,⟨⟨rfl,⟨⟨⟩,(by first | exact h3 | simpa [wvF] using h3)⟩,⟨⟩⟩,⟨⟩⟩,⟨⟩,⟨⟩⟩ ?_
  refine Ev.ret ?_
  refine ⟨⟨⟨⟩,⟨⟩,⟨⟩,⟨⟩⟩,(?_ : ((3 : Int) = 3∧((.fn (.func 54) [] []) : D) = (.fn (.func 54) [] [])∧((.fn (.func 55) [] []) : D) = (.fn (.func 55) [] [])∧True)∧(wvF 10 ws k w) = (wvF 10 ws k w)∧true = true∧True),.inl rfl⟩
  exact ⟨⟨rfl,rfl,rfl,⟨⟩⟩,rfl,rfl,⟨⟩⟩

set_option maxRecDepth 100000 in
theorem width_bad_10 (ws xs : List Int) (k w : Int) (hw : ws.length ≤ 9223372036854775807) (h : okB 10 ws = false) : CallOk Try.prog 27 [(i6 10),(.agg [(LI ws),(LI xs),(i6 k),(i6 w)])] [] true (.tup [(.agg [(i6 0),(.v .nilf),(.v .nilf)]),(i6 0),(dB false)]) [] := by
  refine CallOk.of_ev Try.func27 rfl rfl rfl ?_
  rintro ⟨_,W,S0,_,susp,_⟩ rfl rfl rfl
  refine Ev.seq ?_
  refine Ev.reg [] [0,3,4] (st' := ⟨[(0,(i6 10)),(3,(.ptr 0 0 0 0)),(4,(.ptr 1 0 0 0))],[(.var 61 [(LI ws),(LI xs),(i6 k),(i6 w)]),(.var 57 [(i6 0),(.v .nilf),(.v .nilf)])]⟩)
    (p := True∧True∧True∧True∧True) (by kernel_rfl)
    ⟨⟨⟩,⟨⟩,⟨⟩,⟨⟩,⟨⟩⟩ ?_
  refine Ev.seq ?_
  refine Ev.reg [(0,.call none false (.v (.mp simpleM))),(2,.idx none)] [0,3,4,7,8] (st' := ⟨[(0,(i6 10)),(3,(.ptr 0 0 0 0)),(4,(.ptr 1 0 0 0)),(7,(.ptr 2 0 0 0)),(8,(dB false))],[(.var 61 [(LI ws),(LI xs),(i6 k),(i6 w)]),(.var 57 [(i6 0),(.v .nilf),(.v .nilf)]),(.var 57 [(i6 0),(.v .nilf),(.v .nilf)])]⟩)
    (p := callOb Try.prog 33 [(.var 61 [(LI ws),(LI xs),(i6 k),(i6 w)]),(.var 57 [(i6 0),(.v .nilf),(.v .nilf)])] [] none false (.v (.mp simpleM))∧True∧(∀ e' ∈ simpleM,10 ≠ e'.1)∧True∧True∧True∧True∧True∧True∧True) (by kernel_rfl)
    ⟨simple_ok,⟨⟩,(by decide),⟨⟩,⟨⟩,⟨⟩,⟨⟩,⟨⟩,⟨⟩,⟨⟩⟩ ?_
  refine Ev.seq ?_
  refine Ev.seq ?_
  refine Ev.reg [] [0,3,4,7,8,17] (st' := ⟨[(0,(i6 10)),(3,(.ptr 0 0 0 0)),(4,(.ptr 1 0 0 0)),(7,(.ptr 2 0 0 0)),(8,(dB false)),(17,(dB true))],[(.var 61 [(LI ws),(LI xs),(i6 k),(i6 w)]),(.var 57 [(i6 0),(.v .nilf),(.v .nilf)]),(.var 57 [(i6 0),(.v .nilf),(.v .nilf)])]⟩)
    (p := True∧True∧True) (by kernel_rfl)
    ⟨⟨⟩,⟨⟩,⟨⟩⟩ ?_
  refine Ev.cond true rfl (fun _ => ?_) (fun h => (by cases h))
  refine Ev.reg [(0,.call none false (.v (.mp othersM))),(2,.idx (some 1))] [3,4,7,8] (st' := ⟨[(3,(.ptr 0 0 0 0)),(4,(.ptr 1 0 0 0)),(7,(.ptr 2 0 0 0)),(8,(dB true))],[(.var 61 [(LI ws),(LI xs),(i6 k),(i6 w)]),(.var 57 [(i6 0),(.v .nilf),(.v .nilf)]),(.var 57 [(i6 3),(.fn (.func 54) [] []),(.fn (.func 55) [] [])])]⟩)
    (p := callOb Try.prog 34 [(.var 61 [(LI ws),(LI xs),(i6 k),(i6 w)]),(.var 57 [(i6 0),(.v .nilf),(.v .nilf)]),(.var 57 [(i6 0),(.v .nilf),(.v .nilf)])] [] none false (.v (.mp othersM))∧True∧((10 : Int) = 10∧∀ e' ∈ othersM.take 1,(10 : Int) ≠ e'.1)∧True∧True∧True∧True∧True∧True) (by kernel_rfl)
    ⟨others_ok,⟨⟩,(by decide),⟨⟩,⟨⟩,⟨⟩,⟨⟩,⟨⟩,⟨⟩⟩ ?_
  refine Ev.seq ?_
  refine Ev.seq ?_
  rcases okB_no h with h1 | ⟨h1,h2⟩
  · skip
    have hA : arityF 10 = 3 := by decide
    rw [hA] at h1
    refine Ev.reg [(8,.val (dB true))] [3,4,7,38] (st' := ⟨[(3,(.ptr 0 0 0 0)),(4,(.ptr 1 0 0 0)),(7,(.ptr 2 0 0 0)),(38,(dB true))],[(.var 61 [(LI ws),(LI xs),(i6 k),(i6 w)]),(.var 57 [(i6 0),(.v .nilf),(.v .nilf)]),(.var 57 [(i6 3),(.fn (.func 54) [] []),(.fn (.func 55) [] [])])]⟩)
      (p := True∧True∧True∧True∧True∧True∧True∧True∧(True∧(((ws.length : Nat) : Int) != 3) = true)∧True∧True∧True∧True∧True∧True∧True) (by kernel_rfl)
      ⟨⟨⟩,⟨⟩,⟨⟩,⟨⟩,⟨⟩,⟨⟩,⟨⟩,⟨⟩,⟨⟨⟩,(by exact bne_iff_ne.2 (by omega))⟩,⟨⟩,⟨⟩,⟨⟩,⟨⟩,⟨⟩,⟨⟩,⟨⟩⟩ ?_
    refine Ev.cond true rfl (fun _ => ?_) (fun h => (by cases h))
    refine Ev.seq ?_
    refine Ev.reg [] [4,5,6] (st' := ⟨[(4,(.ptr 1 0 0 0)),(5,(i6 0)),(6,(dB false))],[(.var 61 [(LI ws),(LI xs),(i6 k),(i6 w)]),(.var 57 [(i6 0),(.v .nilf),(.v .nilf)]),(.var 57 [(i6 3),(.fn (.func 54) [] []),(.fn (.func 55) [] [])])]⟩)
      (p := True∧True∧True∧True∧True) (by kernel_rfl)
      ⟨⟨⟩,⟨⟩,⟨⟩,⟨⟩,⟨⟩⟩ ?_
    refine Ev.ret ?_
    refine ⟨⟨⟨⟩,⟨⟩,⟨⟩,⟨⟩⟩,(?_ : ((0 : Int) = 0∧True∧True∧True)∧(0 : Int) = 0∧false = false∧True),.inl rfl⟩
    exact ⟨⟨rfl,⟨⟩,⟨⟩,⟨⟩⟩,rfl,rfl,⟨⟩⟩
  · skip
    have hA : arityF 10 = 3 := by decide
    rw [hA] at h1
    refine Ev.reg [(8,.val (dB false)),(13,.call none false (dB (!(ws.all fitsF)))),(14,.val (dB true))] [3,4,7,38] (st' := ⟨[(3,(.ptr 0 0 0 0)),(4,(.ptr 1 0 0 0)),(7,(.ptr 2 0 0 0)),(38,(dB true))],[(.var 61 [(LI ws),(LI xs),(i6 k),(i6 w)]),(.var 57 [(i6 0),(.v .nilf),(.v .nilf)]),(.var 57 [(i6 3),(.fn (.func 54) [] []),(.fn (.func 55) [] [])])]⟩)
      (p := True∧True∧True∧True∧True∧True∧True∧True∧(True∧(((ws.length : Nat) : Int) != 3) = false)∧True∧True∧True∧True∧callOb Try.prog 35 [(.var 61 [(LI ws),(LI xs),(i6 k),(i6 w)]),(.var 57 [(i6 0),(.v .nilf),(.v .nilf)]),(.var 57 [(i6 3),(.fn (.func 54) [] []),(.fn (.func 55) [] [])])] [(LI ws),(.fn (.func 36) [] [])] none false (dB (!(ws.all fitsF)))∧(True∧(!(ws.all fitsF)) = true)∧True) (by kernel_rfl)
      ⟨⟨⟩,⟨⟩,⟨⟩,⟨⟩,⟨⟩,⟨⟩,⟨⟩,⟨⟩,⟨⟨⟩,(by rw [h1]; rfl)⟩,⟨⟩,⟨⟩,⟨⟩,⟨⟩,(contains_ok _ (by first | omega | (simp; first | done | omega))),⟨⟨⟩,(by rw [h2]; rfl)⟩,⟨⟩⟩ ?_
    refine Ev.cond true rfl (fun _ => ?_) (fun h => (by cases h))
    refine Ev.seq ?_
    refine Ev.reg [] [4,5,6] (st' := ⟨[(4,(.ptr 1 0 0 0)),(5,(i6 0)),(6,(dB false))],[(.var 61 [(LI ws),(LI xs),(i6 k),(i6 w)]),(.var 57 [(i6 0),(.v .nilf),(.v .nilf)]),(.var 57 [(i6 3),(.fn (.func 54) [] []),(.fn (.func 55) [] [])])]⟩)
      (p := True∧True∧True∧True∧True) (by kernel_rfl)
      ⟨⟨⟩,⟨⟩,⟨⟩,⟨⟩,⟨⟩⟩ ?_
    refine Ev.ret ?_
    refine ⟨⟨⟨⟩,⟨⟩,⟨⟩,⟨⟩⟩,(?_ : ((0 : Int) = 0∧True∧True∧True)∧(0 : Int) = 0∧false = false∧True),.inl rfl⟩
    exact ⟨⟨rfl,⟨⟩,⟨⟩,⟨⟩⟩,rfl,rfl,⟨⟩⟩

def zwv_10_1_0 (ws xs : List Int) (k w : Int) : St := ⟨[(4,(.ptr 1 0 0 0)),(7,(.ptr 2 0 0 0)),(9,(i6 (wvF 10 ws k w)))],[(.var 61 [(LI ws),(LI xs),(i6 k),(i6 w)]),(.var 57 [(i6 0),(.v .nilf),(.v .nilf)]),(.var 57 [(i6 3),(.fn (.func 54) [] []),(.fn (.func 55) [] [])])]⟩
def zwv_10_1_1 (ws xs : List Int) (k w : Int) : St := ⟨[(4,(.ptr 1 0 0 0)),(7,(.ptr 2 0 0 0)),(9,(i6 (wvF 10 ws k w))),(44,(.agg [(i6 3),(.fn (.func 54) [] []),(.fn (.func 55) [] [])]))],[(.var 61 [(LI ws),(LI xs),(i6 k),(i6 w)]),(.var 57 [(i6 0),(.v .nilf),(.v .nilf)]),(.var 57 [(i6 3),(.fn (.func 54) [] []),(.fn (.func 55) [] [])])]⟩
def zwv_10_1_2 (ws xs : List Int) (k w : Int) : St := ⟨[(4,(.ptr 1 0 0 0)),(7,(.ptr 2 0 0 0)),(9,(i6 (wvF 10 ws k w))),(45,(i6 (wvF 10 ws k w)))],[(.var 61 [(LI ws),(LI xs),(i6 k),(i6 w)]),(.var 57 [(i6 0),(.v .nilf),(.v .nilf)]),(.var 57 [(i6 3),(.fn (.func 54) [] []),(.fn (.func 55) [] [])])]⟩
def zwv_10_1_3 (ws xs : List Int) (k w : Int) : St := ⟨[(4,(.ptr 1 0 0 0)),(7,(.ptr 2 0 0 0)),(9,(i6 (wvF 10 ws k w))),(46,(i6 (wvF 10 ws k w)))],[(.var 61 [(LI ws),(LI xs),(i6 k),(i6 w)]),(.var 57 [(i6 0),(.v .nilf),(.v .nilf)]),(.var 57 [(i6 3),(.fn (.func 54) [] []),(.fn (.func 55) [] [])])]⟩
def zwv_10_1_4 (ws xs : List Int) (k w : Int) : St := ⟨[(4,(.ptr 1 0 0 0)),(7,(.ptr 2 0 0 0)),(9,(i6 (wvF 10 ws k w))),(44,(.agg [(i6 3),(.fn (.func 54) [] []),(.fn (.func 55) [] [])])),(45,(i6 (wvF 10 ws k w)))],[(.var 61 [(LI ws),(LI xs),(i6 k),(i6 w)]),(.var 57 [(i6 0),(.v .nilf),(.v .nilf)]),(.var 57 [(i6 3),(.fn (.func 54) [] []),(.fn (.func 55) [] [])])]⟩
def zwv_10_1_5 (ws xs : List Int) (k w : Int) : St := ⟨[(4,(.ptr 1 0 0 0)),(7,(.ptr 2 0 0 0)),(9,(i6 (wvF 10 ws k w))),(44,(.agg [(i6 3),(.fn (.func 54) [] []),(.fn (.func 55) [] [])])),(46,(i6 (wvF 10 ws k w)))],[(.var 61 [(LI ws),(LI xs),(i6 k),(i6 w)]),(.var 57 [(i6 0),(.v .nilf),(.v .nilf)]),(.var 57 [(i6 3),(.fn (.func 54) [] []),(.fn (.func 55) [] [])])]⟩
def zwv_10_1_6 (ws xs : List Int) (k w : Int) : St := ⟨[(4,(.ptr 1 0 0 0)),(7,(.ptr 2 0 0 0)),(9,(i6 (wvF 10 ws k w))),(45,(i6 (wvF 10 ws k w))),(46,(i6 (wvF 10 ws k w)))],[(.var 61 [(LI ws),(LI xs),(i6 k),(i6 w)]),(.var 57 [(i6 0),(.v .nilf),(.v .nilf)]),(.var 57 [(i6 3),(.fn (.func 54) [] []),(.fn (.func 55) [] [])])]⟩
def zwv_10_1_7 (ws xs : List Int) (k w : Int) : St := ⟨[(4,(.ptr 1 0 0 0)),(7,(.ptr 2 0 0 0)),(9,(i6 (wvF 10 ws k w))),(46,(i6 (wvF 10 ws k w))),(47,(dB (fitsF (wvF 10 ws k w))))],[(.var 61 [(LI ws),(LI xs),(i6 k),(i6 w)]),(.var 57 [(i6 0),(.v .nilf),(.v .nilf)]),(.var 57 [(i6 3),(.fn (.func 54) [] []),(.fn (.func 55) [] [])])]⟩
def zwv_10_1_8 (ws xs : List Int) (k w : Int) : St := ⟨[(4,(.ptr 1 0 0 0)),(7,(.ptr 2 0 0 0)),(9,(i6 (wvF 10 ws k w))),(44,(.agg [(i6 3),(.fn (.func 54) [] []),(.fn (.func 55) [] [])])),(45,(i6 (wvF 10 ws k w))),(46,(i6 (wvF 10 ws k w)))],[(.var 61 [(LI ws),(LI xs),(i6 k),(i6 w)]),(.var 57 [(i6 0),(.v .nilf),(.v .nilf)]),(.var 57 [(i6 3),(.fn (.func 54) [] []),(.fn (.func 55) [] [])])]⟩
def zwv_10_1_9 (ws xs : List Int) (k w : Int) : St := ⟨[(4,(.ptr 1 0 0 0)),(7,(.ptr 2 0 0 0)),(9,(i6 (wvF 10 ws k w))),(44,(.agg [(i6 3),(.fn (.func 54) [] []),(.fn (.func 55) [] [])])),(46,(i6 (wvF 10 ws k w))),(47,(dB (fitsF (wvF 10 ws k w))))],[(.var 61 [(LI ws),(LI xs),(i6 k),(i6 w)]),(.var 57 [(i6 0),(.v .nilf),(.v .nilf)]),(.var 57 [(i6 3),(.fn (.func 54) [] []),(.fn (.func 55) [] [])])]⟩
def zwv_10_1_10 (ws xs : List Int) (k w : Int) : St := ⟨[(4,(.ptr 1 0 0 0)),(7,(.ptr 2 0 0 0)),(9,(i6 (wvF 10 ws k w))),(45,(i6 (wvF 10 ws k w))),(46,(i6 (wvF 10 ws k w))),(47,(dB (fitsF (wvF 10 ws k w))))],[(.var 61 [(LI ws),(LI xs),(i6 k),(i6 w)]),(.var 57 [(i6 0),(.v .nilf),(.v .nilf)]),(.var 57 [(i6 3),(.fn (.func 54) [] []),(.fn (.func 55) [] [])])]⟩
def zwv_10_1_11 (ws xs : List Int) (k w : Int) : St := ⟨[(4,(.ptr 1 0 0 0)),(7,(.ptr 2 0 0 0)),(9,(i6 (wvF 10 ws k w))),(44,(.agg [(i6 3),(.fn (.func 54) [] []),(.fn (.func 55) [] [])])),(45,(i6 (wvF 10 ws k w))),(46,(i6 (wvF 10 ws k w))),(47,(dB (fitsF (wvF 10 ws k w))))],[(.var 61 [(LI ws),(LI xs),(i6 k),(i6 w)]),(.var 57 [(i6 0),(.v .nilf),(.v .nilf)]),(.var 57 [(i6 3),(.fn (.func 54) [] []),(.fn (.func 55) [] [])])]⟩
def zwv_10_1_12 (ws xs : List Int) (k w : Int) : St := ⟨[(4,(.ptr 1 0 0 0)),(7,(.ptr 2 0 0 0)),(9,(i6 (wvF 10 ws k w))),(44,(.agg [(i6 3),(.fn (.func 54) [] []),(.fn (.func 55) [] [])])),(46,(i6 (wvF 10 ws k w))),(47,(dB (fitsF (wvF 10 ws k w))))],[(.var 61 [(LI ws),(LI xs),(i6 k),(i6 w)]),(.var 57 [(i6 3),(.fn (.func 54) [] []),(.fn (.func 55) [] [])]),(.var 57 [(i6 3),(.fn (.func 54) [] []),(.fn (.func 55) [] [])])]⟩
def zwv_10_1_13 (ws xs : List Int) (k w : Int) : St := ⟨[(4,(.ptr 1 0 0 0)),(7,(.ptr 2 0 0 0)),(9,(i6 (wvF 10 ws k w))),(44,(.agg [(i6 3),(.fn (.func 54) [] []),(.fn (.func 55) [] [])])),(45,(i6 (wvF 10 ws k w))),(46,(i6 (wvF 10 ws k w))),(47,(dB (fitsF (wvF 10 ws k w))))],[(.var 61 [(LI ws),(LI xs),(i6 k),(i6 w)]),(.var 57 [(i6 3),(.fn (.func 54) [] []),(.fn (.func 55) [] [])]),(.var 57 [(i6 3),(.fn (.func 54) [] []),(.fn (.func 55) [] [])])]⟩
def zwv_10_1_14 (ws xs : List Int) (k w : Int) : St := ⟨[(4,(.ptr 1 0 0 0)),(5,(i6 (wvF 10 ws k w))),(7,(.ptr 2 0 0 0)),(9,(i6 (wvF 10 ws k w))),(44,(.agg [(i6 3),(.fn (.func 54) [] []),(.fn (.func 55) [] [])])),(45,(i6 (wvF 10 ws k w))),(46,(i6 (wvF 10 ws k w))),(47,(dB (fitsF (wvF 10 ws k w))))],[(.var 61 [(LI ws),(LI xs),(i6 k),(i6 w)]),(.var 57 [(i6 3),(.fn (.func 54) [] []),(.fn (.func 55) [] [])]),(.var 57 [(i6 3),(.fn (.func 54) [] []),(.fn (.func 55) [] [])])]⟩
def zwv_10_1_15 (ws xs : List Int) (k w : Int) : St := ⟨[(4,(.ptr 1 0 0 0)),(5,(i6 (wvF 10 ws k w))),(6,(dB false))],[(.var 61 [(LI ws),(LI xs),(i6 k),(i6 w)]),(.var 57 [(i6 3),(.fn (.func 54) [] []),(.fn (.func 55) [] [])]),(.var 57 [(i6 3),(.fn (.func 54) [] []),(.fn (.func 55) [] [])])]⟩
set_option maxRecDepth 100000 in
theorem width_wv_10 (ws xs : List Int) (k w : Int) (hw : ws.length ≤ 9223372036854775807) (h : okB 10 ws = true) (h3 : fitsF (wvF 10 ws k w) = false) : CallOk Try.prog 27 [(i6 10),(.agg [(LI ws),(LI xs),(i6 k),(i6 w)])] [] true (.tup [(.agg [(i6 3),(.fn (.func 54) [] []),(.fn (.func 55) [] [])]),(i6 (wvF 10 ws k w)),(dB false)]) [] := by
  refine CallOk.of_ev Try.func27 rfl rfl rfl ?_
  rintro ⟨_,W,S0,_,susp,_⟩ rfl rfl rfl
  obtain ⟨h1,h2⟩ := okB_yes h
  have hA : arityF 10 = 3 := by decide
  rw [hA] at h1
  refine Ev.seq ?_
  refine Ev.reg [] [0,3,4] (st' := ⟨[(0,(i6 10)),(3,(.ptr 0 0 0 0)),(4,(.ptr 1 0 0 0))],[(.var 61 [(LI ws),(LI xs),(i6 k),(i6 w)]),(.var 57 [(i6 0),(.v .nilf),(.v .nilf)])]⟩)
    (p := True∧True∧True∧True∧True) (by kernel_rfl)
    ⟨⟨⟩,⟨⟩,⟨⟩,⟨⟩,⟨⟩⟩ ?_
  refine Ev.seq ?_
  refine Ev.reg [(0,.call none false (.v (.mp simpleM))),(2,.idx none)] [0,3,4,7,8] (st' := ⟨[(0,(i6 10)),(3,(.ptr 0 0 0 0)),(4,(.ptr 1 0 0 0)),(7,(.ptr 2 0 0 0)),(8,(dB false))],[(.var 61 [(LI ws),(LI xs),(i6 k),(i6 w)]),(.var 57 [(i6 0),(.v .nilf),(.v .nilf)]),(.var 57 [(i6 0),(.v .nilf),(.v .nilf)])]⟩)
    (p := callOb Try.prog 33 [(.var 61 [(LI ws),(LI xs),(i6 k),(i6 w)]),(.var 57 [(i6 0),(.v .nilf),(.v .nilf)])] [] none false (.v (.mp simpleM))∧True∧(∀ e' ∈ simpleM,10 ≠ e'.1)∧True∧True∧True∧True∧True∧True∧True) (by kernel_rfl)
    ⟨simple_ok,⟨⟩,(by decide),⟨⟩,⟨⟩,⟨⟩,⟨⟩,⟨⟩,⟨⟩,⟨⟩⟩ ?_
  refine Ev.seq ?_
  refine Ev.seq ?_
  refine Ev.reg [] [0,3,4,7,8,17] (st' := ⟨[(0,(i6 10)),(3,(.ptr 0 0 0 0)),(4,(.ptr 1 0 0 0)),(7,(.ptr 2 0 0 0)),(8,(dB false)),(17,(dB true))],[(.var 61 [(LI ws),(LI xs),(i6 k),(i6 w)]),(.var 57 [(i6 0),(.v .nilf),(.v .nilf)]),(.var 57 [(i6 0),(.v .nilf),(.v .nilf)])]⟩)
    (p := True∧True∧True) (by kernel_rfl)
    ⟨⟨⟩,⟨⟩,⟨⟩⟩ ?_
  refine Ev.cond true rfl (fun _ => ?_) (fun h => (by cases h))
  refine Ev.reg [(0,.call none false (.v (.mp othersM))),(2,.idx (some 1))] [3,4,7,8] (st' := ⟨[(3,(.ptr 0 0 0 0)),(4,(.ptr 1 0 0 0)),(7,(.ptr 2 0 0 0)),(8,(dB true))],[(.var 61 [(LI ws),(LI xs),(i6 k),(i6 w)]),(.var 57 [(i6 0),(.v .nilf),(.v .nilf)]),(.var 57 [(i6 3),(.fn (.func 54) [] []),(.fn (.func 55) [] [])])]⟩)
    (p := callOb Try.prog 34 [(.var 61 [(LI ws),(LI xs),(i6 k),(i6 w)]),(.var 57 [(i6 0),(.v .nilf),(.v .nilf)]),(.var 57 [(i6 0),(.v .nilf),(.v .nilf)])] [] none false (.v (.mp othersM))∧True∧((10 : Int) = 10∧∀ e' ∈ othersM.take 1,(10 : Int) ≠ e'.1)∧True∧True∧True∧True∧True∧True) (by kernel_rfl)
    ⟨others_ok,⟨⟩,(by decide),⟨⟩,⟨⟩,⟨⟩,⟨⟩,⟨⟩,⟨⟩⟩ ?_
  refine Ev.seq ?_
  refine Ev.seq ?_
  refine Ev.reg [(8,.val (dB false)),(13,.call none false (dB (!(ws.all fitsF)))),(14,.val (dB false))] [3,4,7,38] (st' := ⟨[(3,(.ptr 0 0 0 0)),(4,(.ptr 1 0 0 0)),(7,(.ptr 2 0 0 0)),(38,(dB false))],[(.var 61 [(LI ws),(LI xs),(i6 k),(i6 w)]),(.var 57 [(i6 0),(.v .nilf),(.v .nilf)]),(.var 57 [(i6 3),(.fn (.func 54) [] []),(.fn (.func 55) [] [])])]⟩)
    (p := True∧True∧True∧True∧True∧True∧True∧True∧(True∧(((ws.length : Nat) : Int) != 3) = false)∧True∧True∧True∧True∧callOb Try.prog 35 [(.var 61 [(LI ws),(LI xs),(i6 k),(i6 w)]),(.var 57 [(i6 0),(.v .nilf),(.v .nilf)]),(.var 57 [(i6 3),(.fn (.func 54) [] []),(.fn (.func 55) [] [])])] [(LI ws),(.fn (.func 36) [] [])] none false (dB (!(ws.all fitsF)))∧(True∧(!(ws.all fitsF)) = false)∧True) (by kernel_rfl)
    ⟨⟨⟩,⟨⟩,⟨⟩,⟨⟩,⟨⟩,⟨⟩,⟨⟩,⟨⟩,⟨⟨⟩,(by rw [h1]; rfl)⟩,⟨⟩,⟨⟩,⟨⟩,⟨⟩,(contains_ok _ (by first | omega | (simp; first | done | omega))),⟨⟨⟩,(by rw [h2]; rfl)⟩,⟨⟩⟩ ?_
  refine Ev.cond false rfl (fun h => (by cases h)) (fun _ => ?_)
  refine Ev.skip ?_
  refine Ev.seq ?_
  refine Ev.reg [(3,.call none false (i6 (if ws.getD 0 0 ≠ 1 ∨ ws.getD 1 0 ≠ ws.getD 2 0 then 0 else ws.getD 1 0))),(4,.val (i6 (wvF 10 ws k w)))] [4,7,9] (st' := ⟨[(4,(.ptr 1 0 0 0)),(7,(.ptr 2 0 0 0)),(9,(i6 (wvF 10 ws k w)))],[(.var 61 [(LI ws),(LI xs),(i6 k),(i6 w)]),(.var 57 [(i6 0),(.v .nilf),(.v .nilf)]),(.var 57 [(i6 3),(.fn (.func 54) [] []),(.fn (.func 55) [] [])])]⟩)
    (p := True∧True∧True∧(callOb Try.prog 54 [(.var 61 [(LI ws),(LI xs),(i6 k),(i6 w)]),(.var 57 [(i6 0),(.v .nilf),(.v .nilf)]),(.var 57 [(i6 3),(.fn (.func 54) [] []),(.fn (.func 55) [] [])])] [(.agg [(LI ws),(LI xs),(i6 k),(i6 w)])] none false (i6 (if ws.getD 0 0 ≠ 1 ∨ ws.getD 1 0 ≠ ws.getD 2 0 then 0 else ws.getD 1 0)))∧(True∧((if ws.getD 0 0 ≠ 1 ∨ ws.getD 1 0 ≠ ws.getD 2 0 then 0 else ws.getD 1 0) = (wvF 10 ws k w)))∧True) (by kernel_rfl)
    ⟨⟨⟩,⟨⟩,⟨⟩,(wmux_ok _ _ _ _ (by omega) (by assumption)),⟨⟨⟩,(by first | rfl | simp [wvF])⟩,⟨⟩⟩ ?_
  refine Ev.seq ?_
  refine Ev.any [(3,.call none false (dB (fitsF (wvF 10 ws k w)))),(6,.val (dB false))] [((bm 7 0),(zwv_10_1_0 ws xs k w)),((bm 7 1),(zwv_10_1_1 ws xs k w)),((bm 7 2),(zwv_10_1_2 ws xs k w)),((bm 7 4),(zwv_10_1_3 ws xs k w)),((bm 7 3),(zwv_10_1_4 ws xs k w)),((bm 7 5),(zwv_10_1_5 ws xs k w)),((bm 7 6),(zwv_10_1_6 ws xs k w)),((bm 7 12),(zwv_10_1_7 ws xs k w)),((bm 7 7),(zwv_10_1_8 ws xs k w)),((bm 7 13),(zwv_10_1_9 ws xs k w)),((bm 7 14),(zwv_10_1_10 ws xs k w)),((bm 7 15),(zwv_10_1_11 ws xs k w)),((bm 7 29),(zwv_10_1_12 ws xs k w)),((bm 7 31),(zwv_10_1_13 ws xs k w)),((bm 7 63),(zwv_10_1_14 ws xs k w)),((bm 7 127),(zwv_10_1_15 ws xs k w))] (st0 := (zwv_10_1_0 ws xs k w)) (st' := ⟨[(4,(.ptr 1 0 0 0)),(5,(i6 (wvF 10 ws k w))),(6,(dB false))],[(.var 61 [(LI ws),(LI xs),(i6 k),(i6 w)]),(.var 57 [(i6 3),(.fn (.func 54) [] []),(.fn (.func 55) [] [])]),(.var 57 [(i6 3),(.fn (.func 54) [] []),(.fn (.func 55) [] [])])]⟩)
    (p := ((((zwv_10_1_1 ws xs k w) : St) = (zwv_10_1_1 ws xs k w)∧True∧True)∧(((zwv_10_1_2 ws xs k w) : St) = (zwv_10_1_2 ws xs k w)∧True∧True)∧(((zwv_10_1_3 ws xs k w) : St) = (zwv_10_1_3 ws xs k w)∧True∧True)∧True)∧((((zwv_10_1_4 ws xs k w) : St) = (zwv_10_1_4 ws xs k w)∧True∧True)∧(((zwv_10_1_5 ws xs k w) : St) = (zwv_10_1_5 ws xs k w)∧True∧True)∧True)∧((((zwv_10_1_4 ws xs k w) : St) = (zwv_10_1_4 ws xs k w)∧True∧True)∧(((zwv_10_1_6 ws xs k w) : St) = (zwv_10_1_6 ws xs k w)∧True∧True)∧True)∧((((zwv_10_1_5 ws xs k w) : St) = (zwv_10_1_5 ws xs k w)∧True∧True)∧(((zwv_10_1_6 ws xs k w) : St) = (zwv_10_1_6 ws xs k w)∧True∧True)∧(((zwv_10_1_7 ws xs k w) : St) = (zwv_10_1_7 ws xs k w)∧callOb Try.prog 37 [(.var 61 [(LI ws),(LI xs),(i6 k),(i6 w)]),(.var 57 [(i6 0),(.v .nilf),(.v .nilf)]),(.var 57 [(i6 3),(.fn (.func 54) [] []),(.fn (.func 55) [] [])])] [(i6 (wvF 10 ws k w))] none false (dB (fitsF (wvF 10 ws k w)))∧True)∧True)∧((((zwv_10_1_8 ws xs k w) : St) = (zwv_10_1_8 ws xs k w)∧True∧True)∧True)∧((((zwv_10_1_8 ws xs k w) : St) = (zwv_10_1_8 ws xs k w)∧True∧True)∧(((zwv_10_1_9 ws xs k w) : St) = (zwv_10_1_9 ws xs k w)∧callOb Try.prog 37 [(.var 61 [(LI ws),(LI xs),(i6 k),(i6 w)]),(.var 57 [(i6 0),(.v .nilf),(.v .nilf)]),(.var 57 [(i6 3),(.fn (.func 54) [] []),(.fn (.func 55) [] [])])] [(i6 (wvF 10 ws k w))] none false (dB (fitsF (wvF 10 ws k w)))∧True)∧True)∧((((zwv_10_1_8 ws xs k w) : St) = (zwv_10_1_8 ws xs k w)∧True∧True)∧(((zwv_10_1_10 ws xs k w) : St) = (zwv_10_1_10 ws xs k w)∧callOb Try.prog 37 [(.var 61 [(LI ws),(LI xs),(i6 k),(i6 w)]),(.var 57 [(i6 0),(.v .nilf),(.v .nilf)]),(.var 57 [(i6 3),(.fn (.func 54) [] []),(.fn (.func 55) [] [])])] [(i6 (wvF 10 ws k w))] none false (dB (fitsF (wvF 10 ws k w)))∧True)∧True)∧((((zwv_10_1_9 ws xs k w) : St) = (zwv_10_1_9 ws xs k w)∧True∧True)∧(((zwv_10_1_10 ws xs k w) : St) = (zwv_10_1_10 ws xs k w)∧True∧True)∧True)∧((((zwv_10_1_11 ws xs k w) : St) = (zwv_10_1_11 ws xs k w)∧callOb Try.prog 37 [(.var 61 [(LI ws),(LI xs),(i6 k),(i6 w)]),(.var 57 [(i6 0),(.v .nilf),(.v .nilf)]),(.var 57 [(i6 3),(.fn (.func 54) [] []),(.fn (.func 55) [] [])])] [(i6 (wvF 10 ws k w))] none false (dB (fitsF (wvF 10 ws k w)))∧True)∧True)∧((((zwv_10_1_11 ws xs k w) : St) = (zwv_10_1_11 ws xs k w)∧True∧True)∧(((zwv_10_1_12 ws xs k w) : St) = (zwv_10_1_12 ws xs k w)∧True∧True)∧True)∧((((zwv_10_1_11 ws xs k w) : St) = (zwv_10_1_11 ws xs k w)∧True∧True)∧True)∧((((zwv_10_1_13 ws xs k w) : St) = (zwv_10_1_13 ws xs k w)∧True∧True)∧True)∧((((zwv_10_1_13 ws xs k w) : St) = (zwv_10_1_13 ws xs k w)∧True∧True)∧True)∧((((zwv_10_1_14 ws xs k w) : St) = (zwv_10_1_14 ws xs k w)∧True∧True)∧True)∧((((zwv_10_1_15 ws xs k w) : St) = (zwv_10_1_15 ws xs k w)∧(True∧(fitsF (wvF 10 ws k w)) = false)∧True)∧True)∧True∧True) (by kernel_rfl) (by kernel_rfl) (by kernel_rfl) (by kernel_rfl) (by kernel_rfl) (by kernel_rfl)
    ⟨⟨⟨rfl,⟨⟩,⟨⟩⟩,⟨rfl,⟨⟩,⟨⟩⟩,⟨rfl,⟨⟩,⟨⟩⟩,⟨⟩⟩,⟨⟨rfl,⟨⟩,⟨⟩⟩,⟨rfl,⟨⟩,⟨⟩⟩,⟨⟩⟩,⟨⟨rfl,⟨⟩,⟨⟩⟩,⟨rfl,⟨⟩,⟨⟩⟩,⟨⟩⟩,⟨⟨rfl,⟨⟩,⟨⟩⟩,⟨rfl,⟨⟩,⟨⟩⟩,⟨rfl,(fits_ok _),⟨⟩⟩,⟨⟩⟩,⟨⟨rfl,⟨⟩,⟨⟩⟩,⟨⟩⟩,⟨⟨rfl,⟨⟩,⟨⟩⟩,⟨rfl,(fits_ok _),⟨⟩⟩,⟨⟩⟩,⟨⟨rfl,⟨⟩,⟨⟩⟩,⟨rfl,(fits_ok _),⟨⟩⟩,⟨⟩⟩,⟨⟨rfl,⟨⟩,⟨⟩⟩,⟨rfl,⟨⟩,⟨⟩⟩,⟨⟩⟩,⟨⟨rfl,(fits_ok _),⟨⟩⟩,⟨⟩⟩,⟨⟨rfl,⟨⟩,⟨⟩⟩,⟨rfl,⟨⟩,⟨⟩⟩,⟨⟩⟩,⟨⟨rfl,⟨⟩,⟨⟩⟩,⟨⟩⟩,⟨⟨rfl,⟨⟩,⟨⟩⟩,⟨⟩⟩,⟨⟨rfl,⟨⟩,⟨⟩⟩,⟨⟩⟩,⟨⟨rfl,⟨⟩,⟨⟩⟩,⟨⟩⟩,⟨⟨rfl,⟨⟨⟩,(by first | exact h3 | simpa [wvF] using h3)⟩,⟨⟩⟩,⟨⟩⟩,⟨⟩,⟨⟩⟩ ?_
  refine Ev.ret ?_
  refine ⟨⟨⟨⟩,⟨⟩,⟨⟩,⟨⟩⟩,(?_ : ((3 : Int) = 3∧((.fn (.func 54) [] []) : D) = (.fn (.func 54) [] [])∧((.fn (.func 55) [] []) : D) = (.fn (.func 55) [] [])∧True)∧(wvF 10 ws k w) = (wvF 10 ws k w)∧false = false∧True),.inl rfl⟩
  exact ⟨⟨rfl,rfl,rfl,⟨⟩⟩,rfl,rfl,⟨⟩⟩

def zg_11_1_0 (ws xs : List Int) (k w : Int) : St := ⟨[(4,(.ptr 1 0 0 0)),(7,(.ptr 2 0 0 0)),(9,(i6 (wvF 11 ws k w)))],[(.var 61 [(LI ws),(LI xs),(i6 k),(i6 w)]),(.var 57 [(i6 0),(.v .nilf),(.v .nilf)]),(.var 57 [(i6 2),(.fn (.func 56) [] []),(.fn (.func 57) [] [])])]⟩
def zg_11_1_1 (ws xs : List Int) (k w : Int) : St := ⟨[(4,(.ptr 1 0 0 0)),(7,(.ptr 2 0 0 0)),(9,(i6 (wvF 11 ws k w))),(44,(.agg [(i6 2),(.fn (.func 56) [] []),(.fn (.func 57) [] [])]))],[(.var 61 [(LI ws),(LI xs),(i6 k),(i6 w)]),(.var 57 [(i6 0),(.v .nilf),(.v .nilf)]),(.var 57 [(i6 2),(.fn (.func 56) [] []),(.fn (.func 57) [] [])])]⟩
def zg_11_1_2 (ws xs : List Int) (k w : Int) : St := ⟨[(4,(.ptr 1 0 0 0)),(7,(.ptr 2 0 0 0)),(9,(i6 (wvF 11 ws k w))),(45,(i6 (wvF 11 ws k w)))],[(.var 61 [(LI ws),(LI xs),(i6 k),(i6 w)]),(.var 57 [(i6 0),(.v .nilf),(.v .nilf)]),(.var 57 [(i6 2),(.fn (.func 56) [] []),(.fn (.func 57) [] [])])]⟩
def zg_11_1_3 (ws xs : List Int) (k w : Int) : St := ⟨[(4,(.ptr 1 0 0 0)),(7,(.ptr 2 0 0 0)),(9,(i6 (wvF 11 ws k w))),(46,(i6 (wvF 11 ws k w)))],[(.var 61 [(LI ws),(LI xs),(i6 k),(i6 w)]),(.var 57 [(i6 0),(.v .nilf),(.v .nilf)]),(.var 57 [(i6 2),(.fn (.func 56) [] []),(.fn (.func 57) [] [])])]⟩
def zg_11_1_4 (ws xs : List Int) (k w : Int) : St := ⟨[(4,(.ptr 1 0 0 0)),(7,(.ptr 2 0 0 0)),(9,(i6 (wvF 11 ws k w))),(44,(.agg [(i6 2),(.fn (.func 56) [] []),(.fn (.func 57) [] [])])),(45,(i6 (wvF 11 ws k w)))],[(.var 61 [(LI ws),(LI xs),(i6 k),(i6 w)]),(.var 57 [(i6 0),(.v .nilf),(.v .nilf)]),(.var 57 [(i6 2),(.fn (.func 56) [] []),(.fn (.func 57) [] [])])]⟩
def zg_11_1_5 (ws xs : List Int) (k w : Int) : St := ⟨[(4,(.ptr 1 0 0 0)),(7,(.ptr 2 0 0 0)),(9,(i6 (wvF 11 ws k w))),(44,(.agg [(i6 2),(.fn (.func 56) [] []),(.fn (.func 57) [] [])])),(46,(i6 (wvF 11 ws k w)))],[(.var 61 [(LI ws),(LI xs),(i6 k),(i6 w)]),(.var 57 [(i6 0),(.v .nilf),(.v .nilf)]),(.var 57 [(i6 2),(.fn (.func 56) [] []),(.fn (.func 57) [] [])])]⟩
def zg_11_1_6 (ws xs : List Int) (k w : Int) : St := ⟨[(4,(.ptr 1 0 0 0)),(7,(.ptr 2 0 0 0)),(9,(i6 (wvF 11 ws k w))),(45,(i6 (wvF 11 ws k w))),(46,(i6 (wvF 11 ws k w)))],[(.var 61 [(LI ws),(LI xs),(i6 k),(i6 w)]),(.var 57 [(i6 0),(.v .nilf),(.v .nilf)]),(.var 57 [(i6 2),(.fn (.func 56) [] []),(.fn (.func 57) [] [])])]⟩
def zg_11_1_7 (ws xs : List Int) (k w : Int) : St := ⟨[(4,(.ptr 1 0 0 0)),(7,(.ptr 2 0 0 0)),(9,(i6 (wvF 11 ws k w))),(46,(i6 (wvF 11 ws k w))),(47,(dB (fitsF (wvF 11 ws k w))))],[(.var 61 [(LI ws),(LI xs),(i6 k),(i6 w)]),(.var 57 [(i6 0),(.v .nilf),(.v .nilf)]),(.var 57 [(i6 2),(.fn (.func 56) [] []),(.fn (.func 57) [] [])])]⟩
def zg_11_1_8 (ws xs : List Int) (k w : Int) : St := ⟨[(4,(.ptr 1 0 0 0)),(7,(.ptr 2 0 0 0)),(9,(i6 (wvF 11 ws k w))),(44,(.agg [(i6 2),(.fn (.func 56) [] []),(.fn (.func 57) [] [])])),(45,(i6 (wvF 11 ws k w))),(46,(i6 (wvF 11 ws k w)))],[(.var 61 [(LI ws),(LI xs),(i6 k),(i6 w)]),(.var 57 [(i6 0),(.v .nilf),(.v .nilf)]),(.var 57 [(i6 2),(.fn (.func 56) [] []),(.fn (.func 57) [] [])])]⟩
def zg_11_1_9 (ws xs : List Int) (k w : Int) : St := ⟨[(4,(.ptr 1 0 0 0)),(7,(.ptr 2 0 0 0)),(9,(i6 (wvF 11 ws k w))),(44,(.agg [(i6 2),(.fn (.func 56) [] []),(.fn (.func 57) [] [])])),(46,(i6 (wvF 11 ws k w))),(47,(dB (fitsF (wvF 11 ws k w))))],[(.var 61 [(LI ws),(LI xs),(i6 k),(i6 w)]),(.var 57 [(i6 0),(.v .nilf),(.v .nilf)]),(.var 57 [(i6 2),(.fn (.func 56) [] []),(.fn (.func 57) [] [])])]⟩
def zg_11_1_10 (ws xs : List Int) (k w : Int) : St := ⟨[(4,(.ptr 1 0 0 0)),(7,(.ptr 2 0 0 0)),(9,(i6 (wvF 11 ws k w))),(45,(i6 (wvF 11 ws k w))),(46,(i6 (wvF 11 ws k w))),(47,(dB (fitsF (wvF 11 ws k w))))],[(.var 61 [(LI ws),(LI xs),(i6 k),(i6 w)]),(.var 57 [(i6 0),(.v .nilf),(.v .nilf)]),(.var 57 [(i6 2),(.fn (.func 56) [] []),(.fn (.func 57) [] [])])]⟩
def zg_11_1_11 (ws xs : List Int) (k w : Int) : St := ⟨[(4,(.ptr 1 0 0 0)),(7,(.ptr 2 0 0 0)),(9,(i6 (wvF 11 ws k w))),(44,(.agg [(i6 2),(.fn (.func 56) [] []),(.fn (.func 57) [] [])])),(45,(i6 (wvF 11 ws k w))),(46,(i6 (wvF 11 ws k w))),(47,(dB (fitsF (wvF 11 ws k w))))],[(.var 61 [(LI ws),(LI xs),(i6 k),(i6 w)]),(.var 57 [(i6 0),(.v .nilf),(.v .nilf)]),(.var 57 [(i6 2),(.fn (.func 56) [] []),(.fn (.func 57) [] [])])]⟩
def zg_11_1_12 (ws xs : List Int) (k w : Int) : St := ⟨[(4,(.ptr 1 0 0 0)),(7,(.ptr 2 0 0 0)),(9,(i6 (wvF 11 ws k w))),(44,(.agg [(i6 2),(.fn (.func 56) [] []),(.fn (.func 57) [] [])])),(46,(i6 (wvF 11 ws k w))),(47,(dB (fitsF (wvF 11 ws k w))))],[(.var 61 [(LI ws),(LI xs),(i6 k),(i6 w)]),(.var 57 [(i6 2),(.fn (.func 56) [] []),(.fn (.func 57) [] [])]),(.var 57 [(i6 2),(.fn (.func 56) [] []),(.fn (.func 57) [] [])])]⟩
def zg_11_1_13 (ws xs : List Int) (k w : Int) : St := ⟨[(4,(.ptr 1 0 0 0)),(7,(.ptr 2 0 0 0)),(9,(i6 (wvF 11 ws k w))),(44,(.agg [(i6 2),(.fn (.func 56) [] []),(.fn (.func 57) [] [])])),(45,(i6 (wvF 11 ws k w))),(46,(i6 (wvF 11 ws k w))),(47,(dB (fitsF (wvF 11 ws k w))))],[(.var 61 [(LI ws),(LI xs),(i6 k),(i6 w)]),(.var 57 [(i6 2),(.fn (.func 56) [] []),(.fn (.func 57) [] [])]),(.var 57 [(i6 2),(.fn (.func 56) [] []),(.fn (.func 57) [] [])])]⟩
def zg_11_1_14 (ws xs : List Int) (k w : Int) : St := ⟨[(4,(.ptr 1 0 0 0)),(5,(i6 (wvF 11 ws k w))),(7,(.ptr 2 0 0 0)),(9,(i6 (wvF 11 ws k w))),(44,(.agg [(i6 2),(.fn (.func 56) [] []),(.fn (.func 57) [] [])])),(45,(i6 (wvF 11 ws k w))),(46,(i6 (wvF 11 ws k w))),(47,(dB (fitsF (wvF 11 ws k w))))],[(.var 61 [(LI ws),(LI xs),(i6 k),(i6 w)]),(.var 57 [(i6 2),(.fn (.func 56) [] []),(.fn (.func 57) [] [])]),(.var 57 [(i6 2),(.fn (.func 56) [] []),(.fn (.func 57) [] [])])]⟩
def zg_11_1_15 (ws xs : List Int) (k w : Int) : St := ⟨[(4,(.ptr 1 0 0 0)),(5,(i6 (wvF 11 ws k w))),(6,(dB true))],[(.var 61 [(LI ws),(LI xs),(i6 k),(i6 w)]),(.var 57 [(i6 2),(.fn (.func 56) [] []),(.fn (.func 57) [] [])]),(.var 57 [(i6 2),(.fn (.func 56) [] []),(.fn (.func 57) [] [])])]⟩
set_option maxRecDepth 100000 in
theorem width_good_11 (ws xs : List Int) (k w : Int) (hw : ws.length ≤ 9223372036854775807) (h : okF 11 ws k w = true) : CallOk Try.prog 27 [(i6 11),(.agg [(LI ws),(LI xs),(i6 k),(i6 w)])] [] true (.tup [(.agg [(i6 2),(.fn (.func 56) [] []),(.fn (.func 57) [] [])]),(i6 (wvF 11 ws k w)),(dB true)]) [] := by
  refine CallOk.of_ev Try.func27 rfl rfl rfl ?_
  rintro ⟨_,W,S0,_,susp,_⟩ rfl rfl rfl
  obtain ⟨h1,h2,h3⟩ := ok_yes h
  have hA : arityF 11 = 2 := by decide
  rw [hA] at h1
  refine Ev.seq ?_
  refine Ev.reg [] [0,3,4] (st' := ⟨[(0,(i6 11)),(3,(.ptr 0 0 0 0)),(4,(.ptr 1 0 0 0))],[(.var 61 [(LI ws),(LI xs),(i6 k),(i6 w)]),(.var 57 [(i6 0),(.v .nilf),(.v .nilf)])]⟩)
    (p := True∧True∧True∧True∧True) (by kernel_rfl)
    ⟨⟨⟩,⟨⟩,⟨⟩,⟨⟩,⟨⟩⟩ ?_
  refine Ev.seq ?_
  refine Ev.reg [(0,.call none false (.v (.mp simpleM))),(2,.idx none)] [0,3,4,7,8] (st' := ⟨[(0,(i6 11)),(3,(.ptr 0 0 0 0)),(4,(.ptr 1 0 0 0)),(7,(.ptr 2 0 0 0)),(8,(dB false))],[(.var 61 [(LI ws),(LI xs),(i6 k),(i6 w)]),(.var 57 [(i6 0),(.v .nilf),(.v .nilf)]),(.var 57 [(i6 0),(.v .nilf),(.v .nilf)])]⟩)
    (p := callOb Try.prog 33 [(.var 61 [(LI ws),(LI xs),(i6 k),(i6 w)]),(.var 57 [(i6 0),(.v .nilf),(.v .nilf)])] [] none false (.v (.mp simpleM))∧True∧(∀ e' ∈ simpleM,11 ≠ e'.1)∧True∧True∧True∧True∧True∧True∧True) (by kernel_rfl)
    ⟨simple_ok,⟨⟩,(by decide),⟨⟩,⟨⟩,⟨⟩,⟨⟩,⟨⟩,⟨⟩,⟨⟩⟩ ?_
  refine Ev.seq ?_
  refine Ev.seq ?_
  refine Ev.reg [] [0,3,4,7,8,17] (st' := ⟨[(0,(i6 11)),(3,(.ptr 0 0 0 0)),(4,(.ptr 1 0 0 0)),(7,(.ptr 2 0 0 0)),(8,(dB false)),(17,(dB true))],[(.var 61 [(LI ws),(LI xs),(i6 k),(i6 w)]),(.var 57 [(i6 0),(.v .nilf),(.v .nilf)]),(.var 57 [(i6 0),(.v .nilf),(.v .nilf)])]⟩)
    (p := True∧True∧True) (by kernel_rfl)
    ⟨⟨⟩,⟨⟩,⟨⟩⟩ ?_
  refine Ev.cond true rfl (fun _ => ?_) (fun h => (by cases h))
  refine Ev.reg [(0,.call none false (.v (.mp othersM))),(2,.idx (some 2))] [3,4,7,8] (st' := ⟨[(3,(.ptr 0 0 0 0)),(4,(.ptr 1 0 0 0)),(7,(.ptr 2 0 0 0)),(8,(dB true))],[(.var 61 [(LI ws),(LI xs),(i6 k),(i6 w)]),(.var 57 [(i6 0),(.v .nilf),(.v .nilf)]),(.var 57 [(i6 2),(.fn (.func 56) [] []),(.fn (.func 57) [] [])])]⟩)
    (p := callOb Try.prog 34 [(.var 61 [(LI ws),(LI xs),(i6 k),(i6 w)]),(.var 57 [(i6 0),(.v .nilf),(.v .nilf)]),(.var 57 [(i6 0),(.v .nilf),(.v .nilf)])] [] none false (.v (.mp othersM))∧True∧((11 : Int) = 11∧∀ e' ∈ othersM.take 2,(11 : Int) ≠ e'.1)∧True∧True∧True∧True∧True∧True) (by kernel_rfl)
    ⟨others_ok,⟨⟩,(by decide),⟨⟩,⟨⟩,⟨⟩,⟨⟩,⟨⟩,⟨⟩⟩ ?_
  refine Ev.seq ?_
  refine Ev.seq ?_
  refine Ev.reg [(8,.val (dB false)),(13,.call none false (dB (!(ws.all fitsF)))),(14,.val (dB false))] [3,4,7,38] (st' := ⟨[(3,(.ptr 0 0 0 0)),(4,(.ptr 1 0 0 0)),(7,(.ptr 2 0 0 0)),(38,(dB false))],[(.var 61 [(LI ws),(LI xs),(i6 k),(i6 w)]),(.var 57 [(i6 0),(.v .nilf),(.v .nilf)]),(.var 57 [(i6 2),(.fn (.func 56) [] []),(.fn (.func 57) [] [])])]⟩)
    (p := True∧True∧True∧True∧True∧True∧True∧True∧(True∧(((ws.length : Nat) : Int) != 2) = false)∧True∧True∧True∧True∧callOb Try.prog 35 [(.var 61 [(LI ws),(LI xs),(i6 k),(i6 w)]),(.var 57 [(i6 0),(.v .nilf),(.v .nilf)]),(.var 57 [(i6 2),(.fn (.func 56) [] []),(.fn (.func 57) [] [])])] [(LI ws),(.fn (.func 36) [] [])] none false (dB (!(ws.all fitsF)))∧(True∧(!(ws.all fitsF)) = false)∧True) (by kernel_rfl)
    ⟨⟨⟩,⟨⟩,⟨⟩,⟨⟩,⟨⟩,⟨⟩,⟨⟩,⟨⟩,⟨⟨⟩,(by rw [h1]; rfl)⟩,⟨⟩,⟨⟩,⟨⟩,⟨⟩,(contains_ok _ (by first | omega | (simp; first | done | omega))),⟨⟨⟩,(by rw [h2]; rfl)⟩,⟨⟩⟩ ?_
  refine Ev.cond false rfl (fun h => (by cases h)) (fun _ => ?_)
  refine Ev.skip ?_
  refine Ev.seq ?_
  refine Ev.reg [(3,.call none false (i6 (ws.getD 0 0 + ws.getD 1 0))),(4,.val (i6 (wvF 11 ws k w)))] [4,7,9] (st' := ⟨[(4,(.ptr 1 0 0 0)),(7,(.ptr 2 0 0 0)),(9,(i6 (wvF 11 ws k w)))],[(.var 61 [(LI ws),(LI xs),(i6 k),(i6 w)]),(.var 57 [(i6 0),(.v .nilf),(.v .nilf)]),(.var 57 [(i6 2),(.fn (.func 56) [] []),(.fn (.func 57) [] [])])]⟩)
    (p := True∧True∧True∧callOb Try.prog 56 [(.var 61 [(LI ws),(LI xs),(i6 k),(i6 w)]),(.var 57 [(i6 0),(.v .nilf),(.v .nilf)]),(.var 57 [(i6 2),(.fn (.func 56) [] []),(.fn (.func 57) [] [])])] [(.agg [(LI ws),(LI xs),(i6 k),(i6 w)])] none false (i6 (ws.getD 0 0 + ws.getD 1 0))∧(True∧(ws.getD 0 0 + ws.getD 1 0) = (wvF 11 ws k w))∧True) (by kernel_rfl)
    ⟨⟨⟩,⟨⟩,⟨⟩,(wcat_ok _ _ _ _ (by omega) (by assumption)),⟨⟨⟩,(by first | rfl | simp [wvF])⟩,⟨⟩⟩ ?_
  refine Ev.seq ?_
  refine Ev.any [(3,.call none false (dB (fitsF (wvF 11 ws k w)))),(6,.val (dB true))] [((bm 7 0),(zg_11_1_0 ws xs k w)),((bm 7 1),(zg_11_1_1 ws xs k w)),((bm 7 2),(zg_11_1_2 ws xs k w)),((bm 7 4),(zg_11_1_3 ws xs k w)),((bm 7 3),(zg_11_1_4 ws xs k w)),((bm 7 5),(zg_11_1_5 ws xs k w)),((bm 7 6),(zg_11_1_6 ws xs k w)),((bm 7 12),(zg_11_1_7 ws xs k w)),((bm 7 7),(zg_11_1_8 ws xs k w)),((bm 7 13),(zg_11_1_9 ws xs k w)),((bm 7 14),(zg_11_1_10 ws xs k w)),((bm 7 15),(zg_11_1_11 ws xs k w)),((bm 7 29),(zg_11_1_12 ws xs k w)),((bm 7 31),(zg_11_1_13 ws xs k w)),((bm 7 63),(zg_11_1_14 ws xs k w)),((bm 7 127),(zg_11_1_15 ws xs k w))] (st0 := (zg_11_1_0 ws xs k w)) (st' := ⟨[(4,(.ptr 1 0 0 0)),(5,(i6 (wvF 11 ws k w))),(6,(dB true))],[(.var 61 [(LI ws),(LI xs),(i6 k),(i6 w)]),(.var 57 [(i6 2),(.fn (.func 56) [] []),(.fn (.func 57) [] [])]),(.var 57 [(i6 2),(.fn (.func 56) [] []),(.fn (.func 57) [] [])])]⟩)
    (p := ((((zg_11_1_1 ws xs k w) : St) = (zg_11_1_1 ws xs k w)∧True∧True)∧(((zg_11_1_2 ws xs k w) : St) = (zg_11_1_2 ws xs k w)∧True∧True)∧(((zg_11_1_3 ws xs k w) : St) = (zg_11_1_3 ws xs k w)∧True∧True)∧True)∧((((zg_11_1_4 ws xs k w) : St) = (zg_11_1_4 ws xs k w)∧True∧True)∧(((zg_11_1_5 ws xs k w) : St) = (zg_11_1_5 ws xs k w)∧True∧True)∧True)∧((((zg_11_1_4 ws xs k w) : St) = (zg_11_1_4 ws xs k w)∧True∧True)∧(((zg_11_1_6 ws xs k w) : St) = (zg_11_1_6 ws xs k w)∧True∧True)∧True)∧((((zg_11_1_5 ws xs k w) : St) = (zg_11_1_5 ws xs k w)∧True∧True)∧(((zg_11_1_6 ws xs k w) : St) = (zg_11_1_6 ws xs k w)∧True∧True)∧(((zg_11_1_7 ws xs k w) : St) = (zg_11_1_7 ws xs k w)∧callOb Try.prog 37 [(.var 61 [(LI ws),(LI xs),(i6 k),(i6 w)]),(.var 57 [(i6 0),(.v .nilf),(.v .nilf)]),(.var 57 [(i6 2),(.fn (.func 56) [] []),(.fn (.func 57) [] [])])] [(i6 (wvF 11 ws k w))] none false (dB (fitsF (wvF 11 ws k w)))∧True)∧True)∧((((zg_11_1_8 ws xs k w) : St) = (zg_11_1_8 ws xs k w)∧True∧True)∧True)∧((((zg_11_1_8 ws xs k w) : St) = (zg_11_1_8 ws xs k w)∧True∧True)∧(((zg_11_1_9 ws xs k w) : St) = (zg_11_1_9 ws xs k w)∧callOb Try.prog 37 [(.var 61 [(LI ws),(LI xs),(i6 k),(i6 w)]),(.var 57 [(i6 0),(.v .nilf),(.v .nilf)]),(.var 57 [(i6 2),(.fn (.func 56) [] []),(.fn (.func 57) [] [])])] [(i6 (wvF 11 ws k w))] none false (dB (fitsF (wvF 11 ws k w)))∧True)∧True)∧((((zg_11_1_8 ws xs k w) : St) = (zg_11_1_8 ws xs k w)∧True∧True)∧(((zg_11_1_10 ws xs k w) : St) = (zg_11_1_10 ws xs k w)∧callOb Try.prog 37 [(.var 61 [(LI ws),(LI xs),(i6 k),(i6 w)]),(.var 57 [(i6 0),(.v .nilf),(.v .nilf)]),(.var 57 [(i6 2),(.fn (.func 56) [] []),(.fn (.func 57) [] [])])] [(i6 (wvF 11 ws k w))] none false (dB (fitsF (wvF 11 ws k w)))∧True)∧True)∧((((zg_11_1_9 ws xs k w) : St) = (zg_11_1_9 ws xs k w)∧True∧True)∧(((zg_11_1_10 ws xs k w) : St) = (zg_11_1_10 ws xs k w)∧True∧True)∧True)∧((((zg_11_1_11 ws xs k w) : St) = (zg_11_1_11 ws xs k w)∧callOb Try.prog 37 [(.var 61 [(LI ws),(LI xs),(i6 k),(i6 w)]),(.var 57 [(i6 0),(.v .nilf),(.v .nilf)]),(.var 57 [(i6 2),(.fn (.func 56) [] []),(.fn (.func 57) [] [])])] [(i6 (wvF 11 ws k w))] none false (dB (fitsF (wvF 11 ws k w)))∧True)∧True)∧((((zg_11_1_11 ws xs k w) : St) = (zg_11_1_11 ws xs k w)∧True∧True)∧(((zg_11_1_12 ws xs k w) : St) = (zg_11_1_12 ws xs k w)∧True∧True)∧True)∧((((zg_11_1_11 ws xs k w) : St) = (zg_11_1_11 ws xs k w)∧True∧True)∧True)∧((((zg_11_1_13 ws xs k w) : St) = (zg_11_1_13 ws xs k w)∧True∧True)∧True)∧((((zg_11_1_13 ws xs k w) : St) = (zg_11_1_13 ws xs k w)∧True∧True)∧True)∧((((zg_11_1_14 ws xs k w) : St) = (zg_11_1_14 ws xs k w)∧True∧True)∧True)∧((((zg_11_1_15 ws xs k w) : St) = (zg_11_1_15 ws xs k w)∧(True∧(fitsF (wvF 11 ws k w)) = true)∧True)∧True)∧True∧True) (by kernel_rfl) (by kernel_rfl) (by kernel_rfl) (by kernel_rfl) (by kernel_rfl) (by kernel_rfl)
    ⟨⟨⟨rfl,⟨⟩,⟨⟩⟩,⟨rfl,⟨⟩,⟨⟩⟩,⟨rfl,⟨⟩,⟨⟩⟩,⟨⟩⟩,⟨⟨rfl,⟨⟩,⟨⟩⟩,⟨rfl,⟨⟩,⟨⟩⟩,⟨⟩⟩,⟨⟨rfl,⟨⟩,⟨⟩⟩,⟨rfl,⟨⟩,⟨⟩⟩,⟨⟩⟩,⟨⟨rfl,⟨⟩,⟨⟩⟩,⟨rfl,⟨⟩,⟨⟩⟩,⟨rfl,(fits_ok _),⟨⟩⟩,⟨⟩⟩,⟨⟨rfl,⟨⟩,⟨⟩⟩,⟨⟩⟩,⟨⟨rfl,⟨⟩,⟨⟩⟩,⟨rfl,(fits_ok _),⟨⟩⟩,⟨⟩⟩,⟨⟨rfl,⟨⟩,⟨⟩⟩,⟨rfl,(fits_ok _),⟨⟩⟩,⟨⟩⟩,⟨⟨rfl,⟨⟩,⟨⟩⟩,⟨rfl,⟨⟩,⟨⟩⟩,⟨⟩⟩,⟨⟨rfl,(fits_ok _),⟨⟩⟩,⟨⟩⟩,⟨⟨rfl,⟨⟩,⟨⟩⟩,⟨rfl,⟨⟩,⟨⟩⟩,⟨⟩⟩,⟨⟨rfl,⟨⟩,⟨⟩⟩,⟨⟩⟩,⟨⟨rfl,⟨⟩,⟨⟩⟩,⟨⟩⟩,⟨⟨rfl,⟨⟩,⟨⟩⟩,⟨⟩⟩,⟨⟨rfl,⟨⟩,⟨⟩⟩,⟨⟩⟩,⟨⟨rfl,⟨⟨⟩,(by first | exact h3 | simpa [wvF] using h3)⟩,⟨⟩⟩,⟨⟩⟩,⟨⟩,⟨⟩⟩ ?_
  refine Ev.ret ?_
  refine ⟨⟨⟨⟩,⟨⟩,⟨⟩,⟨⟩⟩,(?_ : ((2 : Int) = 2∧((.fn (.func 56) [] []) : D) = (.fn (.func 56) [] [])∧((.fn (.func 57) [] []) : D) = (.fn (.func 57) [] [])∧True)∧(wvF 11 ws k w) = (wvF 11 ws k w)∧true = true∧True),.inl rfl⟩
  exact ⟨⟨rfl,rfl,rfl,⟨⟩⟩,rfl,rfl,⟨⟩⟩

set_option maxRecDepth 100000 in
theorem width_bad_11 (ws xs : List Int) (k w : Int) (hw : ws.length ≤ 9223372036854775807) (h : okB 11 ws = false) : CallOk Try.prog 27 [(i6 11),(.agg [(LI ws),(LI xs),(i6 k),(i6 w)])] [] true (.tup [(.agg [(i6 0),(.v .nilf),(.v .nilf)]),(i6 0),(dB false)]) [] := by
  refine CallOk.of_ev Try.func27 rfl rfl rfl ?_
  rintro ⟨_,W,S0,_,susp,_⟩ rfl rfl rfl
  refine Ev.seq ?_
  refine Ev.reg [] [0,3,4] (st' := ⟨[(0,(i6 11)),(3,(.ptr 0 0 0 0)),(4,(.ptr 1 0 0 0))],[(.var 61 [(LI ws),(LI xs),(i6 k),(i6 w)]),(.var 57 [(i6 0),(.v .nilf),(.v .nilf)])]⟩)
    (p := True∧True∧True∧True∧True) (by kernel_rfl)
    ⟨⟨⟩,⟨⟩,⟨⟩,⟨⟩,⟨⟩⟩ ?_
  refine Ev.seq ?_
  refine Ev.reg [(0,.call none false (.v (.mp simpleM))),(2,.idx none)] [0,3,4,7,8] (st' := ⟨[(0,(i6 11)),(3,(.ptr 0 0 0 0)),(4,(.ptr 1 0 0 0)),(7,(.ptr 2 0 0 0)),(8,(dB false))],[(.var 61 [(LI ws),(LI xs),(i6 k),(i6 w)]),(.var 57 [(i6 0),(.v .nilf),(.v .nilf)]),(.var 57 [(i6 0),(.v .nilf),(.v .nilf)])]⟩)
    (p := callOb Try.prog 33 [(.var 61 [(LI ws),(LI xs),(i6 k),(i6 w)]),(.var 57 [(i6 0),(.v .nilf),(.v .nilf)])] [] none false (.v (.mp simpleM))∧True∧(∀ e' ∈ simpleM,11 ≠ e'.1)∧True∧True∧True∧True∧True∧True∧True) (by kernel_rfl)
    ⟨simple_ok,⟨⟩,(by decide),⟨⟩,⟨⟩,⟨⟩,⟨⟩,⟨⟩,⟨⟩,⟨⟩⟩ ?_
  refine Ev.seq ?_
  refine Ev.seq ?_
  refine Ev.reg [] [0,3,4,7,8,17] (st' := ⟨[(0,(i6 11)),(3,(.ptr 0 0 0 0)),(4,(.ptr 1 0 0 0)),(7,(.ptr 2 0 0 0)),(8,(dB false)),(17,(dB true))],[(.var 61 [(LI ws),(LI xs),(i6 k),(i6 w)]),(.var 57 [(i6 0),(.v .nilf),(.v .nilf)]),(.var 57 [(i6 0),(.v .nilf),(.v .nilf)])]⟩)
    (p := True∧True∧True) (by kernel_rfl)
    ⟨⟨⟩,⟨⟩,⟨⟩⟩ ?_
  refine Ev.cond true rfl (fun _ => ?_) (fun h => (by cases h))
  refine Ev.reg [(0,.call none false (.v (.mp othersM))),(2,.idx (some 2))] [3,4,7,8] (st' := ⟨[(3,(.ptr 0 0 0 0)),(4,(.ptr 1 0 0 0)),(7,(.ptr 2 0 0 0)),(8,(dB true))],[(.var 61 [(LI ws),(LI xs),(i6 k),(i6 w)]),(.var 57 [(i6 0),(.v .nilf),(.v .nilf)]),(.var 57 [(i6 2),(.fn (.func 56) [] []),(.fn (.func 57) [] [])])]⟩)
    (p := callOb Try.prog 34 [(.var 61 [(LI ws),(LI xs),(i6 k),(i6 w)]),(.var 57 [(i6 0),(.v .nilf),(.v .nilf)]),(.var 57 [(i6 0),(.v .nilf),(.v .nilf)])] [] none false (.v (.mp othersM))∧True∧((11 : Int) = 11∧∀ e' ∈ othersM.take 2,(11 : Int) ≠ e'.1)∧True∧True∧True∧True∧True∧True) (by kernel_rfl)
    ⟨others_ok,⟨⟩,(by decide),⟨⟩,⟨⟩,⟨⟩,⟨⟩,⟨⟩,⟨⟩⟩ ?_
  refine Ev.seq ?_
  refine Ev.seq ?_
  rcases okB_no h with h1 | ⟨h1,h2⟩
  · skip
    have hA : arityF 11 = 2 := by decide
    rw [hA] at h1
    refine Ev.reg [(8,.val (dB true))] [3,4,7,38] (st' := ⟨[(3,(.ptr 0 0 0 0)),(4,(.ptr 1 0 0 0)),(7,(.ptr 2 0 0 0)),(38,(dB true))],[(.var 61 [(LI ws),(LI xs),(i6 k),(i6 w)]),(.var 57 [(i6 0),(.v .nilf),(.v .nilf)]),(.var 57 [(i6 2),(.fn (.func 56) [] []),(.fn (.func 57) [] [])])]⟩)
      (p := True∧True∧True∧True∧True∧True∧True∧True∧(True∧(((ws.length : Nat) : Int) != 2) = true)∧True∧True∧True∧True∧True∧True∧True) (by kernel_rfl)
      ⟨⟨⟩,⟨⟩,⟨⟩,⟨⟩,⟨⟩,⟨⟩,⟨⟩,⟨⟩,⟨⟨⟩,(by exact bne_iff_ne.2 (by omega))⟩,⟨⟩,⟨⟩,⟨⟩,⟨⟩,⟨⟩,⟨⟩,⟨⟩⟩ ?_
    refine Ev.cond true rfl (fun _ => ?_) (fun h => (by cases h))
    refine Ev.seq ?_
    refine Ev.reg [] [4,5,6] (st' := ⟨[(4,(.ptr 1 0 0 0)),(5,(i6 0)),(6,(dB false))],[(.var 61 [(LI ws),(LI xs),(i6 k),(i6 w)]),(.var 57 [(i6 0),(.v .nilf),(.v .nilf)]),(.var 57 [(i6 2),(.fn (.func 56) [] []),(.fn (.func 57) [] [])])]⟩)
      (p := True∧True∧True∧True∧True) (by kernel_rfl)
      ⟨⟨⟩,⟨⟩,⟨⟩,⟨⟩,⟨⟩⟩ ?_
    refine Ev.ret ?_
    refine ⟨⟨⟨⟩,⟨⟩,⟨⟩,⟨⟩⟩,(?_ : ((0 : Int) = 0∧True∧True∧True)∧(0 : Int) = 0∧false = false∧True),.inl rfl⟩
    exact ⟨⟨rfl,⟨⟩,⟨⟩,⟨⟩⟩,rfl,rfl,⟨⟩⟩
  · skip
    have hA : arityF 11 = 2 := by decide
    rw [hA] at h1
    refine Ev.reg [(8,.val (dB false)),(13,.call none false (dB (!(ws.all fitsF)))),(14,.val (dB true))] [3,4,7,38] (st' := ⟨[(3,(.ptr 0 0 0 0)),(4,(.ptr 1 0 0 0)),(7,(.ptr 2 0 0 0)),(38,(dB true))],[(.var 61 [(LI ws),(LI xs),(i6 k),(i6 w)]),(.var 57 [(i6 0),(.v .nilf),(.v .nilf)]),(.var 57 [(i6 2),(.fn (.func 56) [] []),(.fn (.func 57) [] [])])]⟩)
      (p := True∧True∧True∧True∧True∧True∧True∧True∧(True∧(((ws.length : Nat) : Int) != 2) = false)∧True∧True∧True∧True∧callOb Try.prog 35 [(.var 61 [(LI ws),(LI xs),(i6 k),(i6 w)]),(.var 57 [(i6 0),(.v .nilf),(.v .nilf)]),(.var 57 [(i6 2),(.fn (.func 56) [] []),(.fn (.func 57) [] [])])] [(LI ws),(.fn (.func 36) [] [])] none false (dB (!(ws.all fitsF)))∧(True∧(!(ws.all fitsF)) = true)∧True) (by kernel_rfl)
      ⟨⟨⟩,⟨⟩,⟨⟩,⟨⟩,⟨⟩,⟨⟩,⟨⟩,⟨⟩,⟨⟨⟩,(by rw [h1]; rfl)⟩,⟨⟩,⟨⟩,⟨⟩,⟨⟩,(contains_ok _ (by first | omega | (simp; first | done | omega))),⟨⟨⟩,(by rw [h2]; rfl)⟩,⟨⟩⟩ ?_
    refine Ev.cond true rfl (fun _ => ?_) (fun h => (by cases h))
    refine Ev.seq ?_
    refine Ev.reg [] [4,5,6] (st' := ⟨[(4,(.ptr 1 0 0 0)),(5,(i6 0)),(6,(dB false))],[(.var 61 [(LI ws),(LI xs),(i6 k),(i6 w)]),(.var 57 [(i6 0),(.v .nilf),(.v .nilf)]),(.var 57 [(i6 2),(.fn (.func 56) [] []),(.fn (.func 57) [] [])])]⟩)
      (p := True∧True∧True∧True∧True) (by kernel_rfl)
      ⟨⟨⟩,⟨⟩,⟨⟩,⟨⟩,⟨⟩⟩ ?_
    refine Ev.ret ?_
    refine ⟨⟨⟨⟩,⟨⟩,⟨⟩,⟨⟩⟩,(?_ : ((0 : Int) = 0∧True∧True∧True)∧(0 : Int) = 0∧false = false∧True),.inl rfl⟩
    exact ⟨⟨rfl,⟨⟩,⟨⟩,⟨⟩⟩,rfl,rfl,⟨⟩⟩

def zwv_11_1_0 (ws xs : List Int) (k w : Int) : St := ⟨[(4,(.ptr 1 0 0 0)),(7,(.ptr 2 0 0 0)),(9,(i6 (wvF 11 ws k w)))],[(.var 61 [(LI ws),(LI xs),(i6 k),(i6 w)]),(.var 57 [(i6 0),(.v .nilf),(.v .nilf)]),(.var 57 [(i6 2),(.fn (.func 56) [] []),(.fn (.func 57) [] [])])]⟩
def zwv_11_1_1 (ws xs : List Int) (k w : Int) : St := ⟨[(4,(.ptr 1 0 0 0)),(7,(.ptr 2 0 0 0)),(9,(i6 (wvF 11 ws k w))),(44,(.agg [(i6 2),(.fn (.func 56) [] []),(.fn (.func 57) [] [])]))],[(.var 61 [(LI ws),(LI xs),(i6 k),(i6 w)]),(.var 57 [(i6 0),(.v .nilf),(.v .nilf)]),(.var 57 [(i6 2),(.fn (.func 56) [] []),(.fn (.func 57) [] [])])]⟩
def zwv_11_1_2 (ws xs : List Int) (k w : Int) : St := ⟨[(4,(.ptr 1 0 0 0)),(7,(.ptr 2 0 0 0)),(9,(i6 (wvF 11 ws k w))),(45,(i6 (wvF 11 ws k w)))],[(.var 61 [(LI ws),(LI xs),(i6 k),(i6 w)]),(.var 57 [(i6 0),(.v .nilf),(.v .nilf)]),(.var 57 [(i6 2),(.fn (.func 56) [] []),(.fn (.func 57) [] [])])]⟩
def zwv_11_1_3 (ws xs : List Int) (k w : Int) : St := ⟨[(4,(.ptr 1 0 0 0)),(7,(.ptr 2 0 0 0)),(9,(i6 (wvF 11 ws k w))),(46,(i6 (wvF 11 ws k w)))],[(.var 61 [(LI ws),(LI xs),(i6 k),(i6 w)]),(.var 57 [(i6 0),(.v .nilf),(.v .nilf)]),(.var 57 [(i6 2),(.fn (.func 56) [] []),(.fn (.func 57) [] [])])]⟩
def zwv_11_1_4 (ws xs : List Int) (k w : Int) : St := ⟨[(4,(.ptr 1 0 0 0)),(7,(.ptr 2 0 0 0)),(9,(i6 (wvF 11 ws k w))),(44,(.agg [(i6 2),(.fn (.func 56) [] []),(.fn (.func 57) [] [])])),(45,(i6 (wvF 11 ws k w)))],[(.var 61 [(LI ws),(LI xs),(i6 k),(i6 w)]),(.var 57 [(i6 0),(.v .nilf),(.v .nilf)]),(.var 57 [(i6 2),(.fn (.func 56) [] []),(.fn (.func 57) [] [])])]⟩
def zwv_11_1_5 (ws xs : List Int) (k w : Int) : St := ⟨[(4,(.ptr 1 0 0 0)),(7,(.ptr 2 0 0 0)),(9,(i6 (wvF 11 ws k w))),(44,(.agg [(i6 2),(.fn (.func 56) [] []),(.fn (.func 57) [] [])])),(46,(i6 (wvF 11 ws k w)))],[(.var 61 [(LI ws),(LI xs),(i6 k),(i6 w)]),(.var 57 [(i6 0),(.v .nilf),(.v .nilf)]),(.var 57 [(i6 2),(.fn (.func 56) [] []),(.fn (.func 57) [] [])])]⟩
def zwv_11_1_6 (ws xs : List Int) (k w : Int) : St := ⟨[(4,(.ptr 1 0 0 0)),(7,(.ptr 2 0 0 0)),(9,(i6 (wvF 11 ws k w))),(45,(i6 (wvF 11 ws k w))),(46,(i6 (wvF 11 ws k w)))],[(.var 61 [(LI ws),(LI xs),(i6 k),(i6 w)]),(.var 57 [(i6 0),(.v .nilf),(.v .nilf)]),(.var 57 [(i6 2),(.fn (.func 56) [] []),(.fn (.func 57) [] [])])]⟩
def zwv_11_1_7 (ws xs : List Int) (k w : Int) : St := ⟨[(4,(.ptr 1 0 0 0)),(7,(.ptr 2 0 0 0)),(9,(i6 (wvF 11 ws k w))),(46,(i6 (wvF 11 ws k w))),(47,(dB (fitsF (wvF 11 ws k w))))],[(.var 61 [(LI ws),(LI xs),(i6 k),(i6 w)]),(.var 57 [(i6 0),(.v .nilf),(.v .nilf)]),(.var 57 [(i6 2),(.fn (.func 56) [] []),(.fn (.func 57) [] [])])]⟩
def zwv_11_1_8 (ws xs : List Int) (k w : Int) : St := ⟨[(4,(.ptr 1 0 0 0)),(7,(.ptr 2 0 0 0)),(9,(i6 (wvF 11 ws k w))),(44,(.agg [(i6 2),(.fn (.func 56) [] []),(.fn (.func 57) [] [])])),(45,(i6 (wvF 11 ws k w))),(46,(i6 (wvF 11 ws k w)))],[(.var 61 [(LI ws),(LI xs),(i6 k),(i6 w)]),(.var 57 [(i6 0),(.v .nilf),(.v .nilf)]),(.var 57 [(i6 2),(.fn (.func 56) [] []),(.fn (.func 57) [] [])])]⟩
def zwv_11_1_9 (ws xs : List Int) (k w : Int) : St := ⟨[(4,(.ptr 1 0 0 0)),(7,(.ptr 2 0 0 0)),(9,(i6 (wvF 11 ws k w))),(44,(.agg [(i6 2),(.fn (.func 56) [] []),(.fn (.func 57) [] [])])),(46,(i6 (wvF 11 ws k w))),(47,(dB (fitsF (wvF 11 ws k w))))],[(.var 61 [(LI ws),(LI xs),(i6 k),(i6 w)]),(.var 57 [(i6 0),(.v .nilf),(.v .nilf)]),(.var 57 [(i6 2),(.fn (.func 56) [] []),(.fn (.func 57) [] [])])]⟩
def zwv_11_1_10 (ws xs : List Int) (k w : Int) : St := ⟨[(4,(.ptr 1 0 0 0)),(7,(.ptr 2 0 0 0)),(9,(i6 (wvF 11 ws k w))),(45,(i6 (wvF 11 ws k w))),(46,(i6 (wvF 11 ws k w))),(47,(dB (fitsF (wvF 11 ws k w))))],[(.var 61 [(LI ws),(LI xs),(i6 k),(i6 w)]),(.var 57 [(i6 0),(.v .nilf),(.v .nilf)]),(.var 57 [(i6 2),(.fn (.func 56) [] []),(.fn (.func 57) [] [])])]⟩
def zwv_11_1_11 (ws xs : List Int) (k w : Int) : St := ⟨[(4,(.ptr 1 0 0 0)),(7,(.ptr 2 0 0 0)),(9,(i6 (wvF 11 ws k w))),(44,(.agg [(i6 2),(.fn (.func 56) [] []),(.fn (.func 57) [] [])])),(45,(i6 (wvF 11 ws k w))),(46,(i6 (wvF 11 ws k w))),(47,(dB (fitsF (wvF 11 ws k w))))],[(.var 61 [(LI ws),(LI xs),(i6 k),(i6 w)]),(.var 57 [(i6 0),(.v .nilf),(.v .nilf)]),(.var 57 [(i6 2),(.fn (.func 56) [] []),(.fn (.func 57) [] [])])]⟩
def zwv_11_1_12 (ws xs : List Int) (k w : Int) : St := ⟨[(4,(.ptr 1 0 0 0)),(7,(.ptr 2 0 0 0)),(9,(i6 (wvF 11 ws k w))),(44,(.agg [(i6 2),(.fn (.func 56) [] []),(.fn (.func 57) [] [])])),(46,(i6 (wvF 11 ws k w))),(47,(dB (fitsF (wvF 11 ws k w))))],[(.var 61 [(LI ws),(LI xs),(i6 k),(i6 w)]),(.var 57 [(i6 2),(.fn (.func 56) [] []),(.fn (.func 57) [] [])]),(.var 57 [(i6 2),(.fn (.func 56) [] []),(.fn (.func 57) [] [])])]⟩
def zwv_11_1_13 (ws xs : List Int) (k w : Int) : St := ⟨[(4,(.ptr 1 0 0 0)),(7,(.ptr 2 0 0 0)),(9,(i6 (wvF 11 ws k w))),(44,(.agg [(i6 2),(.fn (.func 56) [] []),(.fn (.func 57) [] [])])),(45,(i6 (wvF 11 ws k w))),(46,(i6 (wvF 11 ws k w))),(47,(dB (fitsF (wvF 11 ws k w))))],[(.var 61 [(LI ws),(LI xs),(i6 k),(i6 w)]),(.var 57 [(i6 2),(.fn (.func 56) [] []),(.fn (.func 57) [] [])]),(.var 57 [(i6 2),(.fn (.func 56) [] []),(.fn (.func 57) [] [])])]⟩
def zwv_11_1_14 (ws xs : List Int) (k w : Int) : St := ⟨[(4,(.ptr 1 0 0 0)),(5,(i6 (wvF 11 ws k w))),(7,(.ptr 2 0 0 0)),(9,(i6 (wvF 11 ws k w))),(44,(.agg [(i6 2),(.fn (.func 56) [] []),(.fn (.func 57) [] [])])),(45,(i6 (wvF 11 ws k w))),(46,(i6 (wvF 11 ws k w))),(47,(dB (fitsF (wvF 11 ws k w))))],[(.var 61 [(LI ws),(LI xs),(i6 k),(i6 w)]),(.var 57 [(i6 2),(.fn (.func 56) [] []),(.fn (.func 57) [] [])]),(.var 57 [(i6 2),(.fn (.func 56) [] []),(.fn (.func 57) [] [])])]⟩
def zwv_11_1_15 (ws xs : List Int) (k w : Int) : St := ⟨[(4,(.ptr 1 0 0 0)),(5,(i6 (wvF 11 ws k w))),(6,(dB false))],[(.var 61 [(LI ws),(LI xs),(i6 k),(i6 w)]),(.var 57 [(i6 2),(.fn (.func 56) [] []),(.fn (.func 57) [] [])]),(.var 57 [(i6 2),(.fn (.func 56) [] []),(.fn (.func 57) [] [])])]⟩
set_option maxRecDepth 100000 in
theorem width_wv_11 (ws xs : List Int) (k w : Int) (hw : ws.length ≤ 9223372036854775807) (h : okB 11 ws = true) (h3 : fitsF (wvF 11 ws k w) = false) : CallOk Try.prog 27 [(i6 11),(.agg [(LI ws),(LI xs),(i6 k),(i6 w)])] [] true (.tup [(.agg [(i6 2),(.fn (.func 56) [] []),(.fn (.func 57) [] [])]),(i6 (wvF 11 ws k w)),(dB false)]) [] := by
  refine CallOk.of_ev Try.func27 rfl rfl rfl ?_
  rintro ⟨_,W,S0,_,susp,_⟩ rfl rfl rfl
  obtain ⟨h1,h2⟩ := okB_yes h
  have hA : arityF 11 = 2 := by decide
  rw [hA] at h1
  refine Ev.seq ?_
  refine Ev.reg [] [0,3,4] (st' := ⟨[(0,(i6 11)),(3,(.ptr 0 0 0 0)),(4,(.ptr 1 0 0 0))],[(.var 61 [(LI ws),(LI xs),(i6 k),(i6 w)]),(.var 57 [(i6 0),(.v .nilf),(.v .nilf)])]⟩)
    (p := True∧True∧True∧True∧True) (by kernel_rfl)
    ⟨⟨⟩,⟨⟩,⟨⟩,⟨⟩,⟨⟩⟩ ?_
  refine Ev.seq ?_
  refine Ev.reg [(0,.call none false (.v (.mp simpleM))),(2,.idx none)] [0,3,4,7,8] (st' := ⟨[(0,(i6 11)),(3,(.ptr 0 0 0 0)),(4,(.ptr 1 0 0 0)),(7,(.ptr 2 0 0 0)),(8,(dB false))],[(.var 61 [(LI ws),(LI xs),(i6 k),(i6 w)]),(.var 57 [(i6 0),(.v .nilf),(.v .nilf)]),(.var 57 [(i6 0),(.v .nilf),(.v .nilf)])]⟩)
    (p := callOb Try.prog 33 [(.var 61 [(LI ws),(LI xs),(i6 k),(i6 w)]),(.var 57 [(i6 0),(.v .nilf),(.v .nilf)])] [] none false (.v (.mp simpleM))∧True∧(∀ e' ∈ simpleM,11 ≠ e'.1)∧True∧True∧True∧True∧True∧True∧True) (by kernel_rfl)
    ⟨simple_ok,⟨⟩,(by decide),⟨⟩,⟨⟩,⟨⟩,⟨⟩,⟨⟩,⟨⟩,⟨⟩⟩ ?_
  refine Ev.seq ?_
  refine Ev.seq ?_
  refine Ev.reg [] [0,3,4,7,8,17] (st' := ⟨[(0,(i6 11)),(3,(.ptr 0 0 0 0)),(4,(.ptr 1 0 0 0)),(7,(.ptr 2 0 0 0)),(8,(dB false)),(17,(dB true))],[(.var 61 [(LI ws),(LI xs),(i6 k),(i6 w)]),(.var 57 [(i6 0),(.v .nilf),(.v .nilf)]),(.var 57 [(i6 0),(.v .nilf),(.v .nilf)])]⟩)
    (p := True∧True∧True) (by kernel_rfl)
    ⟨⟨⟩,⟨⟩,⟨⟩⟩ ?_
  refine Ev.cond true rfl (fun _ => ?_) (fun h => (by cases h))
  refine Ev.reg [(0,.call none false (.v (.mp othersM))),(2,.idx (some 2))] [3,4,7,8] (st' := ⟨[(3,(.ptr 0 0 0 0)),(4,(.ptr 1 0 0 0)),(7,(.ptr 2 0 0 0)),(8,(dB true))],[(.var 61 [(LI ws),(LI xs),(i6 k),(i6 w)]),(.var 57 [(i6 0),(.v .nilf),(.v .nilf)]),(.var 57 [(i6 2),(.fn (.func 56) [] []),(.fn (.func 57) [] [])])]⟩)
    (p := callOb Try.prog 34 [(.var 61 [(LI ws),(LI xs),(i6 k),(i6 w)]),(.var 57 [(i6 0),(.v .nilf),(.v .nilf)]),(.var 57 [(i6 0),(.v .nilf),(.v .nilf)])] [] none false (.v (.mp othersM))∧True∧((11 : Int) = 11∧∀ e' ∈ othersM.take 2,(11 : Int) ≠ e'.1)∧True∧True∧True∧True∧True∧True) (by kernel_rfl)
    ⟨others_ok,⟨⟩,(by decide),⟨⟩,⟨⟩,⟨⟩,⟨⟩,⟨⟩,⟨⟩⟩ ?_
  refine Ev.seq ?_
  refine Ev.seq ?_
  refine Ev.reg [(8,.val (dB false)),(13,.call none false (dB (!(ws.all fitsF)))),(14,.val (dB false))] [3,4,7,38] (st' := ⟨[(3,(.ptr 0 0 0 0)),(4,(.ptr 1 0 0 0)),(7,(.ptr 2 0 0 0)),(38,(dB false))],[(.var 61 [(LI ws),(LI xs),(i6 k),(i6 w)]),(.var 57 [(i6 0),(.v .nilf),(.v .nilf)]),(.var 57 [(i6 2),(.fn (.func 56) [] []),(.fn (.func 57) [] [])])]⟩)
    (p := True∧True∧True∧True∧True∧True∧True∧True∧(True∧(((ws.length : Nat) : Int) != 2) = false)∧True∧True∧True∧True∧callOb Try.prog 35 [(.var 61 [(LI ws),(LI xs),(i6 k),(i6 w)]),(.var 57 [(i6 0),(.v .nilf),(.v .nilf)]),(.var 57 [(i6 2),(.fn (.func 56) [] []),(.fn (.func 57) [] [])])] [(LI ws),(.fn (.func 36) [] [])] none false (dB (!(ws.all fitsF)))∧(True∧(!(ws.all fitsF)) = false)∧True) (by kernel_rfl)
    ⟨⟨⟩,⟨⟩,⟨⟩,⟨⟩,⟨⟩,⟨⟩,⟨⟩,⟨⟩,⟨⟨⟩,(by rw [h1]; rfl)⟩,⟨⟩,⟨⟩,⟨⟩,⟨⟩,(contains_ok _ (by first | omega | (simp; first | done | omega))),⟨⟨⟩,(by rw [h2]; rfl)⟩,⟨⟩⟩ ?_
  refine Ev.cond false rfl (fun h => (by cases h)) (fun _ => ?_)
  refine Ev.skip ?_
  refine Ev.seq ?_
  refine Ev.reg [(3,.call none false (i6 (ws.getD 0 0 + ws.getD 1 0))),(4,.val (i6 (wvF 11 ws k w)))] [4,7,9] (st' := ⟨[(4,(.ptr 1 0 0 0)),(7,(.ptr 2 0 0 0)),(9,(i6 (wvF 11 ws k w)))],[(.var 61 [(LI ws),(LI xs),(i6 k),(i6 w)]),(.var 57 [(i6 0),(.v .nilf),(.v .nilf)]),(.var 57 [(i6 2),(.fn (.func 56) [] []),(.fn (.func 57) [] [])])]⟩)
    (p := True∧True∧True∧callOb Try.prog 56 [(.var 61 [(LI ws),(LI xs),(i6 k),(i6 w)]),(.var 57 [(i6 0),(.v .nilf),(.v .nilf)]),(.var 57 [(i6 2),(.fn (.func 56) [] []),(.fn (.func 57) [] [])])] [(.agg [(LI ws),(LI xs),(i6 k),(i6 w)])] none false (i6 (ws.getD 0 0 + ws.getD 1 0))∧(True∧(ws.getD 0 0 + ws.getD 1 0) = (wvF 11 ws k w))∧True) (by kernel_rfl)
    ⟨⟨⟩,⟨⟩,⟨⟩,(wcat_ok _ _ _ _ (by omega) (by assumption)),⟨⟨⟩,(by first | rfl | simp [wvF])⟩,⟨⟩⟩ ?_
  refine Ev.seq ?_
  refine Ev.any [(3,.call none false (dB (fitsF (wvF 11 ws k w)))),(6,.val (dB false))] [((bm 7 0),(zwv_11_1_0 ws xs k w)),((bm 7 1),(zwv_11_1_1 ws xs k w)),((bm 7 2),(zwv_11_1_2 ws xs k w)),((bm 7 4),(zwv_11_1_3 ws xs k w)),((bm 7 3),(zwv_11_1_4 ws xs k w)),((bm 7 5),(zwv_11_1_5 ws xs k w)),((bm 7 6),(zwv_11_1_6 ws xs k w)),((bm 7 12),(zwv_11_1_7 ws xs k w)),((bm 7 7),(zwv_11_1_8 ws xs k w)),((bm 7 13),(zwv_11_1_9 ws xs k w)),((bm 7 14),(zwv_11_1_10 ws xs k w)),((bm 7 15),(zwv_11_1_11 ws xs k w)),((bm 7 29),(zwv_11_1_12 ws xs k w)),((bm 7 31),(zwv_11_1_13 ws xs k w)),((bm 7 63),(zwv_11_1_14 ws xs k w)),((bm 7 127),(zwv_11_1_15 ws xs k w))] (st0 := (zwv_11_1_0 ws xs k w)) (st' := ⟨[(4,(.ptr 1 0 0 0)),(5,(i6 (wvF 11 ws k w))),(6,(dB false))],[(.var 61 [(LI ws),(LI xs),(i6 k),(i6 w)]),(.var 57 [(i6 2),(.fn (.func 56) [] []),(.fn (.func 57) [] [])]),(.var 57 [(i6 2),(.fn (.func 56) [] []),(.fn (.func 57) [] [])])]⟩)
    (p := ((((zwv_11_1_1 ws xs k w) : St) = (zwv_11_1_1 ws xs k w)∧True∧True)∧(((zwv_11_1_2 ws xs k w) : St) = (zwv_11_1_2 ws xs k w)∧True∧True)∧(((zwv_11_1_3 ws xs k w) : St) = (zwv_11_1_3 ws xs k w)∧True∧True)∧True)∧((((zwv_11_1_4 ws xs k w) : St) = (zwv_11_1_4 ws xs k w)∧True∧True)∧(((zwv_11_1_5 ws xs k w) : St) = (zwv_11_1_5 ws xs k w)∧True∧True)∧True)∧((((zwv_11_1_4 ws xs k w) : St) = (zwv_11_1_4 ws xs k w)∧True∧True)∧(((zwv_11_1_6 ws xs k w) : St) = (zwv_11_1_6 ws xs k w)∧True∧True)∧True)∧((((zwv_11_1_5 ws xs k w) : St) = (zwv_11_1_5 ws xs k w)∧True∧True)∧(((zwv_11_1_6 ws xs k w) : St) = (zwv_11_1_6 ws xs k w)∧True∧True)∧(((zwv_11_1_7 ws xs k w) : St) = (zwv_11_1_7 ws xs k w)∧callOb Try.prog 37 [(.var 61 [(LI ws),(LI xs),(i6 k),(i6 w)]),(.var 57 [(i6 0),(.v .nilf),(.v .nilf)]),(.var 57 [(i6 2),(.fn (.func 56) [] []),(.fn (.func 57) [] [])])] [(i6 (wvF 11 ws k w))] none false (dB (fitsF (wvF 11 ws k w)))∧True)∧True)∧((((zwv_11_1_8 ws xs k w) : St) = (zwv_11_1_8 ws xs k w)∧True∧True)∧True)∧((((zwv_11_1_8 ws xs k w) : St) = (zwv_11_1_8 ws xs k w)∧True∧True)∧(((zwv_11_1_9 ws xs k w) : St) = (zwv_11_1_9 ws xs k w)∧callOb Try.prog 37 [(.var 61 [(LI ws),(LI xs),(i6 k),(i6 w)]),(.var 57 [(i6 0),(.v .nilf),(.v .nilf)]),(.var 57 [(i6 2),(.fn (.func 56) [] []),(.fn (.func 57) [] [])])] [(i6 (wvF 11 ws k w))] none false (dB (fitsF (wvF 11 ws k w)))∧True)∧True)∧((((zwv_11_1_8 ws xs k w) : St) = (zwv_11_1_8 ws xs k w)∧True∧True)∧(((zwv_11_1_10 ws xs k w) : St) = (zwv_11_1_10 ws xs k w)∧callOb Try.prog 37 [(.var 61 [(LI ws),(LI xs),(i6 k),(i6 w)]),(.var 57 [(i6 0),(.v .nilf),(.v .nilf)]),(.var 57 [(i6 2),(.fn (.func 56) [] []),(.fn (.func 57) [] [])])] [(i6 (wvF 11 ws k w))] none false (dB (fitsF (wvF 11 ws k w)))∧True)∧True)∧((((zwv_11_1_9 ws xs k w) : St) = (zwv_11_1_9 ws xs k w)∧True∧True)∧(((zwv_11_1_10 ws xs k w) : St) = (zwv_11_1_10 ws xs k w)∧True∧True)∧True)∧((((zwv_11_1_11 ws xs k w) : St) = (zwv_11_1_11 ws xs k w)∧callOb Try.prog 37 [(.var 61 [(LI ws),(LI xs),(i6 k),(i6 w)]),(.var 57 [(i6 0),(.v .nilf),(.v .nilf)]),(.var 57 [(i6 2),(.fn (.func 56) [] []),(.fn (.func 57) [] [])])] [(i6 (wvF 11 ws k w))] none false (dB (fitsF (wvF 11 ws k w)))∧True)∧True)∧((((zwv_11_1_11 ws xs k w) : St) = (zwv_11_1_11 ws xs k w)∧True∧True)∧(((zwv_11_1_12 ws xs k w) : St) = (zwv_11_1_12 ws xs k w)∧True∧True)∧True)∧((((zwv_11_1_11 ws xs k w) : St) = (zwv_11_1_11 ws xs k w)∧True∧True)∧True)∧((((zwv_11_1_13 ws xs k w) : St) = (zwv_11_1_13 ws xs k w)∧True∧True)∧True)∧((((zwv_11_1_13 ws xs k w) : St) = (zwv_11_1_13 ws xs k w)∧True∧True)∧True)∧((((zwv_11_1_14 ws xs k w) : St) = (zwv_11_1_14 ws xs k w)∧True∧True)∧True)∧((((zwv_11_1_15 ws xs k w) : St) = (zwv_11_1_15 ws xs k w)∧(True∧(fitsF (wvF 11 ws k w)) = false)∧True)∧True)∧True∧True) (by kernel_rfl) (by kernel_rfl) (by kernel_rfl) (by kernel_rfl) (by kernel_rfl) (by kernel_rfl)
    ⟨⟨⟨rfl,⟨⟩,⟨⟩⟩,⟨rfl,⟨⟩,⟨⟩⟩,⟨rfl,⟨⟩,⟨⟩⟩,⟨⟩⟩,⟨⟨rfl,⟨⟩,⟨⟩⟩,⟨rfl,⟨⟩,⟨⟩⟩,⟨⟩⟩,⟨⟨rfl,⟨⟩,⟨⟩⟩,⟨rfl,⟨⟩,⟨⟩⟩,⟨⟩⟩,⟨⟨rfl,⟨⟩,⟨⟩⟩,⟨rfl,⟨⟩,⟨⟩⟩,⟨rfl,(fits_ok _),⟨⟩⟩,⟨⟩⟩,⟨⟨rfl,⟨⟩,⟨⟩⟩,⟨⟩⟩,⟨⟨rfl,⟨⟩,⟨⟩⟩,⟨rfl,(fits_ok _),⟨⟩⟩,⟨⟩⟩,⟨⟨rfl,⟨⟩,⟨⟩⟩,⟨rfl,(fits_ok _),⟨⟩⟩,⟨⟩⟩,⟨⟨rfl,⟨⟩,⟨⟩⟩,⟨rfl,⟨⟩,⟨⟩⟩,⟨⟩⟩,⟨⟨rfl,(fits_ok _),⟨⟩⟩,⟨⟩⟩,⟨⟨rfl,⟨⟩,⟨⟩⟩,⟨rfl,⟨⟩,⟨⟩⟩,⟨⟩⟩,⟨⟨rfl,⟨⟩,⟨⟩⟩,⟨⟩⟩,⟨⟨rfl,⟨⟩,⟨⟩⟩,⟨⟩⟩,⟨⟨rfl,⟨⟩,⟨⟩⟩,⟨⟩⟩,⟨⟨rfl,⟨⟩,⟨⟩⟩,⟨⟩⟩,⟨⟨rfl,⟨⟨⟩,(by first | exact h3 | simpa [wvF] using h3)⟩,⟨⟩⟩,⟨⟩⟩,⟨⟩,⟨⟩⟩ ?_
  refine Ev.ret ?_
  refine ⟨⟨⟨⟩,⟨⟩,⟨⟩,⟨⟩⟩,(?_ : ((2 : Int) = 2∧((.fn (.func 56) [] []) : D) = (.fn (.func 56) [] [])∧((.fn (.func 57) [] []) : D) = (.fn (.func 57) [] [])∧True)∧(wvF 11 ws k w) = (wvF 11 ws k w)∧false = false∧True),.inl rfl⟩
  exact ⟨⟨rfl,rfl,rfl,⟨⟩⟩,rfl,rfl,⟨⟩⟩

def zg_12_1_0 (ws xs : List Int) (k w : Int) : St := ⟨[(4,(.ptr 1 0 0 0)),(7,(.ptr 2 0 0 0)),(9,(i6 (wvF 12 ws k w)))],[(.var 61 [(LI ws),(LI xs),(i6 k),(i6 w)]),(.var 57 [(i6 0),(.v .nilf),(.v .nilf)]),(.var 57 [(i6 1),(.fn (.func 58) [] []),(.fn (.func 59) [] [])])]⟩
def zg_12_1_1 (ws xs : List Int) (k w : Int) : St := ⟨[(4,(.ptr 1 0 0 0)),(7,(.ptr 2 0 0 0)),(9,(i6 (wvF 12 ws k w))),(44,(.agg [(i6 1),(.fn (.func 58) [] []),(.fn (.func 59) [] [])]))],[(.var 61 [(LI ws),(LI xs),(i6 k),(i6 w)]),(.var 57 [(i6 0),(.v .nilf),(.v .nilf)]),(.var 57 [(i6 1),(.fn (.func 58) [] []),(.fn (.func 59) [] [])])]⟩
def zg_12_1_2 (ws xs : List Int) (k w : Int) : St := ⟨[(4,(.ptr 1 0 0 0)),(7,(.ptr 2 0 0 0)),(9,(i6 (wvF 12 ws k w))),(45,(i6 (wvF 12 ws k w)))],[(.var 61 [(LI ws),(LI xs),(i6 k),(i6 w)]),(.var 57 [(i6 0),(.v .nilf),(.v .nilf)]),(.var 57 [(i6 1),(.fn (.func 58) [] []),(.fn (.func 59) [] [])])]⟩
def zg_12_1_3 (ws xs : List Int) (k w : Int) : St := ⟨[(4,(.ptr 1 0 0 0)),(7,(.ptr 2 0 0 0)),(9,(i6 (wvF 12 ws k w))),(46,(i6 (wvF 12 ws k w)))],[(.var 61 [(LI ws),(LI xs),(i6 k),(i6 w)]),(.var 57 [(i6 0),(.v .nilf),(.v .nilf)]),(.var 57 [(i6 1),(.fn (.func 58) [] []),(.fn (.func 59) [] [])])]⟩
def zg_12_1_4 (ws xs : List Int) (k w : Int) : St := ⟨[(4,(.ptr 1 0 0 0)),(7,(.ptr 2 0 0 0)),(9,(i6 (wvF 12 ws k w))),(44,(.agg [(i6 1),(.fn (.func 58) [] []),(.fn (.func 59) [] [])])),(45,(i6 (wvF 12 ws k w)))],[(.var 61 [(LI ws),(LI xs),(i6 k),(i6 w)]),(.var 57 [(i6 0),(.v .nilf),(.v .nilf)]),(.var 57 [(i6 1),(.fn (.func 58) [] []),(.fn (.func 59) [] [])])]⟩
def zg_12_1_5 (ws xs : List Int) (k w : Int) : St := ⟨[(4,(.ptr 1 0 0 0)),(7,(.ptr 2 0 0 0)),(9,(i6 (wvF 12 ws k w))),(44,(.agg [(i6 1),(.fn (.func 58) [] []),(.fn (.func 59) [] [])])),(46,(i6 (wvF 12 ws k w)))],[(.var 61 [(LI ws),(LI xs),(i6 k),(i6 w)]),(.var 57 [(i6 0),(.v .nilf),(.v .nilf)]),(.var 57 [(i6 1),(.fn (.func 58) [] []),(.fn (.func 59) [] [])])]⟩
def zg_12_1_6 (ws xs : List Int) (k w : Int) : St := ⟨[(4,(.ptr 1 0 0 0)),(7,(.ptr 2 0 0 0)),(9,(i6 (wvF 12 ws k w))),(45,(i6 (wvF 12 ws k w))),(46,(i6 (wvF 12 ws k w)))],[(.var 61 [(LI ws),(LI xs),(i6 k),(i6 w)]),(.var 57 [(i6 0),(.v .nilf),(.v .nilf)]),(.var 57 [(i6 1),(.fn (.func 58) [] []),(.fn (.func 59) [] [])])]⟩
def zg_12_1_7 (ws xs : List Int) (k w : Int) : St := ⟨[(4,(.ptr 1 0 0 0)),(7,(.ptr 2 0 0 0)),(9,(i6 (wvF 12 ws k w))),(46,(i6 (wvF 12 ws k w))),(47,(dB (fitsF (wvF 12 ws k w))))],[(.var 61 [(LI ws),(LI xs),(i6 k),(i6 w)]),(.var 57 [(i6 0),(.v .nilf),(.v .nilf)]),(.var 57 [(i6 1),(.fn (.func 58) [] []),(.fn (.func 59) [] [])])]⟩
def zg_12_1_8 (ws xs : List Int) (k w : Int) : St := ⟨[(4,(.ptr 1 0 0 0)),(7,(.ptr 2 0 0 0)),(9,(i6 (wvF 12 ws k w))),(44,(.agg [(i6 1),(.fn (.func 58) [] []),(.fn (.func 59) [] [])])),(45,(i6 (wvF 12 ws k w))),(46,(i6 (wvF 12 ws k w)))],[(.var 61 [(LI ws),(LI xs),(i6 k),(i6 w)]),(.var 57 [(i6 0),(.v .nilf),(.v .nilf)]),(.var 57 [(i6 1),(.fn (.func 58) [] []),(.fn (.func 59) [] [])])]⟩
def zg_12_1_9 (ws xs : List Int) (k w : Int) : St := ⟨[(4,(.ptr 1 0 0 0)),(7,(.ptr 2 0 0 0)),(9,(i6 (wvF 12 ws k w))),(44,(.agg [(i6 1),(.fn (.func 58) [] []),(.fn (.func 59) [] [])])),(46,(i6 (wvF 12 ws k w))),(47,(dB (fitsF (wvF 12 ws k w))))],[(.var 61 [(LI ws),(LI xs),(i6 k),(i6 w)]),(.var 57 [(i6 0),(.v .nilf),(.v .nilf)]),(.var 57 [(i6 1),(.fn (.func 58) [] []),(.fn (.func 59) [] [])])]⟩
def zg_12_1_10 (ws xs : List Int) (k w : Int) : St := ⟨[(4,(.ptr 1 0 0 0)),(7,(.ptr 2 0 0 0)),(9,(i6 (wvF 12 ws k w))),(45,(i6 (wvF 12 ws k w))),(46,(i6 (wvF 12 ws k w))),(47,(dB (fitsF (wvF 12 ws k w))))],[(.var 61 [(LI ws),(LI xs),(i6 k),(i6 w)]),(.var 57 [(i6 0),(.v .nilf),(.v .nilf)]),(.var 57 [(i6 1),(.fn (.func 58) [] []),(.fn (.func 59) [] [])])]⟩
def zg_12_1_11 (ws xs : List Int) (k w : Int) : St := ⟨[(4,(.ptr 1 0 0 0)),(7,(.ptr 2 0 0 0)),(9,(i6 (wvF 12 ws k w))),(44,(.agg [(i6 1),(.fn (.func 58) [] []),(.fn (.func 59) [] [])])),(45,(i6 (wvF 12 ws k w))),(46,(i6 (wvF 12 ws k w))),(47,(dB (fitsF (wvF 12 ws k w))))],[(.var 61 [(LI ws),(LI xs),(i6 k),(i6 w)]),(.var 57 [(i6 0),(.v .nilf),(.v .nilf)]),(.var 57 [(i6 1),(.fn (.func 58) [] []),(.fn (.func 59) [] [])])]⟩
def zg_12_1_12 (ws xs : List Int) (k w : Int) : St := ⟨[(4,(.ptr 1 0 0 0)),(7,(.ptr 2 0 0 0)),(9,(i6 (wvF 12 ws k w))),(44,(.agg [(i6 1),(.fn (.func 58) [] []),(.fn (.func 59) [] [])])),(46,(i6 (wvF 12 ws k w))),(47,(dB (fitsF (wvF 12 ws k w))))],[(.var 61 [(LI ws),(LI xs),(i6 k),(i6 w)]),(.var 57 [(i6 1),(.fn (.func 58) [] []),(.fn (.func 59) [] [])]),(.var 57 [(i6 1),(.fn (.func 58) [] []),(.fn (.func 59) [] [])])]⟩
def zg_12_1_13 (ws xs : List Int) (k w : Int) : St := ⟨[(4,(.ptr 1 0 0 0)),(7,(.ptr 2 0 0 0)),(9,(i6 (wvF 12 ws k w))),(44,(.agg [(i6 1),(.fn (.func 58) [] []),(.fn (.func 59) [] [])])),(45,(i6 (wvF 12 ws k w))),(46,(i6 (wvF 12 ws k w))),(47,(dB (fitsF (wvF 12 ws k w))))],[(.var 61 [(LI ws),(LI xs),(i6 k),(i6 w)]),(.var 57 [(i6 1),(.fn (.func 58) [] []),(.fn (.func 59) [] [])]),(.var 57 [(i6 1),(.fn (.func 58) [] []),(.fn (.func 59) [] [])])]⟩
def zg_12_1_14 (ws xs : List Int) (k w : Int) : St := ⟨[(4,(.ptr 1 0 0 0)),(5,(i6 (wvF 12 ws k w))),(7,(.ptr 2 0 0 0)),(9,(i6 (wvF 12 ws k w))),(44,(.agg [(i6 1),(.fn (.func 58) [] []),(.fn (.func 59) [] [])])),(45,(i6 (wvF 12 ws k w))),(46,(i6 (wvF 12 ws k w))),(47,(dB (fitsF (wvF 12 ws k w))))],[(.var 61 [(LI ws),(LI xs),(i6 k),(i6 w)]),(.var 57 [(i6 1),(.fn (.func 58) [] []),(.fn (.func 59) [] [])]),(.var 57 [(i6 1),(.fn (.func 58) [] []),(.fn (.func 59) [] [])])]⟩
def zg_12_1_15 (ws xs : List Int) (k w : Int) : St := ⟨[(4,(.ptr 1 0 0 0)),(5,(i6 (wvF 12 ws k w))),(6,(dB true))],[(.var 61 [(LI ws),(LI xs),(i6 k),(i6 w)]),(.var 57 [(i6 1),(.fn (.func 58) [] []),(.fn (.func 59) [] [])]),(.var 57 [(i6 1),(.fn (.func 58) [] []),(.fn (.func 59) [] [])])]⟩
set_option maxRecDepth 100000 in
theorem width_good_12 (ws xs : List Int) (k w : Int) (hw : ws.length ≤ 9223372036854775807) (h : okF 12 ws k w = true) : CallOk Try.prog 27 [(i6 12),(.agg [(LI ws),(LI xs),(i6 k),(i6 w)])] [] true (.tup [(.agg [(i6 1),(.fn (.func 58) [] []),(.fn (.func 59) [] [])]),(i6 (wvF 12 ws k w)),(dB true)]) [] := by
  refine CallOk.of_ev Try.func27 rfl rfl rfl ?_
  rintro ⟨_,W,S0,_,susp,_⟩ rfl rfl rfl
  obtain ⟨h1,h2,h3⟩ := ok_yes h
  have hA : arityF 12 = 1 := by decide
  rw [hA] at h1
  refine Ev.seq ?_
  refine Ev.reg [] [0,3,4] (st' := ⟨[(0,(i6 12)),(3,(.ptr 0 0 0 0)),(4,(.ptr 1 0 0 0))],[(.var 61 [(LI ws),(LI xs),(i6 k),(i6 w)]),(.var 57 [(i6 0),(.v .nilf),(.v .nilf)])]⟩)
    (p := True∧True∧True∧True∧True) (by kernel_rfl)
    ⟨⟨⟩,⟨⟩,⟨⟩,⟨⟩,⟨⟩⟩ ?_
  refine Ev.seq ?_
  refine Ev.reg [(0,.call none false (.v (.mp simpleM))),(2,.idx none)] [0,3,4,7,8] (st' := ⟨[(0,(i6 12)),(3,(.ptr 0 0 0 0)),(4,(.ptr 1 0 0 0)),(7,(.ptr 2 0 0 0)),(8,(dB false))],[(.var 61 [(LI ws),(LI xs),(i6 k),(i6 w)]),(.var 57 [(i6 0),(.v .nilf),(.v .nilf)]),(.var 57 [(i6 0),(.v .nilf),(.v .nilf)])]⟩)
    (p := callOb Try.prog 33 [(.var 61 [(LI ws),(LI xs),(i6 k),(i6 w)]),(.var 57 [(i6 0),(.v .nilf),(.v .nilf)])] [] none false (.v (.mp simpleM))∧True∧(∀ e' ∈ simpleM,12 ≠ e'.1)∧True∧True∧True∧True∧True∧True∧True) (by kernel_rfl)
    ⟨simple_ok,⟨⟩,(by decide),⟨⟩,⟨⟩,⟨⟩,⟨⟩,⟨⟩,⟨⟩,⟨⟩⟩ ?_
  refine Ev.seq ?_
  refine Ev.seq ?_
  refine Ev.reg [] [0,3,4,7,8,17] (st' := ⟨[(0,(i6 12)),(3,(.ptr 0 0 0 0)),(4,(.ptr 1 0 0 0)),(7,(.ptr 2 0 0 0)),(8,(dB false)),(17,(dB true))],[(.var 61 [(LI ws),(LI xs),(i6 k),(i6 w)]),(.var 57 [(i6 0),(.v .nilf),(.v .nilf)]),(.var 57 [(i6 0),(.v .nilf),(.v .nilf)])]⟩)
    (p := True∧True∧True) (by kernel_rfl)
    ⟨⟨⟩,⟨⟩,⟨⟩⟩ ?_
  refine Ev.cond true rfl (fun _ => ?_) (fun h => (by cases h))
  refine Ev.reg [(0,.call none false (.v (.mp othersM))),(2,.idx (some 3))] [3,4,7,8] (st' := ⟨[(3,(.ptr 0 0 0 0)),(4,(.ptr 1 0 0 0)),(7,(.ptr 2 0 0 0)),(8,(dB true))],[(.var 61 [(LI ws),(LI xs),(i6 k),(i6 w)]),(.var 57 [(i6 0),(.v .nilf),(.v .nilf)]),(.var 57 [(i6 1),(.fn (.func 58) [] []),(.fn (.func 59) [] [])])]⟩)
    (p := callOb Try.prog 34 [(.var 61 [(LI ws),(LI xs),(i6 k),(i6 w)]),(.var 57 [(i6 0),(.v .nilf),(.v .nilf)]),(.var 57 [(i6 0),(.v .nilf),(.v .nilf)])] [] none false (.v (.mp othersM))∧True∧((12 : Int) = 12∧∀ e' ∈ othersM.take 3,(12 : Int) ≠ e'.1)∧True∧True∧True∧True∧True∧True) (by kernel_rfl)
    ⟨others_ok,⟨⟩,(by decide),⟨⟩,⟨⟩,⟨⟩,⟨⟩,⟨⟩,⟨⟩⟩ ?_
  refine Ev.seq ?_
  refine Ev.seq ?_
  refine Ev.reg [(8,.val (dB false)),(13,.call none false (dB (!(ws.all fitsF)))),(14,.val (dB false))] [3,4,7,38] (st' := ⟨[(3,(.ptr 0 0 0 0)),(4,(.ptr 1 0 0 0)),(7,(.ptr 2 0 0 0)),(38,(dB false))],[(.var 61 [(LI ws),(LI xs),(i6 k),(i6 w)]),(.var 57 [(i6 0),(.v .nilf),(.v .nilf)]),(.var 57 [(i6 1),(.fn (.func 58) [] []),(.fn (.func 59) [] [])])]⟩)
    (p := True∧True∧True∧True∧True∧True∧True∧True∧(True∧(((ws.length : Nat) : Int) != 1) = false)∧True∧True∧True∧True∧callOb Try.prog 35 [(.var 61 [(LI ws),(LI xs),(i6 k),(i6 w)]),(.var 57 [(i6 0),(.v .nilf),(.v .nilf)]),(.var 57 [(i6 1),(.fn (.func 58) [] []),(.fn (.func 59) [] [])])] [(LI ws),(.fn (.func 36) [] [])] none false (dB (!(ws.all fitsF)))∧(True∧(!(ws.all fitsF)) = false)∧True) (by kernel_rfl)
    ⟨⟨⟩,⟨⟩,⟨⟩,⟨⟩,⟨⟩,⟨⟩,⟨⟩,⟨⟩,⟨⟨⟩,(by rw [h1]; rfl)⟩,⟨⟩,⟨⟩,⟨⟩,⟨⟩,(contains_ok _ (by first | omega | (simp; first | done | omega))),⟨⟨⟩,(by rw [h2]; rfl)⟩,⟨⟩⟩ ?_
  refine Ev.cond false rfl (fun h => (by cases h)) (fun _ => ?_)
  refine Ev.skip ?_
  refine Ev.seq ?_
  refine Ev.reg [(3,.call none false (i6 (if fitsF w = false ∨ k < 0 ∨ ws.getD 0 0 - w < k then 0 else w))),(4,.val (i6 (wvF 12 ws k w)))] [4,7,9] (st' := ⟨[(4,(.ptr 1 0 0 0)),(7,(.ptr 2 0 0 0)),(9,(i6 (wvF 12 ws k w)))],[(.var 61 [(LI ws),(LI xs),(i6 k),(i6 w)]),(.var 57 [(i6 0),(.v .nilf),(.v .nilf)]),(.var 57 [(i6 1),(.fn (.func 58) [] []),(.fn (.func 59) [] [])])]⟩)
    (p := True∧True∧True∧(callOb Try.prog 58 [(.var 61 [(LI ws),(LI xs),(i6 k),(i6 w)]),(.var 57 [(i6 0),(.v .nilf),(.v .nilf)]),(.var 57 [(i6 1),(.fn (.func 58) [] []),(.fn (.func 59) [] [])])] [(.agg [(LI ws),(LI xs),(i6 k),(i6 w)])] none false (i6 (if fitsF w = false ∨ k < 0 ∨ ws.getD 0 0 - w < k then 0 else w)))∧(True∧((if fitsF w = false ∨ k < 0 ∨ ws.getD 0 0 - w < k then 0 else w) = (wvF 12 ws k w)))∧True) (by kernel_rfl)
    ⟨⟨⟩,⟨⟩,⟨⟩,(wslice_ok _ _ _ _ (by omega) (by assumption)),⟨⟨⟩,(by first | rfl | simp [wvF])⟩,⟨⟩⟩ ?_
  refine Ev.seq ?_
  refine Ev.any [(3,.call none false (dB (fitsF (wvF 12 ws k w)))),(6,.val (dB true))] [((bm 7 0),(zg_12_1_0 ws xs k w)),((bm 7 1),(zg_12_1_1 ws xs k w)),((bm 7 2),(zg_12_1_2 ws xs k w)),((bm 7 4),(zg_12_1_3 ws xs k w)),((bm 7 3),(zg_12_1_4 ws xs k w)),((bm 7 5),(zg_12_1_5 ws xs k w)),((bm 7 6),(zg_12_1_6 ws xs k w)),((bm 7 12),(zg_12_1_7 ws xs k w)),((bm 7 7),(zg_12_1_8 ws xs k w)),((bm 7 13),(zg_12_1_9 ws xs k w)),((bm 7 14),(zg_12_1_10 ws xs k w)),((bm 7 15),(zg_12_1_11 ws xs k w)),((bm 7 29),(zg_12_1_12 ws xs k w)),((bm 7 31),(zg_12_1_13 ws xs k w)),((bm 7 63),(zg_12_1_14 ws xs k w)),((bm 7 127),(zg_12_1_15 ws xs k w))] (st0 := (zg_12_1_0 ws xs k w)) (st' := ⟨[(4,(.ptr 1 0 0 0)),(5,(i6 (wvF 12 ws k w))),(6,(dB true))],[(.var 61 [(LI ws),(LI xs),(i6 k),(i6 w)]),(.var 57 [(i6 1),(.fn (.func 58) [] []),(.fn (.func 59) [] [])]),(.var 57 [(i6 1),(.fn (.func 58) [] []),(.fn (.func 59) [] [])])]⟩)
    (p := ((((zg_12_1_1 ws xs k w) : St) = (zg_12_1_1 ws xs k w)∧True∧True)∧(((zg_12_1_2 ws xs k w) : St) = (zg_12_1_2 ws xs k w)∧True∧True)∧(((zg_12_1_3 ws xs k w) : St) = (zg_12_1_3 ws xs k w)∧True∧True)∧True)∧((((zg_12_1_4 ws xs k w) : St) = (zg_12_1_4 ws xs k w)∧True∧True)∧(((zg_12_1_5 ws xs k w) : St) = (zg_12_1_5 ws xs k w)∧True∧True)∧True)∧((((zg_12_1_4 ws xs k w) : St) = (zg_12_1_4 ws xs k w)∧True∧True)∧(((zg_12_1_6 ws xs k w) : St) = (zg_12_1_6 ws xs k w)∧True∧True)∧True)∧((((zg_12_1_5 ws xs k w) : St) = (zg_12_1_5 ws xs k w)∧True∧True)∧(((zg_12_1_6 ws xs k w) : St) = (zg_12_1_6 ws xs k w)∧True∧True)∧(((zg_12_1_7 ws xs k w) : St) = (zg_12_1_7 ws xs k w)∧callOb Try.prog 37 [(.var 61 [(LI ws),(LI xs),(i6 k),(i6 w)]),(.var 57 [(i6 0),(.v .nilf),(.v .nilf)]),(.var 57 [(i6 1),(.fn (.func 58) [] []),(.fn (.func 59) [] [])])] [(i6 (wvF 12 ws k w))] none false (dB (fitsF (wvF 12 ws k w)))∧True)∧True)∧((((zg_12_1_8 ws xs k w) : St) = (zg_12_1_8 ws xs k w)∧True∧True)∧True)∧((((zg_12_1_8 ws xs k w) : St) = (zg_12_1_8 ws xs k w)∧True∧True)∧(((zg_12_1_9 ws xs k w) : St) = (zg_12_1_9 ws xs k w)∧callOb Try.prog 37 [(.var 61 [(LI ws),(LI xs),(i6 k),(i6 w)]),(.var 57 [(i6 0),(.v .nilf),(.v .nilf)]),(.var 57 [(i6 1),(.fn (.func 58) [] []),(.fn (.func 59) [] [])])] [(i6 (wvF 12 ws k w))] none false (dB (fitsF (wvF 12 ws k w)))∧True)∧True)∧((((zg_12_1_8 ws xs k w) : St) = (zg_12_1_8 ws xs k w)∧True∧True)∧(((zg_12_1_10 ws xs k w) : St) = (zg_12_1_10 ws xs k w)∧callOb Try.prog 37 [(.var 61 [(LI ws),(LI xs),(i6 k),(i6 w)]),(.var 57 [(i6 0),(.v .nilf),(.v .nilf)]),(.var 57 [(i6 1),(.fn (.func 58) [] []),(.fn (.func 59) [] [])])] [(i6 (wvF 12 ws k w))] none false (dB (fitsF (wvF 12 ws k w)))∧True)∧True)∧((((zg_12_1_9 ws xs k w) : St) = (zg_12_1_9 ws xs k w)∧True∧True)∧(((zg_12_1_10 ws xs k w) : St) = (zg_12_1_10 ws xs k w)∧True∧True)∧True)∧((((zg_12_1_11 ws xs k w) : St) = (zg_12_1_11 ws xs k w)∧callOb Try.prog 37 [(.var 61 [(LI ws),(LI xs),(i6 k),(i6 w)]),(.var 57 [(i6 0),(.v .nilf),(.v .nilf)]),(.var 57 [(i6 1),(.fn (.func 58) [] []),(.fn (.func 59) [] [])])] [(i6 (wvF 12 ws k w))] none false (dB (fitsF (wvF 12 ws k w)))∧True)∧True)∧((((zg_12_1_11 ws xs k w) : St) = (zg_12_1_11 ws xs k w)∧True∧True)∧(((zg_12_1_12 ws xs k w) : St) = (zg_12_1_12 ws xs k w)∧True∧True)∧True)∧((((zg_12_1_11 ws xs k w) : St) = (zg_12_1_11 ws xs k w)∧True∧True)∧True)∧((((zg_12_1_13 ws xs k w) : St) = (zg_12_1_13 ws xs k w)∧True∧True)∧True)∧((((zg_12_1_13 ws xs k w) : St) = (zg_12_1_13 ws xs k w)∧True∧True)∧True)∧((((zg_12_1_14 ws xs k w) : St) = (zg_12_1_14 ws xs k w)∧True∧True)∧True)∧((((zg_12_1_15 ws xs k w) : St) = (zg_12_1_15 ws xs k w)∧(True∧(fitsF (wvF 12 ws k w)) = true)∧True)∧True)∧True∧True) (by kernel_rfl) (by kernel_rfl) (by kernel_rfl) (by kernel_rfl) (by kernel_rfl) (by kernel_rfl)
    ⟨⟨⟨rfl,⟨⟩,⟨⟩⟩,⟨rfl,⟨⟩,⟨⟩⟩,⟨rfl,⟨⟩,⟨⟩⟩,⟨⟩⟩,⟨⟨rfl,⟨⟩,⟨⟩⟩,⟨rfl,⟨⟩,⟨⟩⟩,⟨⟩⟩,⟨⟨rfl,⟨⟩,⟨⟩⟩,⟨rfl,⟨⟩,⟨⟩⟩,⟨⟩⟩,⟨⟨rfl,⟨⟩,⟨⟩⟩,⟨rfl,⟨⟩,⟨⟩⟩,⟨rfl,(fits_ok _),⟨⟩⟩,⟨⟩⟩,⟨⟨rfl,⟨⟩,⟨⟩⟩,⟨⟩⟩,⟨⟨rfl,⟨⟩,⟨⟩⟩,⟨rfl,(fits_ok _),⟨⟩⟩,⟨⟩⟩,⟨⟨rfl,⟨⟩,⟨⟩⟩,⟨rfl,(fits_ok _),⟨⟩⟩,⟨⟩⟩,⟨⟨rfl,⟨⟩,⟨⟩⟩,⟨rfl,⟨⟩,⟨⟩⟩,⟨⟩⟩,⟨⟨rfl,(fits_ok _),⟨⟩⟩,⟨⟩⟩,⟨⟨rfl,⟨⟩,⟨⟩⟩,⟨rfl,⟨⟩,⟨⟩⟩,⟨⟩⟩,⟨⟨rfl,⟨⟩,⟨⟩⟩,⟨⟩⟩,⟨⟨rfl,⟨⟩,⟨⟩⟩,⟨⟩⟩,⟨⟨rfl,⟨⟩,⟨⟩⟩,⟨⟩⟩,⟨⟨rfl,⟨⟩,⟨⟩⟩,⟨⟩⟩,⟨⟨rfl,⟨⟨⟩,(by first | exact h3 | simpa [wvF] using h3)⟩,⟨⟩⟩,⟨⟩⟩,⟨⟩,⟨⟩⟩ ?_
  refine Ev.ret ?_
  refine ⟨⟨⟨⟩,⟨⟩,⟨⟩,⟨⟩⟩,(?_ : ((1 : Int) = 1∧((.fn (.func 58) [] []) : D) = (.fn (.func 58) [] [])∧((.fn (.func 59) [] []) : D) = (.fn (.func 59) [] [])∧True)∧(wvF 12 ws k w) = (wvF 12 ws k w)∧true = true∧True),.inl rfl⟩
  exact ⟨⟨rfl,rfl,rfl,⟨⟩⟩,rfl,rfl,⟨⟩⟩

set_option maxRecDepth 100000 in
theorem width_bad_12 (ws xs : List Int) (k w : Int) (hw : ws.length ≤ 9223372036854775807) (h : okB 12 ws = false) : CallOk Try.prog 27 [(i6 12),(.agg [(LI ws),(LI xs),(i6 k),(i6 w)])] [] true (.tup [(.agg [(i6 0),(.v .nilf),(.v .nilf)]),(i6 0),(dB false)]) [] := by
  refine CallOk.of_ev Try.func27 rfl rfl rfl ?_
  rintro ⟨_,W,S0,_,susp,_⟩ rfl rfl rfl
  refine Ev.seq ?_
  refine Ev.reg [] [0,3,4] (st' := ⟨[(0,(i6 12)),(3,(.ptr 0 0 0 0)),(4,(.ptr 1 0 0 0))],[(.var 61 [(LI ws),(LI xs),(i6 k),(i6 w)]),(.var 57 [(i6 0),(.v .nilf),(.v .nilf)])]⟩)
    (p := True∧True∧True∧True∧True) (by kernel_rfl)
    ⟨⟨⟩,⟨⟩,⟨⟩,⟨⟩,⟨⟩⟩ ?_
  refine Ev.seq ?_
  refine Ev.reg [(0,.call none false (.v (.mp simpleM))),(2,.idx none)] [0,3,4,7,8] (st' := ⟨[(0,(i6 12)),(3,(.ptr 0 0 0 0)),(4,(.ptr 1 0 0 0)),(7,(.ptr 2 0 0 0)),(8,(dB false))],[(.var 61 [(LI ws),(LI xs),(i6 k),(i6 w)]),(.var 57 [(i6 0),(.v .nilf),(.v .nilf)]),(.var 57 [(i6 0),(.v .nilf),(.v .nilf)])]⟩)
    (p := callOb Try.prog 33 [(.var 61 [(LI ws),(LI xs),(i6 k),(i6 w)]),(.var 57 [(i6 0),(.v .nilf),(.v .nilf)])] [] none false (.v (.mp simpleM))∧True∧(∀ e' ∈ simpleM,12 ≠ e'.1)∧True∧True∧True∧True∧True∧True∧True) (by kernel_rfl)
    ⟨simple_ok,⟨⟩,(by decide),⟨⟩,⟨⟩,⟨⟩,⟨⟩,⟨⟩,⟨⟩,⟨⟩⟩ ?_
  refine Ev.seq ?_
  refine Ev.seq ?_
  refine Ev.reg [] [0,3,4,7,8,17] (st' := ⟨[(0,(i6 12)),(3,(.ptr 0 0 0 0)),(4,(.ptr 1 0 0 0)),(7,(.ptr 2 0 0 0)),(8,(dB false)),(17,(dB true))],[(.var 61 [(LI ws),(LI xs),(i6 k),(i6 w)]),(.var 57 [(i6 0),(.v .nilf),(.v .nilf)]),(.var 57 [(i6 0),(.v .nilf),(.v .nilf)])]⟩)
    (p := True∧True∧True) (by kernel_rfl)
    ⟨⟨⟩,⟨⟩,⟨⟩⟩ ?_
  refine Ev.cond true rfl (fun _ => ?_) (fun h => (by cases h))
  refine Ev.reg [(0,.call none false (.v (.mp othersM))),(2,.idx (some 3))] [3,4,7,8] (st' := ⟨[(3,(.ptr 0 0 0 0)),(4,(.ptr 1 0 0 0)),(7,(.ptr 2 0 0 0)),(8,(dB true))],[(.var 61 [(LI ws),(LI xs),(i6 k),(i6 w)]),(.var 57 [(i6 0),(.v .nilf),(.v .nilf)]),(.var 57 [(i6 1),(.fn (.func 58) [] []),(.fn (.func 59) [] [])])]⟩)
    (p := callOb Try.prog 34 [(.var 61 [(LI ws),(LI xs),(i6 k),(i6 w)]),(.var 57 [(i6 0),(.v .nilf),(.v .nilf)]),(.var 57 [(i6 0),(.v .nilf),(.v .nilf)])] [] none false (.v (.mp othersM))∧True∧((12 : Int) = 12∧∀ e' ∈ othersM.take 3,(12 : Int) ≠ e'.1)∧True∧True∧True∧True∧True∧True) (by kernel_rfl)
    ⟨others_ok,⟨⟩,(by decide),⟨⟩,⟨⟩,⟨⟩,⟨⟩,⟨⟩,⟨⟩⟩ ?_
  refine Ev.seq ?_
  refine Ev.seq ?_
  rcases okB_no h with h1 | ⟨h1,h2⟩
  · skip
    have hA : arityF 12 = 1 := by decide
    rw [hA] at h1
    refine Ev.reg [(8,.val (dB true))] [3,4,7,38] (st' := ⟨[(3,(.ptr 0 0 0 0)),(4,(.ptr 1 0 0 0)),(7,(.ptr 2 0 0 0)),(38,(dB true))],[(.var 61 [(LI ws),(LI xs),(i6 k),(i6 w)]),(.var 57 [(i6 0),(.v .nilf),(.v .nilf)]),(.var 57 [(i6 1),(.fn (.func 58) [] []),(.fn (.func 59) [] [])])]⟩)
      (p := True∧True∧True∧True∧True∧True∧True∧True∧(True∧(((ws.length : Nat) : Int) != 1) = true)∧True∧True∧True∧True∧True∧True∧True) (by kernel_rfl)
      ⟨⟨⟩,⟨⟩,⟨⟩,⟨⟩,⟨⟩,⟨⟩,⟨⟩,⟨⟩,⟨⟨⟩,(by exact bne_iff_ne.2 (by omega))⟩,⟨⟩,⟨⟩,⟨⟩,⟨⟩,⟨⟩,⟨⟩,⟨⟩⟩ ?_
    refine Ev.cond true rfl (fun _ => ?_) (fun h => (by cases h))
    refine Ev.seq ?_
    refine Ev.reg [] [4,5,6] (st' := ⟨[(4,(.ptr 1 0 0 0)),(5,(i6 0)),(6,(dB false))],[(.var 61 [(LI ws),(LI xs),(i6 k),(i6 w)]),(.var 57 [(i6 0),(.v .nilf),(.v .nilf)]),(.var 57 [(i6 1),(.fn (.func 58) [] []),(.fn (.func 59) [] [])])]⟩)
      (p := True∧True∧True∧True∧True) (by kernel_rfl)
      ⟨⟨⟩,⟨⟩,⟨⟩,⟨⟩,⟨⟩⟩ ?_
    refine Ev.ret ?_
    refine ⟨⟨⟨⟩,⟨⟩,⟨⟩,⟨⟩⟩,(?_ : ((0 : Int) = 0∧True∧True∧True)∧(0 : Int) = 0∧false = false∧True),.inl rfl⟩
    exact ⟨⟨rfl,⟨⟩,⟨⟩,⟨⟩⟩,rfl,rfl,⟨⟩⟩
  · skip
    have hA : arityF 12 = 1 := by decide
    rw [hA] at h1
    refine Ev.reg [(8,.val (dB false)),(13,.call none false (dB (!(ws.all fitsF)))),(14,.val (dB true))] [3,4,7,38] (st' := ⟨[(3,(.ptr 0 0 0 0)),(4,(.ptr 1 0 0 0)),(7,(.ptr 2 0 0 0)),(38,(dB true))],[(.var 61 [(LI ws),(LI xs),(i6 k),(i6 w)]),(.var 57 [(i6 0),(.v .nilf),(.v .nilf)]),(.var 57 [(i6 1),(.fn (.func 58) [] []),(.fn (.func 59) [] [])])]⟩)
      (p := True∧True∧True∧True∧True∧True∧True∧True∧(True∧(((ws.length : Nat) : Int) != 1) = false)∧True∧True∧True∧True∧callOb Try.prog 35 [(.var 61 [(LI ws),(LI xs),(i6 k),(i6 w)]),(.var 57 [(i6 0),(.v .nilf),(.v .nilf)]),(.var 57 [(i6 1),(.fn (.func 58) [] []),(.fn (.func 59) [] [])])] [(LI ws),(.fn (.func 36) [] [])] none false (dB (!(ws.all fitsF)))∧(True∧(!(ws.all fitsF)) = true)∧True) (by kernel_rfl)
      ⟨⟨⟩,⟨⟩,⟨⟩,⟨⟩,⟨⟩,⟨⟩,⟨⟩,⟨⟩,⟨⟨⟩,(by rw [h1]; rfl)⟩,⟨⟩,⟨⟩,⟨⟩,⟨⟩,(contains_ok _ (by first | omega | (simp; first | done | omega))),⟨⟨⟩,(by rw [h2]; rfl)⟩,⟨⟩⟩ ?_
    refine Ev.cond true rfl (fun _ => ?_) (fun h => (by cases h))
    refine Ev.seq ?_
    refine Ev.reg [] [4,5,6] (st' := ⟨[(4,(.ptr 1 0 0 0)),(5,(i6 0)),(6,(dB false))],[(.var 61 [(LI ws),(LI xs),(i6 k),(i6 w)]),(.var 57 [(i6 0),(.v .nilf),(.v .nilf)]),(.var 57 [(i6 1),(.fn (.func 58) [] []),(.fn (.func 59) [] [])])]⟩)
      (p := True∧True∧True∧True∧True) (by kernel_rfl)
      ⟨⟨⟩,⟨⟩,⟨⟩,⟨⟩,⟨⟩⟩ ?_
    refine Ev.ret ?_
    refine ⟨⟨⟨⟩,⟨⟩,⟨⟩,⟨⟩⟩,(?_ : ((0 : Int) = 0∧True∧True∧True)∧(0 : Int) = 0∧false = false∧True),.inl rfl⟩
    exact ⟨⟨rfl,⟨⟩,⟨⟩,⟨⟩⟩,rfl,rfl,⟨⟩⟩

def zwv_12_1_0 (ws xs : List Int) (k w : Int) : St := ⟨[(4,(.ptr 1 0 0 0)),(7,(.ptr 2 0 0 0)),(9,(i6 (wvF 12 ws k w)))],[(.var 61 [(LI ws),(LI xs),(i6 k),(i6 w)]),(.var 57 [(i6 0),(.v .nilf),(.v .nilf)]),(.var 57 [(i6 1),(.fn (.func 58) [] []),(.fn (.func 59) [] [])])]⟩
def zwv_12_1_1 (ws xs : List Int) (k w : Int) : St := ⟨[(4,(.ptr 1 0 0 0)),(7,(.ptr 2 0 0 0)),(9,(i6 (wvF 12 ws k w))),(44,(.agg [(i6 1),(.fn (.func 58) [] []),(.fn (.func 59) [] [])]))],[(.var 61 [(LI ws),(LI xs),(i6 k),(i6 w)]),(.var 57 [(i6 0),(.v .nilf),(.v .nilf)]),(.var 57 [(i6 1),(.fn (.func 58) [] []),(.fn (.func 59) [] [])])]⟩
def zwv_12_1_2 (ws xs : List Int) (k w : Int) : St := ⟨[(4,(.ptr 1 0 0 0)),(7,(.ptr 2 0 0 0)),(9,(i6 (wvF 12 ws k w))),(45,(i6 (wvF 12 ws k w)))],[(.var 61 [(LI ws),(LI xs),(i6 k),(i6 w)]),(.var 57 [(i6 0),(.v .nilf),(.v .nilf)]),(.var 57 [(i6 1),(.fn (.func 58) [] []),(.fn (.func 59) [] [])])]⟩
def zwv_12_1_3 (ws xs : List Int) (k w : Int) : St := ⟨[(4,(.ptr 1 0 0 0)),(7,(.ptr 2 0 0 0)),(9,(i6 (wvF 12 ws k w))),(46,(i6 (wvF 12 ws k w)))],[(.var 61 [(LI ws),(LI xs),(i6 k),(i6 w)]),(.var 57 [(i6 0),(.v .nilf),(.v .nilf)]),(.var 57 [(i6 1),(.fn (.func 58) [] []),(.fn (.func 59) [] [])])]⟩
def zwv_12_1_4 (ws xs : List Int) (k w : Int) : St := ⟨[(4,(.ptr 1 0 0 0)),(7,(.ptr 2 0 0 0)),(9,(i6 (wvF 12 ws k w))),(44,(.agg [(i6 1),(.fn (.func 58) [] []),(.fn (.func 59) [] [])])),(45,(i6 (wvF 12 ws k w)))],[(.var 61 [(LI ws),(LI xs),(i6 k),(i6 w)]),(.var 57 [(i6 0),(.v .nilf),(.v .nilf)]),(.var 57 [(i6 1),(.fn (.func 58) [] []),(.fn (.func 59) [] [])])]⟩
def zwv_12_1_5 (ws xs : List Int) (k w : Int) : St := ⟨[(4,(.ptr 1 0 0 0)),(7,(.ptr 2 0 0 0)),(9,(i6 (wvF 12 ws k w))),(44,(.agg [(i6 1),(.fn (.func 58) [] []),(.fn (.func 59) [] [])])),(46,(i6 (wvF 12 ws k w)))],[(.var 61 [(LI ws),(LI xs),(i6 k),(i6 w)]),(.var 57 [(i6 0),(.v .nilf),(.v .nilf)]),(.var 57 [(i6 1),(.fn (.func 58) [] []),(.fn (.func 59) [] [])])]⟩
def zwv_12_1_6 (ws xs : List Int) (k w : Int) : St := ⟨[(4,(.ptr 1 0 0 0)),(7,(.ptr 2 0 0 0)),(9,(i6 (wvF 12 ws k w))),(45,(i6 (wvF 12 ws k w))),(46,(i6 (wvF 12 ws k w)))],[(.var 61 [(LI ws),(LI xs),(i6 k),(i6 w)]),(.var 57 [(i6 0),(.v .nilf),(.v .nilf)]),(.var 57 [(i6 1),(.fn (.func 58) [] []),(.fn (.func 59) [] [])])]⟩
def zwv_12_1_7 (ws xs : List Int) (k w : Int) : St := ⟨[(4,(.ptr 1 0 0 0)),(7,(.ptr 2 0 0 0)),(9,(i6 (wvF 12 ws k w))),(46,(i6 (wvF 12 ws k w))),(47,(dB (fitsF (wvF 12 ws k w))))],[(.var 61 [(LI ws),(LI xs),(i6 k),(i6 w)]),(.var 57 [(i6 0),(.v .nilf),(.v .nilf)]),(.var 57 [(i6 1),(.fn (.func 58) [] []),(.fn (.func 59) [] [])])]⟩
def zwv_12_1_8 (ws xs : List Int) (k w : Int) : St := ⟨[(4,(.ptr 1 0 0 0)),(7,(.ptr 2 0 0 0)),(9,(i6 (wvF 12 ws k w))),(44,(.agg [(i6 1),(.fn (.func 58) [] []),(.fn (.func 59) [] [])])),(45,(i6 (wvF 12 ws k w))),(46,(i6 (wvF 12 ws k w)))],[(.var 61 [(LI ws),(LI xs),(i6 k),(i6 w)]),(.var 57 [(i6 0),(.v .nilf),(.v .nilf)]),(.var 57 [(i6 1),(.fn (.func 58) [] []),(.fn (.func 59) [] [])])]⟩
def zwv_12_1_9 (ws xs : List Int) (k w : Int) : St := ⟨[(4,(.ptr 1 0 0 0)),(7,(.ptr 2 0 0 0)),(9,(i6 (wvF 12 ws k w))),(44,(.agg [(i6 1),(.fn (.func 58) [] []),(.fn (.func 59) [] [])])),(46,(i6 (wvF 12 ws k w))),(47,(dB (fitsF (wvF 12 ws k w))))],[(.var 61 [(LI ws),(LI xs),(i6 k),(i6 w)]),(.var 57 [(i6 0),(.v .nilf),(.v .nilf)]),(.var 57 [(i6 1),(.fn (.func 58) [] []),(.fn (.func 59) [] [])])]⟩
def zwv_12_1_10 (ws xs : List Int) (k w : Int) : St := ⟨[(4,(.ptr 1 0 0 0)),(7,(.ptr 2 0 0 0)),(9,(i6 (wvF 12 ws k w))),(45,(i6 (wvF 12 ws k w))),(46,(i6 (wvF 12 ws k w))),(47,(dB (fitsF (wvF 12 ws k w))))],[(.var 61 [(LI ws),(LI xs),(i6 k),(i6 w)]),(.var 57 [(i6 0),(.v .nilf),(.v .nilf)]),(.var 57 [(i6 1),(.fn (.func 58) [] []),(.fn (.func 59) [] [])])]⟩
def zwv_12_1_11 (ws xs : List Int) (k w : Int) : St := ⟨[(4,(.ptr 1 0 0 0)),(7,(.ptr 2 0 0 0)),(9,(i6 (wvF 12 ws k w))),(44,(.agg [(i6 1),(.fn (.func 58) [] []),(.fn (.func 59) [] [])])),(45,(i6 (wvF 12 ws k w))),(46,(i6 (wvF 12 ws k w))),(47,(dB (fitsF (wvF 12 ws k w))))],[(.var 61 [(LI ws),(LI xs),(i6 k),(i6 w)]),(.var 57 [(i6 0),(.v .nilf),(.v .nilf)]),(.var 57 [(i6 1),(.fn (.func 58) [] []),(.fn (.func 59) [] [])])]⟩
def zwv_12_1_12 (ws xs : List Int) (k w : Int) : St := ⟨[(4,(.ptr 1 0 0 0)),(7,(.ptr 2 0 0 0)),(9,(i6 (wvF 12 ws k w))),(44,(.agg [(i6 1),(.fn (.func 58) [] []),(.fn (.func 59) [] [])])),(46,(i6 (wvF 12 ws k w))),(47,(dB (fitsF (wvF 12 ws k w))))],[(.var 61 [(LI ws),(LI xs),(i6 k),(i6 w)]),(.var 57 [(i6 1),(.fn (.func 58) [] []),(.fn (.func 59) [] [])]),(.var 57 [(i6 1),(.fn (.func 58) [] []),(.fn (.func 59) [] [])])]⟩
def zwv_12_1_13 (ws xs : List Int) (k w : Int) : St := ⟨[(4,(.ptr 1 0 0 0)),(7,(.ptr 2 0 0 0)),(9,(i6 (wvF 12 ws k w))),(44,(.agg [(i6 1),(.fn (.func 58) [] []),(.fn (.func 59) [] [])])),(45,(i6 (wvF 12 ws k w))),(46,(i6 (wvF 12 ws k w))),(47,(dB (fitsF (wvF 12 ws k w))))],[(.var 61 [(LI ws),(LI xs),(i6 k),(i6 w)]),(.var 57 [(i6 1),(.fn (.func 58) [] []),(.fn (.func 59) [] [])]),(.var 57 [(i6 1),(.fn (.func 58) [] []),(.fn (.func 59) [] [])])]⟩
def zwv_12_1_14 (ws xs : List Int) (k w : Int) : St := ⟨[(4,(.ptr 1 0 0 0)),(5,(i6 (wvF 12 ws k w))),(7,(.ptr 2 0 0 0)),(9,(i6 (wvF 12 ws k w))),(44,(.agg [(i6 1),(.fn (.func 58) [] []),(.fn (.func 59) [] [])])),(45,(i6 (wvF 12 ws k w))),(46,(i6 (wvF 12 ws k w))),(47,(dB (fitsF (wvF 12 ws k w))))],[(.var 61 [(LI ws),(LI xs),(i6 k),(i6 w)]),(.var 57 [(i6 1),(.fn (.func 58) [] []),(.fn (.func 59) [] [])]),(.var 57 [(i6 1),(.fn (.func 58) [] []),(.fn (.func 59) [] [])])]⟩
def zwv_12_1_15 (ws xs : List Int) (k w : Int) : St := ⟨[(4,(.ptr 1 0 0 0)),(5,(i6 (wvF 12 ws k w))),(6,(dB false))],[(.var 61 [(LI ws),(LI xs),(i6 k),(i6 w)]),(.var 57 [(i6 1),(.fn (.func 58) [] []),(.fn (.func 59) [] [])]),(.var 57 [(i6 1),(.fn (.func 58) [] []),(.fn (.func 59) [] [])])]⟩
set_option maxRecDepth 100000 in
theorem width_wv_12 (ws xs : List Int) (k w : Int) (hw : ws.length ≤ 9223372036854775807) (h : okB 12 ws = true) (h3 : fitsF (wvF 12 ws k w) = false) : CallOk Try.prog 27 [(i6 12),(.agg [(LI ws),(LI xs),(i6 k),(i6 w)])] [] true (.tup [(.agg [(i6 1),(.fn (.func 58) [] []),(.fn (.func 59) [] [])]),(i6 (wvF 12 ws k w)),(dB false)]) [] := by
  refine CallOk.of_ev Try.func27 rfl rfl rfl ?_
  rintro ⟨_,W,S0,_,susp,_⟩ rfl rfl rfl
  obtain ⟨h1,h2⟩ := okB_yes h
  have hA : arityF 12 = 1 := by decide
  rw [hA] at h1
  refine Ev.seq ?_
  refine Ev.reg [] [0,3,4] (st' := ⟨[(0,(i6 12)),(3,(.ptr 0 0 0 0)),(4,(.ptr 1 0 0 0))],[(.var 61 [(LI ws),(LI xs),(i6 k),(i6 w)]),(.var 57 [(i6 0),(.v .nilf),(.v .nilf)])]⟩)
    (p := True∧True∧True∧True∧True) (by kernel_rfl)
    ⟨⟨⟩,⟨⟩,⟨⟩,⟨⟩,⟨⟩⟩ ?_
  refine Ev.seq ?_
  refine Ev.reg [(0,.call none false (.v (.mp simpleM))),(2,.idx none)] [0,3,4,7,8] (st' := ⟨[(0,(i6 12)),(3,(.ptr 0 0 0 0)),(4,(.ptr 1 0 0 0)),(7,(.ptr 2 0 0 0)),(8,(dB false))],[(.var 61 [(LI ws),(LI xs),(i6 k),(i6 w)]),(.var 57 [(i6 0),(.v .nilf),(.v .nilf)]),(.var 57 [(i6 0),(.v .nilf),(.v .nilf)])]⟩)
    (p := callOb Try.prog 33 [(.var 61 [(LI ws),(LI xs),(i6 k),(i6 w)]),(.var 57 [(i6 0),(.v .nilf),(.v .nilf)])] [] none false (.v (.mp simpleM))∧True∧(∀ e' ∈ simpleM,12 ≠ e'.1)∧True∧True∧True∧True∧True∧True∧True) (by kernel_rfl)
    ⟨simple_ok,⟨⟩,(by decide),⟨⟩,⟨⟩,⟨⟩,⟨⟩,⟨⟩,⟨⟩,⟨⟩⟩ ?_
  refine Ev.seq ?_
  refine Ev.seq ?_
  refine Ev.reg [] [0,3,4,7,8,17] (st' := ⟨[(0,(i6 12)),(3,(.ptr 0 0 0 0)),(4,(.ptr 1 0 0 0)),(7,(.ptr 2 0 0 0)),(8,(dB false)),(17,(dB true))],[(.var 61 [(LI ws),(LI xs),(i6 k),(i6 w)]),(.var 57 [(i6 0),(.v .nilf),(.v .nilf)]),(.var 57 [(i6 0),(.v .nilf),(.v .nilf)])]⟩)
    (p := True∧True∧True) (by kernel_rfl)
    ⟨⟨⟩,⟨⟩,⟨⟩⟩ ?_
  refine Ev.cond true rfl (fun _ => ?_) (fun h => (by cases h))
  refine Ev.reg [(0,.call none false (.v (.mp othersM))),(2,.idx (some 3))] [3,4,7,8] (st' := ⟨[(3,(.ptr 0 0 0 0)),(4,(.ptr 1 0 0 0)),(7,(.ptr 2 0 0 0)),(8,(dB true))],[(.var 61 [(LI ws),(LI xs),(i6 k),(i6 w)]),(.var 57 [(i6 0),(.v .nilf),(.v .nilf)]),(.var 57 [(i6 1),(.fn (.func 58) [] []),(.fn (.func 59) [] [])])]⟩)
    (p := callOb Try.prog 34 [(.var 61 [(LI ws),(LI xs),(i6 k),(i6 w)]),(.var 57 [(i6 0),(.v .nilf),(.v .nilf)]),(.var 57 [(i6 0),(.v .nilf),(.v .nilf)])] [] none false (.v (.mp othersM))∧True∧((12 : Int) = 12∧∀ e' ∈ othersM.take 3,(12 : Int) ≠ e'.1)∧True∧True∧True∧True∧True∧True) (by kernel_rfl)
    ⟨others_ok,⟨⟩,(by decide),⟨⟩,⟨⟩,⟨⟩,⟨⟩,⟨⟩,⟨⟩⟩ ?_
  refine Ev.seq ?_
  refine Ev.seq ?_
  refine Ev.reg [(8,.val (dB false)),(13,.call none false (dB (!(ws.all fitsF)))),(14,.val (dB false))] [3,4,7,38] (st' := ⟨[(3,(.ptr 0 0 0 0)),(4,(.ptr 1 0 0 0)),(7,(.ptr 2 0 0 0)),(38,(dB false))],[(.var 61 [(LI ws),(LI xs),(i6 k),(i6 w)]),(.var 57 [(i6 0),(.v .nilf),(.v .nilf)]),(.var 57 [(i6 1),(.fn (.func 58) [] []),(.fn (.func 59) [] [])])]⟩)
    (p := True∧True∧True∧True∧True∧True∧True∧True∧(True∧(((ws.length : Nat) : Int) != 1) = false)∧True∧True∧True∧True∧callOb Try.prog 35 [(.var 61 [(LI ws),(LI xs),(i6 k),(i6 w)]),(.var 57 [(i6 0),(.v .nilf),(.v .nilf)]),(.var 57 [(i6 1),(.fn (.func 58) [] []),(.fn (.func 59) [] [])])] [(LI ws),(.fn (.func 36) [] [])] none false (dB (!(ws.all fitsF)))∧(True∧(!(ws.all fitsF)) = false)∧True) (by kernel_rfl)
    ⟨⟨⟩,⟨⟩,⟨⟩,⟨⟩,⟨⟩,⟨⟩,⟨⟩,⟨⟩,⟨⟨⟩,(by rw [h1]; rfl)⟩,⟨⟩,⟨⟩,⟨⟩,⟨⟩,(contains_ok _ (by first | omega | (simp; first | done | omega))),⟨⟨⟩,(by rw [h2]; rfl)⟩,⟨⟩⟩ ?_
  refine Ev.cond false rfl (fun h => (by cases h)) (fun _ => ?_)
  refine Ev.skip ?_
  refine Ev.seq ?_
  refine Ev.reg [(3,.call none false (i6 (if fitsF w = false ∨ k < 0 ∨ ws.getD 0 0 - w < k then 0 else w))),(4,.val (i6 (wvF 12 ws k w)))] [4,7,9] (st' := ⟨[(4,(.ptr 1 0 0 0)),(7,(.ptr 2 0 0 0)),(9,(i6 (wvF 12 ws k w)))],[(.var 61 [(LI ws),(LI xs),(i6 k),(i6 w)]),(.var 57 [(i6 0),(.v .nilf),(.v .nilf)]),(.var 57 [(i6 1),(.fn (.func 58) [] []),(.fn (.func 59) [] [])])]⟩)
    (p := True∧True∧True∧(callOb Try.prog 58 [(.var 61 [(LI ws),(LI xs),(i6 k),(i6 w)]),(.var 57 [(i6 0),(.v .nilf),(.v .nilf)]),(.var 57 [(i6 1),(.fn (.func 58) [] []),(.fn (.func 59) [] [])])] [(.agg [(LI ws),(LI xs),(i6 k),(i6 w)])] none false (i6 (if fitsF w = false ∨ k < 0 ∨ ws.getD 0 0 - w < k then 0 else w)))∧(True∧((if fitsF w = false ∨ k < 0 ∨ ws.getD 0 0 - w < k then 0 else w) = (wvF 12 ws k w)))∧True) (by kernel_rfl)
    ⟨⟨⟩,⟨⟩,⟨⟩,(wslice_ok _ _ _ _ (by omega) (by assumption)),⟨⟨⟩,(by first | rfl | simp [wvF])⟩,⟨⟩⟩ ?_
  refine Ev.seq ?_
  refine Ev.any [(3,.call none false (dB (fitsF (wvF 12 ws k w)))),(6,.val (dB false))] [((bm 7 0),(zwv_12_1_0 ws xs k w)),((bm 7 1),(zwv_12_1_1 ws xs k w)),((bm 7 2),(zwv_12_1_2 ws xs k w)),((bm 7 4),(zwv_12_1_3 ws xs k w)),((bm 7 3),(zwv_12_1_4 ws xs k w)),((bm 7 5),(zwv_12_1_5 ws xs k w)),((bm 7 6),(zwv_12_1_6 ws xs k w)),((bm 7 12),(zwv_12_1_7 ws xs k w)),((bm 7 7),(zwv_12_1_8 ws xs k w)),((bm 7 13),(zwv_12_1_9 ws xs k w)),((bm 7 14),(zwv_12_1_10 ws xs k w)),((bm 7 15),(zwv_12_1_11 ws xs k w)),((bm 7 29),(zwv_12_1_12 ws xs k w)),((bm 7 31),(zwv_12_1_13 ws xs k w)),((bm 7 63),(zwv_12_1_14 ws xs k w)),((bm 7 127),(zwv_12_1_15 ws xs k w))] (st0 := (zwv_12_1_0 ws xs k w)) (st' := ⟨[(4,(.ptr 1 0 0 0)),(5,(i6 (wvF 12 ws k w))),(6,(dB false))],[(.var 61 [(LI ws),(LI xs),(i6 k),(i6 w)]),(.var 57 [(i6 1),(.fn (.func 58) [] []),(.fn (.func 59) [] [])]),(.var 57 [(i6 1),(.fn (.func 58) [] []),(.fn (.func 59) [] [])])]⟩)
    (p := ((((zwv_12_1_1 ws xs k w) : St) = (zwv_12_1_1 ws xs k w)∧True∧True)∧(((zwv_12_1_2 ws xs k w) : St) = (zwv_12_1_2 ws xs k w)∧True∧True)∧(((zwv_12_1_3 ws xs k w) : St) = (zwv_12_1_3 ws xs k w)∧True∧True)∧True)∧((((zwv_12_1_4 ws xs k w) : St) = (zwv_12_1_4 ws xs k w)∧True∧True)∧(((zwv_12_1_5 ws xs k w) : St) = (zwv_12_1_5 ws xs k w)∧True∧True)∧True)∧((((zwv_12_1_4 ws xs k w) : St) = (zwv_12_1_4 ws xs k w)∧True∧True)∧(((zwv_12_1_6 ws xs k w) : St) = (zwv_12_1_6 ws xs k w)∧True∧True)∧True)∧((((zwv_12_1_5 ws xs k w) : St) = (zwv_12_1_5 ws xs k w)∧True∧True)∧(((zwv_12_1_6 ws xs k w) : St) = (zwv_12_1_6 ws xs k w)∧True∧True)∧(((zwv_12_1_7 ws xs k w) : St) = (zwv_12_1_7 ws xs k w)∧callOb Try.prog 37 [(.var 61 [(LI ws),(LI xs),(i6 k),(i6 w)]),(.var 57 [(i6 0),(.v .nilf),(.v .nilf)]),(.var 57 [(i6 1),(.fn (.func 58) [] []),(.fn (.func 59) [] [])])] [(i6 (wvF 12 ws k w))] none false (dB (fitsF (wvF 12 ws k w)))∧True)∧True)∧((((zwv_12_1_8 ws xs k w) : St) = (zwv_12_1_8 ws xs k w)∧True∧True)∧True)∧((((zwv_12_1_8 ws xs k w) : St) = (zwv_12_1_8 ws xs k w)∧True∧True)∧(((zwv_12_1_9 ws xs k w) : St) = (zwv_12_1_9 ws xs k w)∧callOb Try.prog 37 [(.var 61 [(LI ws),(LI xs),(i6 k),(i6 w)]),(.var 57 [(i6 0),(.v .nilf),(.v .nilf)]),(.var 57 [(i6 1),(.fn (.func 58) [] []),(.fn (.func 59) [] [])])] [(i6 (wvF 12 ws k w))] none false (dB (fitsF (wvF 12 ws k w)))∧True)∧True)∧((((zwv_12_1_8 ws xs k w) : St) = (zwv_12_1_8 ws xs k w)∧True∧True)∧(((zwv_12_1_10 ws xs k w) : St) = (zwv_12_1_10 ws xs k w)∧callOb Try.prog 37 [(.var 61 [(LI ws),(LI xs),(i6 k),(i6 w)]),(.var 57 [(i6 0),(.v .nilf),(.v .nilf)]),(.var 57 [(i6 1),(.fn (.func 58) [] []),(.fn (.func 59) [] [])])] [(i6 (wvF 12 ws k w))] none false (dB (fitsF (wvF 12 ws k w)))∧True)∧True)∧((((zwv_12_1_9 ws xs k w) : St) = (zwv_12_1_9 ws xs k w)∧True∧True)∧(((zwv_12_1_10 ws xs k w) : St) = (zwv_12_1_10 ws xs k w)∧True∧True)∧True)∧((((zwv_12_1_11 ws xs k w) : St) = (zwv_12_1_11 ws xs k w)∧callOb Try.prog 37 [(.var 61 [(LI ws),(LI xs),(i6 k),(i6 w)]),(.var 57 [(i6 0),(.v .nilf),(.v .nilf)]),(.var 57 [(i6 1),(.fn (.func 58) [] []),(.fn (.func 59) [] [])])] [(i6 (wvF 12 ws k w))] none false (dB (fitsF (wvF 12 ws k w)))∧True)∧True)∧((((zwv_12_1_11 ws xs k w) : St) = (zwv_12_1_11 ws xs k w)∧True∧True)∧(((zwv_12_1_12 ws xs k w) : St) = (zwv_12_1_12 ws xs k w)∧True∧True)∧True)∧((((zwv_12_1_11 ws xs k w) : St) = (zwv_12_1_11 ws xs k w)∧True∧True)∧True)∧((((zwv_12_1_13 ws xs k w) : St) = (zwv_12_1_13 ws xs k w)∧True∧True)∧True)∧((((zwv_12_1_13 ws xs k w) : St) = (zwv_12_1_13 ws xs k w)∧True∧True)∧True)∧((((zwv_12_1_14 ws xs k w) : St) = (zwv_12_1_14 ws xs k w)∧True∧True)∧True)∧((((zwv_12_1_15 ws xs k w) : St) = (zwv_12_1_15 ws xs k w)∧(True∧(fitsF (wvF 12 ws k w)) = false)∧True)∧True)∧True∧True) (by kernel_rfl) (by kernel_rfl) (by kernel_rfl) (by kernel_rfl) (by kernel_rfl) (by kernel_rfl)
    ⟨⟨⟨rfl,⟨⟩,⟨⟩⟩,⟨rfl,⟨⟩,⟨⟩⟩,⟨rfl,⟨⟩,⟨⟩⟩,⟨⟩⟩,⟨⟨rfl,⟨⟩,⟨⟩⟩,⟨rfl,⟨⟩,⟨⟩⟩,⟨⟩⟩,⟨⟨rfl,⟨⟩,⟨⟩⟩,⟨rfl,⟨⟩,⟨⟩⟩,⟨⟩⟩,⟨⟨rfl,⟨⟩,⟨⟩⟩,⟨rfl,⟨⟩,⟨⟩⟩,⟨rfl,(fits_ok _),⟨⟩⟩,⟨⟩⟩,⟨⟨rfl,⟨⟩,⟨⟩⟩,⟨⟩⟩,⟨⟨rfl,⟨⟩,⟨⟩⟩,⟨rfl,(fits_ok _),⟨⟩⟩,⟨⟩⟩,⟨⟨rfl,⟨⟩,⟨⟩⟩,⟨rfl,(fits_ok _),⟨⟩⟩,⟨⟩⟩,⟨⟨rfl,⟨⟩,⟨⟩⟩,⟨rfl,⟨⟩,⟨⟩⟩,⟨⟩⟩,⟨⟨rfl,(fits_ok _),⟨⟩⟩,⟨⟩⟩,⟨⟨rfl,⟨⟩,⟨⟩⟩,⟨rfl,⟨⟩,⟨⟩⟩,⟨⟩⟩,⟨⟨rfl,⟨⟩,⟨⟩⟩,⟨⟩⟩,⟨⟨rfl,⟨⟩,⟨⟩⟩,⟨⟩⟩,⟨⟨rfl,⟨⟩,⟨⟩⟩,⟨⟩⟩,⟨⟨rfl,⟨⟩,⟨⟩⟩,⟨⟩⟩,⟨⟨rfl,⟨⟨⟩,(by first | exact h3 | simpa [wvF] using h3)⟩,⟨⟩⟩,⟨⟩⟩,⟨⟩,⟨⟩⟩ ?_
  refine Ev.ret ?_
  refine ⟨⟨⟨⟩,⟨⟩,⟨⟩,⟨⟩⟩,(?_ : ((1 : Int) = 1∧((.fn (.func 58) [] []) : D) = (.fn (.func 58) [] [])∧((.fn (.func 59) [] []) : D) = (.fn (.func 59) [] [])∧True)∧(wvF 12 ws k w) = (wvF 12 ws k w)∧false = false∧True),.inl rfl⟩
  exact ⟨⟨rfl,rfl,rfl,⟨⟩⟩,rfl,rfl,⟨⟩⟩

def zg_13_1_0 (ws xs : List Int) (k w : Int) : St := ⟨[(4,(.ptr 1 0 0 0)),(7,(.ptr 2 0 0 0)),(9,(i6 (wvF 13 ws k w)))],[(.var 61 [(LI ws),(LI xs),(i6 k),(i6 w)]),(.var 57 [(i6 0),(.v .nilf),(.v .nilf)]),(.var 57 [(i6 1),(.fn (.func 60) [] []),(.fn (.func 61) [] [])])]⟩
def zg_13_1_1 (ws xs : List Int) (k w : Int) : St := ⟨[(4,(.ptr 1 0 0 0)),(7,(.ptr 2 0 0 0)),(9,(i6 (wvF 13 ws k w))),(44,(.agg [(i6 1),(.fn (.func 60) [] []),(.fn (.func 61) [] [])]))],[(.var 61 [(LI ws),(LI xs),(i6 k),(i6 w)]),(.var 57 [(i6 0),(.v .nilf),(.v .nilf)]),(.var 57 [(i6 1),(.fn (.func 60) [] []),(.fn (.func 61) [] [])])]⟩
def zg_13_1_2 (ws xs : List Int) (k w : Int) : St := ⟨[(4,(.ptr 1 0 0 0)),(7,(.ptr 2 0 0 0)),(9,(i6 (wvF 13 ws k w))),(45,(i6 (wvF 13 ws k w)))],[(.var 61 [(LI ws),(LI xs),(i6 k),(i6 w)]),(.var 57 [(i6 0),(.v .nilf),(.v .nilf)]),(.var 57 [(i6 1),(.fn (.func 60) [] []),(.fn (.func 61) [] [])])]⟩
def zg_13_1_3 (ws xs : List Int) (k w : Int) : St := ⟨[(4,(.ptr 1 0 0 0)),(7,(.ptr 2 0 0 0)),(9,(i6 (wvF 13 ws k w))),(46,(i6 (wvF 13 ws k w)))],[(.var 61 [(LI ws),(LI xs),(i6 k),(i6 w)]),(.var 57 [(i6 0),(.v .nilf),(.v .nilf)]),(.var 57 [(i6 1),(.fn (.func 60) [] []),(.fn (.func 61) [] [])])]⟩
def zg_13_1_4 (ws xs : List Int) (k w : Int) : St := ⟨[(4,(.ptr 1 0 0 0)),(7,(.ptr 2 0 0 0)),(9,(i6 (wvF 13 ws k w))),(44,(.agg [(i6 1),(.fn (.func 60) [] []),(.fn (.func 61) [] [])])),(45,(i6 (wvF 13 ws k w)))],[(.var 61 [(LI ws),(LI xs),(i6 k),(i6 w)]),(.var 57 [(i6 0),(.v .nilf),(.v .nilf)]),(.var 57 [(i6 1),(.fn (.func 60) [] []),(.fn (.func 61) [] [])])]⟩
def zg_13_1_5 (ws xs : List Int) (k w : Int) : St := ⟨[(4,(.ptr 1 0 0 0)),(7,(.ptr 2 0 0 0)),(9,(i6 (wvF 13 ws k w))),(44,(.agg [(i6 1),(.fn (.func 60) [] []),(.fn (.func 61) [] [])])),(46,(i6 (wvF 13 ws k w)))],[(.var 61 [(LI ws),(LI xs),(i6 k),(i6 w)]),(.var 57 [(i6 0),(.v .nilf),(.v .nilf)]),(.var 57 [(i6 1),(.fn (.func 60) [] []),(.fn (.func 61) [] [])])]⟩
def zg_13_1_6 (ws xs : List Int) (k w : Int) : St := ⟨[(4,(.ptr 1 0 0 0)),(7,(.ptr 2 0 0 0)),(9,(i6 (wvF 13 ws k w))),(45,(i6 (wvF 13 ws k w))),(46,(i6 (wvF 13 ws k w)))],[(.var 61 [(LI ws),(LI xs),(i6 k),(i6 w)]),(.var 57 [(i6 0),(.v .nilf),(.v .nilf)]),(.var 57 [(i6 1),(.fn (.func 60) [] []),(.fn (.func 61) [] [])])]⟩
def zg_13_1_7 (ws xs : List Int) (k w : Int) : St := ⟨[(4,(.ptr 1 0 0 0)),(7,(.ptr 2 0 0 0)),(9,(i6 (wvF 13 ws k w))),(46,(i6 (wvF 13 ws k w))),(47,(dB (fitsF (wvF 13 ws k w))))],[(.var 61 [(LI ws),(LI xs),(i6 k),(i6 w)]),(.var 57 [(i6 0),(.v .nilf),(.v .nilf)]),(.var 57 [(i6 1),(.fn (.func 60) [] []),(.fn (.func 61) [] [])])]⟩
def zg_13_1_8 (ws xs : List Int) (k w : Int) : St := ⟨[(4,(.ptr 1 0 0 0)),(7,(.ptr 2 0 0 0)),(9,(i6 (wvF 13 ws k w))),(44,(.agg [(i6 1),(.fn (.func 60) [] []),(.fn (.func 61) [] [])])),(45,(i6 (wvF 13 ws k w))),(46,(i6 (wvF 13 ws k w)))],[(.var 61 [(LI ws),(LI xs),(i6 k),(i6 w)]),(.var 57 [(i6 0),(.v .nilf),(.v .nilf)]),(.var 57 [(i6 1),(.fn (.func 60) [] []),(.fn (.func 61) [] [])])]⟩
def zg_13_1_9 (ws xs : List Int) (k w : Int) : St := ⟨[(4,(.ptr 1 0 0 0)),(7,(.ptr 2 0 0 0)),(9,(i6 (wvF 13 ws k w))),(44,(.agg [(i6 1),(.fn (.func 60) [] []),(.fn (.func 61) [] [])])),(46,(i6 (wvF 13 ws k w))),(47,(dB (fitsF (wvF 13 ws k w))))],[(.var 61 [(LI ws),(LI xs),(i6 k),(i6 w)]),(.var 57 [(i6 0),(.v .nilf),(.v .nilf)]),(.var 57 [(i6 1),(.fn (.func 60) [] []),(.fn (.func 61) [] [])])]⟩
def zg_13_1_10 (ws xs : List Int) (k w : Int) : St := ⟨[(4,(.ptr 1 0 0 0)),(7,(.ptr 2 0 0 0)),(9,(i6 (wvF 13 ws k w))),(45,(i6 (wvF 13 ws k w))),(46,(i6 (wvF 13 ws k w))),(47,(dB (fitsF (wvF 13 ws k w))))],[(.var 61 [(LI ws),(LI xs),(i6 k),(i6 w)]),(.var 57 [(i6 0),(.v .nilf),(.v .nilf)]),(.var 57 [(i6 1),(.fn (.func 60) [] []),(.fn (.func 61) [] [])])]⟩
def zg_13_1_11 (ws xs : List Int) (k w : Int) : St := ⟨[(4,(.ptr 1 0 0 0)),(7,(.ptr 2 0 0 0)),(9,(i6 (wvF 13 ws k w))),(44,(.agg [(i6 1),(.fn (.func 60) [] []),(.fn (.func 61) [] [])])),(45,(i6 (wvF 13 ws k w))),(46,(i6 (wvF 13 ws k w))),(47,(dB (fitsF (wvF 13 ws k w))))],[(.var 61 [(LI ws),(LI xs),(i6 k),(i6 w)]),(.var 57 [(i6 0),(.v .nilf),(.v .nilf)]),(.var 57 [(i6 1),(.fn (.func 60) [] []),(.fn (.func 61) [] [])])]⟩
def zg_13_1_12 (ws xs : List Int) (k w : Int) : St := ⟨[(4,(.ptr 1 0 0 0)),(7,(.ptr 2 0 0 0)),(9,(i6 (wvF 13 ws k w))),(44,(.agg [(i6 1),(.fn (.func 60) [] []),(.fn (.func 61) [] [])])),(46,(i6 (wvF 13 ws k w))),(47,(dB (fitsF (wvF 13 ws k w))))],[(.var 61 [(LI ws),(LI xs),(i6 k),(i6 w)]),(.var 57 [(i6 1),(.fn (.func 60) [] []),(.fn (.func 61) [] [])]),(.var 57 [(i6 1),(.fn (.func 60) [] []),(.fn (.func 61) [] [])])]⟩
def zg_13_1_13 (ws xs : List Int) (k w : Int) : St := ⟨[(4,(.ptr 1 0 0 0)),(7,(.ptr 2 0 0 0)),(9,(i6 (wvF 13 ws k w))),(44,(.agg [(i6 1),(.fn (.func 60) [] []),(.fn (.func 61) [] [])])),(45,(i6 (wvF 13 ws k w))),(46,(i6 (wvF 13 ws k w))),(47,(dB (fitsF (wvF 13 ws k w))))],[(.var 61 [(LI ws),(LI xs),(i6 k),(i6 w)]),(.var 57 [(i6 1),(.fn (.func 60) [] []),(.fn (.func 61) [] [])]),(.var 57 [(i6 1),(.fn (.func 60) [] []),(.fn (.func 61) [] [])])]⟩
def zg_13_1_14 (ws xs : List Int) (k w : Int) : St := ⟨[(4,(.ptr 1 0 0 0)),(5,(i6 (wvF 13 ws k w))),(7,(.ptr 2 0 0 0)),(9,(i6 (wvF 13 ws k w))),(44,(.agg [(i6 1),(.fn (.func 60) [] []),(.fn (.func 61) [] [])])),(45,(i6 (wvF 13 ws k w))),(46,(i6 (wvF 13 ws k w))),(47,(dB (fitsF (wvF 13 ws k w))))],[(.var 61 [(LI ws),(LI xs),(i6 k),(i6 w)]),(.var 57 [(i6 1),(.fn (.func 60) [] []),(.fn (.func 61) [] [])]),(.var 57 [(i6 1),(.fn (.func 60) [] []),(.fn (.func 61) [] [])])]⟩
def zg_13_1_15 (ws xs : List Int) (k w : Int) : St := ⟨[(4,(.ptr 1 0 0 0)),(5,(i6 (wvF 13 ws k w))),(6,(dB true))],[(.var 61 [(LI ws),(LI xs),(i6 k),(i6 w)]),(.var 57 [(i6 1),(.fn (.func 60) [] []),(.fn (.func 61) [] [])]),(.var 57 [(i6 1),(.fn (.func 60) [] []),(.fn (.func 61) [] [])])]⟩
set_option maxRecDepth 100000 in
theorem width_good_13 (ws xs : List Int) (k w : Int) (hw : ws.length ≤ 9223372036854775807) (h : okF 13 ws k w = true) : CallOk Try.prog 27 [(i6 13),(.agg [(LI ws),(LI xs),(i6 k),(i6 w)])] [] true (.tup [(.agg [(i6 1),(.fn (.func 60) [] []),(.fn (.func 61) [] [])]),(i6 (wvF 13 ws k w)),(dB true)]) [] := by
  refine CallOk.of_ev Try.func27 rfl rfl rfl ?_
  rintro ⟨_,W,S0,_,susp,_⟩ rfl rfl rfl
  obtain ⟨h1,h2,h3⟩ := ok_yes h
  have hA : arityF 13 = 1 := by decide
  rw [hA] at h1
  refine Ev.seq ?_
  refine Ev.reg [] [0,3,4] (st' := ⟨[(0,(i6 13)),(3,(.ptr 0 0 0 0)),(4,(.ptr 1 0 0 0))],[(.var 61 [(LI ws),(LI xs),(i6 k),(i6 w)]),(.var 57 [(i6 0),(.v .nilf),(.v .nilf)])]⟩)
    (p := True∧True∧True∧True∧True) (by kernel_rfl)
    ⟨⟨⟩,⟨⟩,⟨⟩,⟨⟩,⟨⟩⟩ ?_
  refine Ev.seq ?_
  refine Ev.reg [(0,.call none false (.v (.mp simpleM))),(2,.idx none)] [0,3,4,7,8] (st' := ⟨[(0,(i6 13)),(3,(.ptr 0 0 0 0)),(4,(.ptr 1 0 0 0)),(7,(.ptr 2 0 0 0)),(8,(dB false))],[(.var 61 [(LI ws),(LI xs),(i6 k),(i6 w)]),(.var 57 [(i6 0),(.v .nilf),(.v .nilf)]),(.var 57 [(i6 0),(.v .nilf),(.v .nilf)])]⟩)
    (p := callOb Try.prog 33 [(.var 61 [(LI ws),(LI xs),(i6 k),(i6 w)]),(.var 57 [(i6 0),(.v .nilf),(.v .nilf)])] [] none false (.v (.mp simpleM))∧True∧(∀ e' ∈ simpleM,13 ≠ e'.1)∧True∧True∧True∧True∧True∧True∧True) (by kernel_rfl)
    ⟨simple_ok,⟨⟩,(by decide),⟨⟩,⟨⟩,⟨⟩,⟨⟩,⟨⟩,⟨⟩,⟨⟩⟩ ?_
  refine Ev.seq ?_
  refine Ev.seq ?_
  refine Ev.reg [] [0,3,4,7,8,17] (st' := ⟨[(0,(i6 13)),(3,(.ptr 0 0 0 0)),(4,(.ptr 1 0 0 0)),(7,(.ptr 2 0 0 0)),(8,(dB false)),(17,(dB true))],[(.var 61 [(LI ws),(LI xs),(i6 k),(i6 w)]),(.var 57 [(i6 0),(.v .nilf),(.v .nilf)]),(.var 57 [(i6 0),(.v .nilf),(.v .nilf)])]⟩)
    (p := True∧True∧True) (by kernel_rfl)
    ⟨⟨⟩,⟨⟩,⟨⟩⟩ ?_
  refine Ev.cond true rfl (fun _ => ?_) (fun h => (by cases h))
  refine Ev.reg [(0,.call none false (.v (.mp othersM))),(2,.idx (some 4))] [3,4,7,8] (st' := ⟨[(3,(.ptr 0 0 0 0)),(4,(.ptr 1 0 0 0)),(7,(.ptr 2 0 0 0)),(8,(dB true))],[(.var 61 [(LI ws),(LI xs),(i6 k),(i6 w)]),(.var 57 [(i6 0),(.v .nilf),(.v .nilf)]),(.var 57 [(i6 1),(.fn (.func 60) [] []),(.fn (.func 61) [] [])])]⟩)
    (p := callOb Try.prog 34 [(.var 61 [(LI ws),(LI xs),(i6 k),(i6 w)]),(.var 57 [(i6 0),(.v .nilf),(.v .nilf)]),(.var 57 [(i6 0),(.v .nilf),(.v .nilf)])] [] none false (.v (.mp othersM))∧True∧((13 : Int) = 13∧∀ e' ∈ othersM.take 4,(13 : Int) ≠ e'.1)∧True∧True∧True∧True∧True∧True) (by kernel_rfl)
    ⟨others_ok,⟨⟩,(by decide),⟨⟩,⟨⟩,⟨⟩,⟨⟩,⟨⟩,⟨⟩⟩ ?_
  refine Ev.seq ?_
  refine Ev.seq ?_
  refine Ev.reg [(8,.val (dB false)),(13,.call none false (dB (!(ws.all fitsF)))),(14,.val (dB false))] [3,4,7,38] (st' := ⟨[(3,(.ptr 0 0 0 0)),(4,(.ptr 1 0 0 0)),(7,(.ptr 2 0 0 0)),(38,(dB false))],[(.var 61 [(LI ws),(LI xs),(i6 k),(i6 w)]),(.var 57 [(i6 0),(.v .nilf),(.v .nilf)]),(.var 57 [(i6 1),(.fn (.func 60) [] []),(.fn (.func 61) [] [])])]⟩)
    (p := True∧True∧True∧True∧True∧True∧True∧True∧(True∧(((ws.length : Nat) : Int) != 1) = false)∧True∧True∧True∧True∧callOb Try.prog 35 [(.var 61 [(LI ws),(LI xs),(i6 k),(i6 w)]),(.var 57 [(i6 0),(.v .nilf),(.v .nilf)]),(.var 57 [(i6 1),(.fn (.func 60) [] []),(.fn (.func 61) [] [])])] [(LI ws),(.fn (.func 36) [] [])] none false (dB (!(ws.all fitsF)))∧(True∧(!(ws.all fitsF)) = false)∧True) (by kernel_rfl)
    ⟨⟨⟩,⟨⟩,⟨⟩,⟨⟩,⟨⟩,⟨⟩,⟨⟩,⟨⟩,⟨⟨⟩,(by rw [h1]; rfl)⟩,⟨⟩,⟨⟩,⟨⟩,⟨⟩,(contains_ok _ (by first | omega | (simp; first | done | omega))),⟨⟨⟩,(by rw [h2]; rfl)⟩,⟨⟩⟩ ?_
  refine Ev.cond false rfl (fun h => (by cases h)) (fun _ => ?_)
  refine Ev.skip ?_
  refine Ev.seq ?_
  refine Ev.reg [(3,.call none false (i6 (if w < ws.getD 0 0 then 0 else w))),(4,.val (i6 (wvF 13 ws k w)))] [4,7,9] (st' := ⟨[(4,(.ptr 1 0 0 0)),(7,(.ptr 2 0 0 0)),(9,(i6 (wvF 13 ws k w)))],[(.var 61 [(LI ws),(LI xs),(i6 k),(i6 w)]),(.var 57 [(i6 0),(.v .nilf),(.v .nilf)]),(.var 57 [(i6 1),(.fn (.func 60) [] []),(.fn (.func 61) [] [])])]⟩)
    (p := True∧True∧True∧callOb Try.prog 60 [(.var 61 [(LI ws),(LI xs),(i6 k),(i6 w)]),(.var 57 [(i6 0),(.v .nilf),(.v .nilf)]),(.var 57 [(i6 1),(.fn (.func 60) [] []),(.fn (.func 61) [] [])])] [(.agg [(LI ws),(LI xs),(i6 k),(i6 w)])] none false (i6 (if w < ws.getD 0 0 then 0 else w))∧(True∧(if w < ws.getD 0 0 then 0 else w) = (wvF 13 ws k w))∧True) (by kernel_rfl)
    ⟨⟨⟩,⟨⟩,⟨⟩,(wext_ok _ _ _ _ (by omega) (by assumption)),⟨⟨⟩,(by first | rfl | simp [wvF])⟩,⟨⟩⟩ ?_
  refine Ev.seq ?_
  refine Ev.any [(3,.call none false (dB (fitsF (wvF 13 ws k w)))),(6,.val (dB true))] [((bm 7 0),(zg_13_1_0 ws xs k w)),((bm 7 1),(zg_13_1_1 ws xs k w)),((bm 7 2),(zg_13_1_2 ws xs k w)),((bm 7 4),(zg_13_1_3 ws xs k w)),((bm 7 3),(zg_13_1_4 ws xs k w)),((bm 7 5),(zg_13_1_5 ws xs k w)),((bm 7 6),(zg_13_1_6 ws xs k w)),((bm 7 12),(zg_13_1_7 ws xs k w)),((bm 7 7),(zg_13_1_8 ws xs k w)),((bm 7 13),(zg_13_1_9 ws xs k w)),((bm 7 14),(zg_13_1_10 ws xs k w)),((bm 7 15),(zg_13_1_11 ws xs k w)),((bm 7 29),(zg_13_1_12 ws xs k w)),((bm 7 31),(zg_13_1_13 ws xs k w)),((bm 7 63),(zg_13_1_14 ws xs k w)),((bm 7 127),(zg_13_1_15 ws xs k w))] (st0 := (zg_13_1_0 ws xs k w)) (st' := ⟨[(4,(.ptr 1 0 0 0)),(5,(i6 (wvF 13 ws k w))),(6,(dB true))],[(.var 61 [(LI ws),(LI xs),(i6 k),(i6 w)]),(.var 57 [(i6 1),(.fn (.func 60) [] []),(.fn (.func 61) [] [])]),(.var 57 [(i6 1),(.fn (.func 60) [] []),(.fn (.func 61) [] [])])]⟩)
    (p := ((((zg_13_1_1 ws xs k w) : St) = (zg_13_1_1 ws xs k w)∧True∧True)∧(((zg_13_1_2 ws xs k w) : St) = (zg_13_1_2 ws xs k w)∧True∧True)∧(((zg_13_1_3 ws xs k w) : St) = (zg_13_1_3 ws xs k w)∧True∧True)∧True)∧((((zg_13_1_4 ws xs k w) : St) = (zg_13_1_4 ws xs k w)∧True∧True)∧(((zg_13_1_5 ws xs k w) : St) = (zg_13_1_5 ws xs k w)∧True∧True)∧True)∧((((zg_13_1_4 ws xs k w) : St) = (zg_13_1_4 ws xs k w)∧True∧True)∧(((zg_13_1_6 ws xs k w) : St) = (zg_13_1_6 ws xs k w)∧True∧True)∧True)∧((((zg_13_1_5 ws xs k w) : St) = (zg_13_1_5 ws xs k w)∧True∧True)∧(((zg_13_1_6 ws xs k w) : St) = (zg_13_1_6 ws xs k w)∧True∧True)∧(((zg_13_1_7 ws xs k w) : St) = (zg_13_1_7 ws xs k w)∧callOb Try.prog 37 [(.var 61 [(LI ws),(LI xs),(i6 k),(i6 w)]),(.var 57 [(i6 0),(.v .nilf),(.v .nilf)]),(.var 57 [(i6 1),(.fn (.func 60) [] []),(.fn (.func 61) [] [])])] [(i6 (wvF 13 ws k w))] none false (dB (fitsF (wvF 13 ws k w)))∧True)∧True)∧((((zg_13_1_8 ws xs k w) : St) = (zg_13_1_8 ws xs k w)∧True∧True)∧True)∧((((zg_13_1_8 ws xs k w) : St) = (zg_13_1_8 ws xs k w)∧True∧True)∧(((zg_13_1_9 ws xs k w) : St) = (zg_13_1_9 ws xs k w)∧callOb Try.prog 37 [(.var 61 [(LI ws),(LI xs),(i6 k),(i6 w)]),(.var 57 [(i6 0),(.v .nilf),(.v .nilf)]),(.var 57 [(i6 1),(.fn (.func 60) [] []),(.fn (.func 61) [] [])])] [(i6 (wvF 13 ws k w))] none false (dB (fitsF (wvF 13 ws k w)))∧True)∧True)∧((((zg_13_1_8 ws xs k w) : St) = (zg_13_1_8 ws xs k w)∧True∧True)∧(((zg_13_1_10 ws xs k w) : St) = (zg_13_1_10 ws xs k w)∧callOb Try.prog 37 [(.var 61 [(LI ws),(LI xs),(i6 k),(i6 w)]),(.var 57 [(i6 0),(.v .nilf),(.v .nilf)]),(.var 57 [(i6 1),(.fn (.func 60) [] []),(.fn (.func 61) [] [])])] [(i6 (wvF 13 ws k w))] none false (dB (fitsF (wvF 13 ws k w)))∧True)∧True)∧((((zg_13_1_9 ws xs k w) : St) = (zg_13_1_9 ws xs k w)∧True∧True)∧(((zg_13_1_10 ws xs k w) : St) = (zg_13_1_10 ws xs k w)∧True∧True)∧True)∧((((zg_13_1_11 ws xs k w) : St) = (zg_13_1_11 ws xs k w)∧callOb Try.prog 37 [(.var 61 [(LI ws),(LI xs),(i6 k),(i6 w)]),(.var 57 [(i6 0),(.v .nilf),(.v .nilf)]),(.var 57 [(i6 1),(.fn (.func 60) [] []),(.fn (.func 61) [] [])])] [(i6 (wvF 13 ws k w))] none false (dB (fitsF (wvF 13 ws k w)))∧True)∧True)∧((((zg_13_1_11 ws xs k w) : St) = (zg_13_1_11 ws xs k w)∧True∧True)∧(((zg_13_1_12 ws xs k w) : St) = (zg_13_1_12 ws xs k w)∧True∧True)∧True)∧((((zg_13_1_11 ws xs k w) : St) = (zg_13_1_11 ws xs k w)∧True∧True)∧True)∧((((zg_13_1_13 ws xs k w) : St) = (zg_13_1_13 ws xs k w)∧True∧True)∧True)∧((((zg_13_1_13 ws xs k w) : St) = (zg_13_1_13 ws xs k w)∧True∧True)∧True)∧((((zg_13_1_14 ws xs k w) : St) = (zg_13_1_14 ws xs k w)∧True∧True)∧True)∧((((zg_13_1_15 ws xs k w) : St) = (zg_13_1_15 ws xs k w)∧(True∧(fitsF (wvF 13 ws k w)) = true)∧True)∧True)∧True∧True) (by kernel_rfl) (by kernel_rfl) (by kernel_rfl) (by kernel_rfl) (by kernel_rfl) (by kernel_rfl)
    ⟨⟨⟨rfl,⟨⟩,⟨⟩⟩,⟨rfl,⟨⟩,⟨⟩⟩,⟨rfl,⟨⟩,⟨⟩⟩,⟨⟩⟩,⟨⟨rfl,⟨⟩,⟨⟩⟩,⟨rfl,⟨⟩,⟨⟩⟩,⟨⟩⟩,⟨⟨rfl,⟨⟩,⟨⟩⟩,⟨rfl,⟨⟩,⟨⟩⟩,⟨⟩⟩,⟨⟨rfl,⟨⟩,⟨⟩⟩,⟨rfl,⟨⟩,⟨⟩⟩,⟨rfl,(fits_ok _),⟨⟩⟩,⟨⟩⟩,⟨⟨rfl,⟨⟩,⟨⟩⟩,⟨⟩⟩,⟨⟨rfl,⟨⟩,⟨⟩⟩,⟨rfl,(fits_ok _),⟨⟩⟩,⟨⟩⟩,⟨⟨rfl,⟨⟩,⟨⟩⟩,⟨rfl,(fits_ok _),⟨⟩⟩,⟨⟩⟩,⟨⟨rfl,⟨⟩,⟨⟩⟩,⟨rfl,⟨⟩,⟨⟩⟩,⟨⟩⟩,⟨⟨rfl,(fits_ok _),⟨⟩⟩,⟨⟩⟩,⟨⟨rfl,⟨⟩,⟨⟩⟩,⟨rfl,⟨⟩,⟨⟩⟩,⟨⟩⟩,⟨⟨rfl,⟨⟩,⟨⟩⟩,⟨⟩⟩,⟨⟨rfl,⟨⟩,⟨⟩⟩,⟨⟩⟩,⟨⟨rfl,⟨⟩,⟨⟩⟩,⟨⟩⟩,⟨⟨rfl,⟨⟩,⟨⟩⟩,⟨⟩⟩,⟨⟨rfl,⟨⟨⟩,(by first | exact h3 | simpa [wvF] using h3)⟩,⟨⟩⟩,⟨⟩⟩,⟨⟩,⟨⟩⟩ ?_
  refine Ev.ret ?_
  refine ⟨⟨⟨⟩,⟨⟩,⟨⟩,⟨⟩⟩,(?_ : ((1 : Int) = 1∧((.fn (.func 60) [] []) : D) = (.fn (.func 60) [] [])∧((.fn (.func 61) [] []) : D) = (.fn (.func 61) [] [])∧True)∧(wvF 13 ws k w) = (wvF 13 ws k w)∧true = true∧True),.inl rfl⟩
  exact ⟨⟨rfl,rfl,rfl,⟨⟩⟩,rfl,rfl,⟨⟩⟩

set_option maxRecDepth 100000 in
theorem width_bad_13 (ws xs : List Int) (k w : Int) (hw : ws.length ≤ 9223372036854775807) (h : okB 13 ws = false) : CallOk Try.prog 27 [(i6 13),(.agg [(LI ws),(LI xs),(i6 k),(i6 w)])] [] true (.tup [(.agg [(i6 0),(.v .nilf),(.v .nilf)]),(i6 0),(dB false)]) [] := by
  refine CallOk.of_ev Try.func27 rfl rfl rfl ?_
  rintro ⟨_,W,S0,_,susp,_⟩ rfl rfl rfl
  refine Ev.seq ?_
  refine Ev.reg [] [0,3,4] (st' := ⟨[(0,(i6 13)),(3,(.ptr 0 0 0 0)),(4,(.ptr 1 0 0 0))],[(.var 61 [(LI ws),(LI xs),(i6 k),(i6 w)]),(.var 57 [(i6 0),(.v .nilf),(.v .nilf)])]⟩)
    (p := True∧True∧True∧True∧True) (by kernel_rfl)
    ⟨⟨⟩,⟨⟩,⟨⟩,⟨⟩,⟨⟩⟩ ?_
  refine Ev.seq ?_
  refine Ev.reg [(0,.call none false (.v (.mp simpleM))),(2,.idx none)] [0,3,4,7,8] (st' := ⟨[(0,(i6 13)),(3,(.ptr 0 0 0 0)),(4,(.ptr 1 0 0 0)),(7,(.ptr 2 0 0 0)),(8,(dB false))],[(.var 61 [(LI ws),(LI xs),(i6 k),(i6 w)]),(.var 57 [(i6 0),(.v .nilf),(.v .nilf)]),(.var 57 [(i6 0),(.v .nilf),(.v .nilf)])]⟩)
    (p := callOb Try.prog 33 [(.var 61 [(LI ws),(LI xs),(i6 k),(i6 w)]),(.var 57 [(i6 0),(.v .nilf),(.v .nilf)])] [] none false (.v (.mp simpleM))∧True∧(∀ e' ∈ simpleM,13 ≠ e'.1)∧True∧True∧True∧True∧True∧True∧True) (by kernel_rfl)
    ⟨simple_ok,⟨⟩,(by decide),⟨⟩,⟨⟩,⟨⟩,⟨⟩,⟨⟩,⟨⟩,⟨⟩⟩ ?_
  refine Ev.seq ?_
  refine Ev.seq ?_
  refine Ev.reg [] [0,3,4,7,8,17] (st' := ⟨[(0,(i6 13)),(3,(.ptr 0 0 0 0)),(4,(.ptr 1 0 0 0)),(7,(.ptr 2 0 0 0)),(8,(dB false)),(17,(dB true))],[(.var 61 [(LI ws),(LI xs),(i6 k),(i6 w)]),(.var 57 [(i6 0),(.v .nilf),(.v .nilf)]),(.var 57 [(i6 0),(.v .nilf),(.v .nilf)])]⟩)
    (p := True∧True∧True) (by kernel_rfl)
    ⟨⟨⟩,⟨⟩,⟨⟩⟩ ?_
  refine Ev.cond true rfl (fun _ => ?_) (fun h => (by cases h))
  refine Ev.reg [(0,.call none false (.v (.mp othersM))),(2,.idx (some 4))] [3,4,7,8] (st' := ⟨[(3,(.ptr 0 0 0 0)),(4,(.ptr 1 0 0 0)),(7,(.ptr 2 0 0 0)),(8,(dB true))],[(.var 61 [(LI ws),(LI xs),(i6 k),(i6 w)]),(.var 57 [(i6 0),(.v .nilf),(.v .nilf)]),(.var 57 [(i6 1),(.fn (.func 60) [] []),(.fn (.func 61) [] [])])]⟩)
    (p := callOb Try.prog 34 [(.var 61 [(LI ws),(LI xs),(i6 k),(i6 w)]),(.var 57 [(i6 0),(.v .nilf),(.v .nilf)]),(.var 57 [(i6 0),(.v .nilf),(.v .nilf)])] [] none false (.v (.mp othersM))∧True∧((13 : Int) = 13∧∀ e' ∈ othersM.take 4,(13 : Int) ≠ e'.1)∧True∧True∧True∧True∧True∧True) (by kernel_rfl)
    ⟨others_ok,⟨⟩,(by decide),⟨⟩,⟨⟩,⟨⟩,⟨⟩,⟨⟩,⟨⟩⟩ ?_
  refine Ev.seq ?_
  refine Ev.seq ?_
  rcases okB_no h with h1 | ⟨h1,h2⟩
  · skip
    have hA : arityF 13 = 1 := by decide
    rw [hA] at h1
    refine Ev.reg [(8,.val (dB true))] [3,4,7,38] (st' := ⟨[(3,(.ptr 0 0 0 0)),(4,(.ptr 1 0 0 0)),(7,(.ptr 2 0 0 0)),(38,(dB true))],[(.var 61 [(LI ws),(LI xs),(i6 k),(i6 w)]),(.var 57 [(i6 0),(.v .nilf),(.v .nilf)]),(.var 57 [(i6 1),(.fn (.func 60) [] []),(.fn (.func 61) [] [])])]⟩)
      (p := True∧True∧True∧True∧True∧True∧True∧True∧(True∧(((ws.length : Nat) : Int) != 1) = true)∧True∧True∧True∧True∧True∧True∧True) (by kernel_rfl)
      ⟨⟨⟩,⟨⟩,⟨⟩,⟨⟩,⟨⟩,⟨⟩,⟨⟩,⟨⟩,⟨⟨⟩,(by exact bne_iff_ne.2 (by omega))⟩,⟨⟩,⟨⟩,⟨⟩,⟨⟩,⟨⟩,⟨⟩,⟨⟩⟩ ?_
    refine Ev.cond true rfl (fun _ => ?_) (fun h => (by cases h))
    refine Ev.seq ?_
    refine Ev.reg [] [4,5,6] (st' := ⟨[(4,(.ptr 1 0 0 0)),(5,(i6 0)),(6,(dB false))],[(.var 61 [(LI ws),(LI xs),(i6 k),(i6 w)]),(.var 57 [(i6 0),(.v .nilf),(.v .nilf)]),(.var 57 [(i6 1),(.fn (.func 60) [] []),(.fn (.func 61) [] [])])]⟩)
      (p := True∧True∧True∧True∧True) (by kernel_rfl)
      ⟨⟨⟩,⟨⟩,⟨⟩,⟨⟩,⟨⟩⟩ ?_
    refine Ev.ret ?_
    refine ⟨⟨⟨⟩,⟨⟩,⟨⟩,⟨⟩⟩,(?_ : ((0 : Int) = 0∧True∧True∧True)∧(0 : Int) = 0∧false = false∧True),.inl rfl⟩
    exact ⟨⟨rfl,⟨⟩,⟨⟩,⟨⟩⟩,rfl,rfl,⟨⟩⟩
  · skip
    have hA : arityF 13 = 1 := by decide
    rw [hA] at h1
    refine Ev.reg [(8,.val (dB false)),(13,.call none false (dB (!(ws.all fitsF)))),(14,.val (dB true))] [3,4,7,38] (st' := ⟨[(3,(.ptr 0 0 0 0)),(4,(.ptr 1 0 0 0)),(7,(.ptr 2 0 0 0)),(38,(dB true))],[(.var 61 [(LI ws),(LI xs),(i6 k),(i6 w)]),(.var 57 [(i6 0),(.v .nilf),(.v .nilf)]),(.var 57 [(i6 1),(.fn (.func 60) [] []),(.fn (.func 61) [] [])])]⟩)
      (p := True∧True∧True∧True∧True∧True∧True∧True∧(True∧(((ws.length : Nat) : Int) != 1) = false)∧True∧True∧True∧True∧callOb Try.prog 35 [(.var 61 [(LI ws),(LI xs),(i6 k),(i6 w)]),(.var 57 [(i6 0),(.v .nilf),(.v .nilf)]),(.var 57 [(i6 1),(.fn (.func 60) [] []),(.fn (.func 61) [] [])])] [(LI ws),(.fn (.func 36) [] [])] none false (dB (!(ws.all fitsF)))∧(True∧(!(ws.all fitsF)) = true)∧True) (by kernel_rfl)
      ⟨⟨⟩,⟨⟩,⟨⟩,⟨⟩,⟨⟩,⟨⟩,⟨⟩,⟨⟩,⟨⟨⟩,(by rw [h1]; rfl)⟩,⟨⟩,⟨⟩,⟨⟩,⟨⟩,(contains_ok _ (by first | omega | (simp; first | done | omega))),⟨⟨⟩,(by rw [h2]; rfl)⟩,⟨⟩⟩ ?_
    refine Ev.cond true rfl (fun _ => ?_) (fun h => (by cases h))
    refine Ev.seq ?_
    refine Ev.reg [] [4,5,6] (st' := ⟨[(4,(.ptr 1 0 0 0)),(5,(i6 0)),(6,(dB false))],[(.var 61 [(LI ws),(LI xs),(i6 k),(i6 w)]),(.var 57 [(i6 0),(.v .nilf),(.v .nilf)]),(.var 57 [(i6 1),(.fn (.func 60) [] []),(.fn (.func 61) [] [])])]⟩)
      (p := True∧True∧True∧True∧True) (by kernel_rfl)
      ⟨⟨⟩,⟨⟩,⟨⟩,⟨⟩,⟨⟩⟩ ?_
    refine Ev.ret ?_
    refine ⟨⟨⟨⟩,⟨⟩,⟨⟩,⟨⟩⟩,(?_ : ((0 : Int) = 0∧True∧True∧True)∧(0 : Int) = 0∧false = false∧True),.inl rfl⟩
    exact ⟨⟨rfl,⟨⟩,⟨⟩,⟨⟩⟩,rfl,rfl,⟨⟩⟩

def zwv_13_1_0 (ws xs : List Int) (k w : Int) : St := ⟨[(4,(.ptr 1 0 0 0)),(7,(.ptr 2 0 0 0)),(9,(i6 (wvF 13 ws k w)))],[(.var 61 [(LI ws),(LI xs),(i6 k),(i6 w)]),(.var 57 [(i6 0),(.v .nilf),(.v .nilf)]),(.var 57 [(i6 1),(.fn (.func 60) [] []),(.fn (.func 61) [] [])])]⟩
def zwv_13_1_1 (ws xs : List Int) (k w : Int) : St := ⟨[(4,(.ptr 1 0 0 0)),(7,(.ptr 2 0 0 0)),(9,(i6 (wvF 13 ws k w))),(44,(.agg [(i6 1),(.fn (.func 60) [] []),(.fn (.func 61) [] [])]))],[(.var 61 [(LI ws),(LI xs),(i6 k),(i6 w)]),(.var 57 [(i6 0),(.v .nilf),(.v .nilf)]),(.var 57 [(i6 1),(.fn (.func 60) [] []),(.fn (.func 61) [] [])])]⟩
def zwv_13_1_2 (ws xs : List Int) (k w : Int) : St := ⟨[(4,(.ptr 1 0 0 0)),(7,(.ptr 2 0 0 0)),(9,(i6 (wvF 13 ws k w))),(45,(i6 (wvF 13 ws k w)))],[(.var 61 [(LI ws),(LI xs),(i6 k),(i6 w)]),(.var 57 [(i6 0),(.v .nilf),(.v .nilf)]),(.var 57 [(i6 1),(.fn (.func 60) [] []),(.fn (.func 61) [] [])])]⟩
def zwv_13_1_3 (ws xs : List Int) (k w : Int) : St := ⟨[(4,(.ptr 1 0 0 0)),(7,(.ptr 2 0 0 0)),(9,(i6 (wvF 13 ws k w))),(46,(i6 (wvF 13 ws k w)))],[(.var 61 [(LI ws),(LI xs),(i6 k),(i6 w)]),(.var 57 [(i6 0),(.v .nilf),(.v .nilf)]),(.var 57 [(i6 1),(.fn (.func 60) [] []),(.fn (.func 61) [] [])])]⟩
def zwv_13_1_4 (ws xs : List Int) (k w : Int) : St := ⟨[(4,(.ptr 1 0 0 0)),(7,(.ptr 2 0 0 0)),(9,(i6 (wvF 13 ws k w))),(44,(.agg [(i6 1),(.fn (.func 60) [] []),(.fn (.func 61) [] [])])),(45,(i6 (wvF 13 ws k w)))],[(.var 61 [(LI ws),(LI xs),(i6 k),(i6 w)]),(.var 57 [(i6 0),(.v .nilf),(.v .nilf)]),(.var 57 [(i6 1),(.fn (.func 60) [] []),(.fn (.func 61) [] [])])]⟩
def zwv_13_1_5 (ws xs : List Int) (k w : Int) : St := ⟨[(4,(.ptr 1 0 0 0)),(7,(.ptr 2 0 0 0)),(9,(i6 (wvF 13 ws k w))),(44,(.agg [(i6 1),(.fn (.func 60) [] []),(.fn (.func 61) [] [])])),(46,(i6 (wvF 13 ws k w)))],[(.var 61 [(LI ws),(LI xs),(i6 k),(i6 w)]),(.var 57 [(i6 0),(.v .nilf),(.v .nilf)]),(.var 57 [(i6 1),(.fn (.func 60) [] []),(.fn (.func 61) [] [])])]⟩
def zwv_13_1_6 (ws xs : List Int) (k w : Int) : St := ⟨[(4,(.ptr 1 0 0 0)),(7,(.ptr 2 0 0 0)),(9,(i6 (wvF 13 ws k w))),(45,(i6 (wvF 13 ws k w))),(46,(i6 (wvF 13 ws k w)))],[(.var 61 [(LI ws),(LI xs),(i6 k),(i6 w)]),(.var 57 [(i6 0),(.v .nilf),(.v .nilf)]),(.var 57 [(i6 1),(.fn (.func 60) [] []),(.fn (.func 61) [] [])])]⟩
def zwv_13_1_7 (ws xs : List Int) (k w : Int) : St := ⟨[(4,(.ptr 1 0 0 0)),(7,(.ptr 2 0 0 0)),(9,(i6 (wvF 13 ws k w))),(46,(i6 (wvF 13 ws k w))),(47,(dB (fitsF (wvF 13 ws k w))))],[(.var 61 [(LI ws),(LI xs),(i6 k),(i6 w)]),(.var 57 [(i6 0),(.v .nilf),(.v .nilf)]),(.var 57 [(i6 1),(.fn (.func 60) [] []),(.fn (.func 61) [] [])])]⟩
def zwv_13_1_8 (ws xs : List Int) (k w : Int) : St := ⟨[(4,(.ptr 1 0 0 0)),(7,(.ptr 2 0 0 0)),(9,(i6 (wvF 13 ws k w))),(44,(.agg [(i6 1),(.fn (.func 60) [] []),(.fn (.func 61) [] [])])),(45,(i6 (wvF 13 ws k w))),(46,(i6 (wvF 13 ws k w)))],[(.var 61 [(LI ws),(LI xs),(i6 k),(i6 w)]),(.var 57 [(i6 0),(.v .nilf),(.v .nilf)]),(.var 57 [(i6 1),(.fn (.func 60) [] []),(.fn (.func 61) [] [])])]⟩
def zwv_13_1_9 (ws xs : List Int) (k w : Int) : St := ⟨[(4,(.ptr 1 0 0 0)),(7,(.ptr 2 0 0 0)),(9,(i6 (wvF 13 ws k w))),(44,(.agg [(i6 1),(.fn (.func 60) [] []),(.fn (.func 61) [] [])])),(46,(i6 (wvF 13 ws k w))),(47,(dB (fitsF (wvF 13 ws k w))))],[(.var 61 [(LI ws),(LI xs),(i6 k),(i6 w)]),(.var 57 [(i6 0),(.v .nilf),(.v .nilf)]),(.var 57 [(i6 1),(.fn (.func 60) [] []),(.fn (.func 61) [] [])])]⟩
def zwv_13_1_10 (ws xs : List Int) (k w : Int) : St := ⟨[(4,(.ptr 1 0 0 0)),(7,(.ptr 2 0 0 0)),(9,(i6 (wvF 13 ws k w))),(45,(i6 (wvF 13 ws k w))),(46,(i6 (wvF 13 ws k w))),(47,(dB (fitsF (wvF 13 ws k w))))],[(.var 61 [(LI ws),(LI xs),(i6 k),(i6 w)]),(.var 57 [(i6 0),(.v .nilf),(.v .nilf)]),(.var 57 [(i6 1),(.fn (.func 60) [] []),(.fn (.func 61) [] [])])]⟩
def zwv_13_1_11 (ws xs : List Int) (k w : Int) : St := ⟨[(4,(.ptr 1 0 0 0)),(7,(.ptr 2 0 0 0)),(9,(i6 (wvF 13 ws k w))),(44,(.agg [(i6 1),(.fn (.func 60) [] []),(.fn (.func 61) [] [])])),(45,(i6 (wvF 13 ws k w))),(46,(i6 (wvF 13 ws k w))),(47,(dB (fitsF (wvF 13 ws k w))))],[(.var 61 [(LI ws),(LI xs),(i6 k),(i6 w)]),(.var 57 [(i6 0),(.v .nilf),(.v .nilf)]),(.var 57 [(i6 1),(.fn (.func 60) [] []),(.fn (.func 61) [] [])])]⟩
def zwv_13_1_12 (ws xs : List Int) (k w : Int) : St := ⟨[(4,(.ptr 1 0 0 0)),(7,(.ptr 2 0 0 0)),(9,(i6 (wvF 13 ws k w))),(44,(.agg [(i6 1),(.fn (.func 60) [] []),(.fn (.func 61) [] [])])),(46,(i6 (wvF 13 ws k w))),(47,(dB (fitsF (wvF 13 ws k w))))],[(.var 61 [(LI ws),(LI xs),(i6 k),(i6 w)]),(.var 57 [(i6 1),(.fn (.func 60) [] []),(.fn (.func 61) [] [])]),(.var 57 [(i6 1),(.fn (.func 60) [] []),(.fn (.func 61) [] [])])]⟩
def zwv_13_1_13 (ws xs : List Int) (k w : Int) : St := ⟨[(4,(.ptr 1 0 0 0)),(7,(.ptr 2 0 0 0)),(9,(i6 (wvF 13 ws k w))),(44,(.agg [(i6 1),(.fn (.func 60) [] []),(.fn (.func 61) [] [])])),(45,(i6 (wvF 13 ws k w))),(46,(i6 (wvF 13 ws k w))),(47,(dB (fitsF (wvF 13 ws k w))))],[(.var 61 [(LI ws),(LI xs),(i6 k),(i6 w)]),(.var 57 [(i6 1),(.fn (.func 60) [] []),(.fn (.func 61) [] [])]),(.var 57 [(i6 1),(.fn (.func 60) [] []),(.fn (.func 61) [] [])])]⟩
def zwv_13_1_14 (ws xs : List Int) (k w : Int) : St := ⟨[(4,(.ptr 1 0 0 0)),(5,(i6 (wvF 13 ws k w))),(7,(.ptr 2 0 0 0)),(9,(i6 (wvF 13 ws k w))),(44,(.agg [(i6 1),(.fn (.func 60) [] []),(.fn (.func 61) [] [])])),(45,(i6 (wvF 13 ws k w))),(46,(i6 (wvF 13 ws k w))),(47,(dB (fitsF (wvF 13 ws k w))))],[(.var 61 [(LI ws),(LI xs),(i6 k),(i6 w)]),(.var 57 [(i6 1),(.fn (.func 60) [] []),(.fn (.func 61) [] [])]),(.var 57 [(i6 1),(.fn (.func 60) [] []),(.fn (.func 61) [] [])])]⟩
def zwv_13_1_15 (ws xs : List Int) (k w : Int) : St := ⟨[(4,(.ptr 1 0 0 0)),(5,(i6 (wvF 13 ws k w))),(6,(dB false))],[(.var 61 [(LI ws),(LI xs),(i6 k),(i6 w)]),(.var 57 [(i6 1),(.fn (.func 60) [] []),(.fn (.func 61) [] [])]),(.var 57 [(i6 1),(.fn (.func 60) [] []),(.fn (.func 61) [] [])])]⟩
set_option maxRecDepth 100000 in
theorem width_wv_13 (ws xs : List Int) (k w : Int) (hw : ws.length ≤ 9223372036854775807) (h : okB 13 ws = true) (h3 : fitsF (wvF 13 ws k w) = false) : CallOk Try.prog 27 [(i6 13),(.agg [(LI ws),(LI xs),(i6 k),(i6 w)])] [] true (.tup [(.agg [(i6 1),(.fn (.func 60) [] []),(.fn (.func 61) [] [])]),(i6 (wvF 13 ws k w)),(dB false)]) [] := by
  refine CallOk.of_ev Try.func27 rfl rfl rfl ?_
  rintro ⟨_,W,S0,_,susp,_⟩ rfl rfl rfl
  obtain ⟨h1,h2⟩ := okB_yes h
  have hA : arityF 13 = 1 := by decide
  rw [hA] at h1
  refine Ev.seq ?_
  refine Ev.reg [] [0,3,4] (st' := ⟨[(0,(i6 13)),(3,(.ptr 0 0 0 0)),(4,(.ptr 1 0 0 0))],[(.var 61 [(LI ws),(LI xs),(i6 k),(i6 w)]),(.var 57 [(i6 0),(.v .nilf),(.v .nilf)])]⟩)
    (p := True∧True∧True∧True∧True) (by kernel_rfl)
    ⟨⟨⟩,⟨⟩,⟨⟩,⟨⟩,⟨⟩⟩ ?_
  refine Ev.seq ?_
  refine Ev.reg [(0,.call none false (.v (.mp simpleM))),(2,.idx none)] [0,3,4,7,8] (st' := ⟨[(0,(i6 13)),(3,(.ptr 0 0 0 0)),(4,(.ptr 1 0 0 0)),(7,(.ptr 2 0 0 0)),(8,(dB false))],[(.var 61 [(LI ws),(LI xs),(i6 k),(i6 w)]),(.var 57 [(i6 0),(.v .nilf),(.v .nilf)]),(.var 57 [(i6 0),(.v .nilf),(.v .nilf)])]⟩)
    (p := callOb Try.prog 33 [(.var 61 [(LI ws),(LI xs),(i6 k),(i6 w)]),(.var 57 [(i6 0),(.v .nilf),(.v .nilf)])] [] none false (.v (.mp simpleM))∧True∧(∀ e' ∈ simpleM,13 ≠ e'.1)∧True∧True∧True∧True∧True∧True∧True) (by kernel_rfl)
    ⟨simple_ok,⟨⟩,(by decide),⟨⟩,⟨⟩,⟨⟩,⟨⟩,⟨⟩,⟨⟩,⟨⟩⟩ ?_
  refine Ev.seq ?_
  refine Ev.seq ?_
  refine Ev.reg [] [0,3,4,7,8,17] (st' := ⟨[(0,(i6 13)),(3,(.ptr 0 0 0 0)),(4,(.ptr 1 0 0 0)),(7,(.ptr 2 0 0 0)),(8,(dB false)),(17,(dB true))],[(.var 61 [(LI ws),(LI xs),(i6 k),(i6 w)]),(.var 57 [(i6 0),(.v .nilf),(.v .nilf)]),(.var 57 [(i6 0),(.v .nilf),(.v .nilf)])]⟩)
    (p := True∧True∧True) (by kernel_rfl)
    ⟨⟨⟩,⟨⟩,⟨⟩⟩ ?_
  refine Ev.cond true rfl (fun _ => ?_) (fun h => (by cases h))
  refine Ev.reg [(0,.call none false (.v (.mp othersM))),(2,.idx (some 4))] [3,4,7,8] (st' := ⟨[(3,(.ptr 0 0 0 0)),(4,(.ptr 1 0 0 0)),(7,(.ptr 2 0 0 0)),(8,(dB true))],[(.var 61 [(LI ws),(LI xs),(i6 k),(i6 w)]),(.var 57 [(i6 0),(.v .nilf),(.v .nilf)]),(.var 57 [(i6 1),(.fn (.func 60) [] []),(.fn (.func 61) [] [])])]⟩)
    (p := callOb Try.prog 34 [(.var 61 [(LI ws),(LI xs),(i6 k),(i6 w)]),(.var 57 [(i6 0),(.v .nilf),(.v .nilf)]),(.var 57 [(i6 0),(.v .nilf),(.v .nilf)])] [] none false (.v (.mp othersM))∧True∧((13 : Int) = 13∧∀ e' ∈ othersM.take 4,(13 : Int) ≠ e'.1)∧True∧True∧True∧True∧True∧True) (by kernel_rfl)
    ⟨others_ok,⟨⟩,(by decide),⟨⟩,⟨⟩,⟨⟩,⟨⟩,⟨⟩,⟨⟩⟩ ?_
  refine Ev.seq ?_
  refine Ev.seq ?_
  refine Ev.reg [(8,.val (dB false)),(13,.call none false (dB (!(ws.all fitsF)))),(14,.val (dB false))] [3,4,7,38] (st' := ⟨[(3,(.ptr 0 0 0 0)),(4,(.ptr 1 0 0 0)),(7,(.ptr 2 0 0 0)),(38,(dB false))],[(.var 61 [(LI ws),(LI xs),(i6 k),(i6 w)]),(.var 57 [(i6 0),(.v .nilf),(.v .nilf)]),(.var 57 [(i6 1),(.fn (.func 60) [] []),(.fn (.func 61) [] [])])]⟩)
    (p := True∧True∧True∧True∧True∧True∧True∧True∧(True∧(((ws.length : Nat) : Int) != 1) = false)∧True∧True∧True∧True∧callOb Try.prog 35 [(.var 61 [(LI ws),(LI xs),(i6 k),(i6 w)]),(.var 57 [(i6 0),(.v .nilf),(.v .nilf)]),(.var 57 [(i6 1),(.fn (.func 60) [] []),(.fn (.func 61) [] [])])] [(LI ws),(.fn (.func 36) [] [])] none false (dB (!(ws.all fitsF)))∧(True∧(!(ws.all fitsF)) = false)∧True) (by kernel_rfl)
    ⟨⟨⟩,⟨⟩,⟨⟩,⟨⟩,⟨⟩,⟨⟩,⟨⟩,⟨⟩,⟨⟨⟩,(by rw [h1]; rfl)⟩,⟨⟩,⟨⟩,⟨⟩,⟨⟩,(contains_ok _ (by first | omega | (simp; first | done | omega))),⟨⟨⟩,(by rw [h2]; rfl)⟩,⟨⟩⟩ ?_
  refine Ev.cond false rfl (fun h => (by cases h)) (fun _ => ?_)
  refine Ev.skip ?_
  refine Ev.seq ?_
  refine Ev.reg [(3,.call none false (i6 (if w < ws.getD 0 0 then 0 else w))),(4,.val (i6 (wvF 13 ws k w)))] [4,7,9] (st' := ⟨[(4,(.ptr 1 0 0 0)),(7,(.ptr 2 0 0 0)),(9,(i6 (wvF 13 ws k w)))],[(.var 61 [(LI ws),(LI xs),(i6 k),(i6 w)]),(.var 57 [(i6 0),(.v .nilf),(.v .nilf)]),(.var 57 [(i6 1),(.fn (.func 60) [] []),(.fn (.func 61) [] [])])]⟩)
    (p := True∧True∧True∧callOb Try.prog 60 [(.var 61 [(LI ws),(LI xs),(i6 k),(i6 w)]),(.var 57 [(i6 0),(.v .nilf),(.v .nilf)]),(.var 57 [(i6 1),(.fn (.func 60) [] []),(.fn (.func 61) [] [])])] [(.agg [(LI ws),(LI xs),(i6 k),(i6 w)])] none false (i6 (if w < ws.getD 0 0 then 0 else w))∧(True∧(if w < ws.getD 0 0 then 0 else w) = (wvF 13 ws k w))∧True) (by kernel_rfl)
    ⟨⟨⟩,⟨⟩,⟨⟩,(wext_ok _ _ _ _ (by omega) (by assumption)),⟨⟨⟩,(by first | rfl | simp [wvF])⟩,⟨⟩⟩ ?_
  refine Ev.seq ?_
  refine Ev.any [(3,.call none false (dB (fitsF (wvF 13 ws k w)))),(6,.val (dB false))] [((bm 7 0),(zwv_13_1_0 ws xs k w)),((bm 7 1),(zwv_13_1_1 ws xs k w)),((bm 7 2),(zwv_13_1_2 ws xs k w)),((bm 7 4),(zwv_13_1_3 ws xs k w)),((bm 7 3),(zwv_13_1_4 ws xs k w)),((bm 7 5),(zwv_13_1_5 ws xs k w)),((bm 7 6),(zwv_13_1_6 ws xs k w)),((bm 7 12),(zwv_13_1_7 ws xs k w)),((bm 7 7),(zwv_13_1_8 ws xs k w)),((bm 7 13),(zwv_13_1_9 ws xs k w)),((bm 7 14),(zwv_13_1_10 ws xs k w)),((bm 7 15),(zwv_13_1_11 ws xs k w)),((bm 7 29),(zwv_13_1_12 ws xs k w)),((bm 7 31),(zwv_13_1_13 ws xs k w)),((bm 7 63),(zwv_13_1_14 ws xs k w)),((bm 7 127),(zwv_13_1_15 ws xs k w))] (st0 := (zwv_13_1_0 ws xs k w)) (st' := ⟨[(4,(.ptr 1 0 0 0)),(5,(i6 (wvF 13 ws k w))),(6,(dB false))],[(.var 61 [(LI ws),(LI xs),(i6 k),(i6 w)]),(.var 57 [(i6 1),(.fn (.func 60) [] []),(.fn (.func 61) [] [])]),(.var 57 [(i6 1),(.fn (.func 60) [] []),(.fn (.func 61) [] [])])]⟩)
    (p := ((((zwv_13_1_1 ws xs k w) : St) = (zwv_13_1_1 ws xs k w)∧True∧True)∧(((zwv_13_1_2 ws xs k w) : St) = (zwv_13_1_2 ws xs k w)∧True∧True)∧(((zwv_13_1_3 ws xs k w) : St) = (zwv_13_1_3 ws xs k w)∧True∧True)∧True)∧((((zwv_13_1_4 ws xs k w) : St) = (zwv_13_1_4 ws xs k w)∧True∧True)∧(((zwv_13_1_5 ws xs k w) : St) = (zwv_13_1_5 ws xs k w)∧True∧True)∧True)∧((((zwv_13_1_4 ws xs k w) : St) = (zwv_13_1_4 ws xs k w)∧True∧True)∧(((zwv_13_1_6 ws xs k w) : St) = (zwv_13_1_6 ws xs k w)∧True∧True)∧True)∧((((zwv_13_1_5 ws xs k w) : St) = (zwv_13_1_5 ws xs k w)∧True∧True)∧(((zwv_13_1_6 ws xs k w) : St) = (zwv_13_1_6 ws xs k w)∧True∧True)∧(((zwv_13_1_7 ws xs k w) : St) = (zwv_13_1_7 ws xs k w)∧callOb Try.prog 37 [(.var 61 [(LI ws),(LI xs),(i6 k),(i6 w)]),(.var 57 [(i6 0),(.v .nilf),(.v .nilf)]),(.var 57 [(i6 1),(.fn (.func 60) [] []),(.fn (.func 61) [] [])])] [(i6 (wvF 13 ws k w))] none false (dB (fitsF (wvF 13 ws k w)))∧True)∧True)∧((((zwv_13_1_8 ws xs k w) : St) = (zwv_13_1_8 ws xs k w)∧True∧True)∧True)∧((((zwv_13_1_8 ws xs k w) : St) = (zwv_13_1_8 ws xs k w)∧True∧True)∧(((zwv_13_1_9 ws xs k w) : St) = (zwv_13_1_9 ws xs k w)∧callOb Try.prog 37 [(.var 61 [(LI ws),(LI xs),(i6 k),(i6 w)]),(.var 57 [(i6 0),(.v .nilf),(.v .nilf)]),(.var 57 [(i6 1),(.fn (.func 60) [] []),(.fn (.func 61) [] [])])] [(i6 (wvF 13 ws k w))] none false (dB (fitsF (wvF 13 ws k w)))∧True)∧True)∧((((zwv_13_1_8 ws xs k w) : St) = (zwv_13_1_8 ws xs k w)∧True∧True)∧(((zwv_13_1_10 ws xs k w) : St) = (zwv_13_1_10 ws xs k w)∧callOb Try.prog 37 [(.var 61 [(LI ws),(LI xs),(i6 k),(i6 w)]),(.var 57 [(i6 0),(.v .nilf),(.v .nilf)]),(.var 57 [(i6 1),(.fn (.func 60) [] []),(.fn (.func 61) [] [])])] [(i6 (wvF 13 ws k w))] none false (dB (fitsF (wvF 13 ws k w)))∧True)∧True)∧((((zwv_13_1_9 ws xs k w) : St) = (zwv_13_1_9 ws xs k w)∧True∧True)∧(((zwv_13_1_10 ws xs k w) : St) = (zwv_13_1_10 ws xs k w)∧True∧True)∧True)∧((((zwv_13_1_11 ws xs k w) : St) = (zwv_13_1_11 ws xs k w)∧callOb Try.prog 37 [(.var 61 [(LI ws),(LI xs),(i6 k),(i6 w)]),(.var 57 [(i6 0),(.v .nilf),(.v .nilf)]),(.var 57 [(i6 1),(.fn (.func 60) [] []),(.fn (.func 61) [] [])])] [(i6 (wvF 13 ws k w))] none false (dB (fitsF (wvF 13 ws k w)))∧True)∧True)∧((((zwv_13_1_11 ws xs k w) : St) = (zwv_13_1_11 ws xs k w)∧True∧True)∧(((zwv_13_1_12 ws xs k w) : St) = (zwv_13_1_12 ws xs k w)∧True∧True)∧True)∧((((zwv_13_1_11 ws xs k w) : St) = (zwv_13_1_11 ws xs k w)∧True∧True)∧True)∧((((zwv_13_1_13 ws xs k w) : St) = (zwv_13_1_13 ws xs k w)∧True∧True)∧True)∧((((zwv_13_1_13 ws xs k w) : St) = (zwv_13_1_13 ws xs k w)∧True∧True)∧True)∧((((zwv_13_1_14 ws xs k w) : St) = (zwv_13_1_14 ws xs k w)∧True∧True)∧True)∧((((zwv_13_1_15 ws xs k w) : St) = (zwv_13_1_15 ws xs k w)∧(True∧(fitsF (wvF 13 ws k w)) = false)∧True)∧True)∧True∧True) (by kernel_rfl) (by kernel_rfl) (by kernel_rfl) (by kernel_rfl) (by kernel_rfl) (by kernel_rfl)
    ⟨⟨⟨rfl,⟨⟩,⟨⟩⟩,⟨rfl,⟨⟩,⟨⟩⟩,⟨rfl,⟨⟩,⟨⟩⟩,⟨⟩⟩,⟨⟨rfl,⟨⟩,⟨⟩⟩,⟨rfl,⟨⟩,⟨⟩⟩,⟨⟩⟩,⟨⟨rfl,⟨⟩,⟨⟩⟩,⟨rfl,⟨⟩,⟨⟩⟩,⟨⟩⟩,⟨⟨rfl,⟨⟩,⟨⟩⟩,⟨rfl,⟨⟩,⟨⟩⟩,⟨rfl,(fits_ok _),⟨⟩⟩,⟨⟩⟩,⟨⟨rfl,⟨⟩,⟨⟩⟩,⟨⟩⟩,⟨⟨rfl,⟨⟩,⟨⟩⟩,⟨rfl,(fits_ok _),⟨⟩⟩,⟨⟩⟩,⟨⟨rfl,⟨⟩,⟨⟩⟩,⟨rfl,(fits_ok _),⟨⟩⟩,⟨⟩⟩,⟨⟨rfl,⟨⟩,⟨⟩⟩,⟨rfl,⟨⟩,⟨⟩⟩,⟨⟩⟩,⟨⟨rfl,(fits_ok _),⟨⟩⟩,⟨⟩⟩,⟨⟨rfl,⟨⟩,⟨⟩⟩,⟨rfl,⟨⟩,⟨⟩⟩,⟨⟩⟩,⟨⟨rfl,⟨⟩,⟨⟩⟩,⟨⟩⟩,⟨⟨rfl,⟨⟩,⟨⟩⟩,⟨⟩⟩,⟨⟨rfl,⟨⟩,⟨⟩⟩,⟨⟩⟩,⟨⟨rfl,⟨⟩,⟨⟩⟩,⟨⟩⟩,⟨⟨rfl,⟨⟨⟩,(by first | exact h3 | simpa [wvF] using h3)⟩,⟨⟩⟩,⟨⟩⟩,⟨⟩,⟨⟩⟩ ?_
  refine Ev.ret ?_
  refine ⟨⟨⟨⟩,⟨⟩,⟨⟩,⟨⟩⟩,(?_ : ((1 : Int) = 1∧((.fn (.func 60) [] []) : D) = (.fn (.func 60) [] [])∧((.fn (.func 61) [] []) : D) = (.fn (.func 61) [] [])∧True)∧(wvF 13 ws k w) = (wvF 13 ws k w)∧false = false∧True),.inl rfl⟩
  exact ⟨⟨rfl,rfl,rfl,⟨⟩⟩,rfl,rfl,⟨⟩⟩

set_option maxRecDepth 100000 in
theorem width_none (op : Int) (ws xs : List Int) (k w : Int) (hop : op < 1 ∨ 13 < op) : CallOk Try.prog 27 [(i6 op),(.agg [(LI ws),(LI xs),(i6 k),(i6 w)])] [] true (.tup [(.agg [(i6 0),(.v .nilf),(.v .nilf)]),(i6 0),(dB false)]) [] := by
  refine CallOk.of_ev Try.func27 rfl rfl rfl ?_
  rintro ⟨_,W,S0,_,susp,_⟩ rfl rfl rfl
  refine Ev.seq ?_
  refine Ev.reg [] [0,3,4] (st' := ⟨[(0,(i6 op)),(3,(.ptr 0 0 0 0)),(4,(.ptr 1 0 0 0))],[(.var 61 [(LI ws),(LI xs),(i6 k),(i6 w)]),(.var 57 [(i6 0),(.v .nilf),(.v .nilf)])]⟩)
    (p := True∧True∧True∧True∧True) (by kernel_rfl)
    ⟨⟨⟩,⟨⟩,⟨⟩,⟨⟩,⟨⟩⟩ ?_
  refine Ev.seq ?_
  refine Ev.reg [(0,.call none false (.v (.mp simpleM))),(2,.idx none)] [0,3,4,7,8] (st' := ⟨[(0,(i6 op)),(3,(.ptr 0 0 0 0)),(4,(.ptr 1 0 0 0)),(7,(.ptr 2 0 0 0)),(8,(dB false))],[(.var 61 [(LI ws),(LI xs),(i6 k),(i6 w)]),(.var 57 [(i6 0),(.v .nilf),(.v .nilf)]),(.var 57 [(i6 0),(.v .nilf),(.v .nilf)])]⟩)
    (p := callOb Try.prog 33 [(.var 61 [(LI ws),(LI xs),(i6 k),(i6 w)]),(.var 57 [(i6 0),(.v .nilf),(.v .nilf)])] [] none false (.v (.mp simpleM))∧True∧(∀ e' ∈ simpleM,op ≠ e'.1)∧True∧True∧True∧True∧True∧True∧True) (by kernel_rfl)
    ⟨simple_ok,⟨⟩,(fun e' he' => by simp only [simpleM,List.mem_cons,List.not_mem_nil,or_false] at he'; rcases he' with rfl | rfl | rfl | rfl | rfl | rfl | rfl | rfl <;> simp only [ne_eq] <;> omega),⟨⟩,⟨⟩,⟨⟩,⟨⟩,⟨⟩,⟨⟩,⟨⟩⟩ ?_
  refine Ev.seq ?_
  refine Ev.seq ?_
  refine Ev.reg [] [0,3,4,7,8,17] (st' := ⟨[(0,(i6 op)),(3,(.ptr 0 0 0 0)),(4,(.ptr 1 0 0 0)),(7,(.ptr 2 0 0 0)),(8,(dB false)),(17,(dB true))],[(.var 61 [(LI ws),(LI xs),(i6 k),(i6 w)]),(.var 57 [(i6 0),(.v .nilf),(.v .nilf)]),(.var 57 [(i6 0),(.v .nilf),(.v .nilf)])]⟩)
    (p := True∧True∧True) (by kernel_rfl)
    ⟨⟨⟩,⟨⟩,⟨⟩⟩ ?_
  refine Ev.cond true rfl (fun _ => ?_) (fun h => (by cases h))
  refine Ev.reg [(0,.call none false (.v (.mp othersM))),(2,.idx none)] [3,4,7,8] (st' := ⟨[(3,(.ptr 0 0 0 0)),(4,(.ptr 1 0 0 0)),(7,(.ptr 2 0 0 0)),(8,(dB false))],[(.var 61 [(LI ws),(LI xs),(i6 k),(i6 w)]),(.var 57 [(i6 0),(.v .nilf),(.v .nilf)]),(.var 57 [(i6 0),(.v .nilf),(.v .nilf)])]⟩)
    (p := callOb Try.prog 34 [(.var 61 [(LI ws),(LI xs),(i6 k),(i6 w)]),(.var 57 [(i6 0),(.v .nilf),(.v .nilf)]),(.var 57 [(i6 0),(.v .nilf),(.v .nilf)])] [] none false (.v (.mp othersM))∧True∧(∀ e' ∈ othersM,op ≠ e'.1)∧True∧True∧True∧True∧True∧True) (by kernel_rfl)
    ⟨others_ok,⟨⟩,(fun e' he' => by simp only [othersM,List.mem_cons,List.not_mem_nil,or_false] at he'; rcases he' with rfl | rfl | rfl | rfl | rfl <;> simp only [ne_eq] <;> omega),⟨⟩,⟨⟩,⟨⟩,⟨⟩,⟨⟩,⟨⟩⟩ ?_
  refine Ev.seq ?_
  refine Ev.seq ?_
  refine Ev.reg [] [3,4,7,38] (st' := ⟨[(3,(.ptr 0 0 0 0)),(4,(.ptr 1 0 0 0)),(7,(.ptr 2 0 0 0)),(38,(dB true))],[(.var 61 [(LI ws),(LI xs),(i6 k),(i6 w)]),(.var 57 [(i6 0),(.v .nilf),(.v .nilf)]),(.var 57 [(i6 0),(.v .nilf),(.v .nilf)])]⟩)
    (p := True∧True∧True∧True∧True∧True∧True∧True∧True∧True∧True∧True∧True∧True∧True∧True) (by kernel_rfl)
    ⟨⟨⟩,⟨⟩,⟨⟩,⟨⟩,⟨⟩,⟨⟩,⟨⟩,⟨⟩,⟨⟩,⟨⟩,⟨⟩,⟨⟩,⟨⟩,⟨⟩,⟨⟩,⟨⟩⟩ ?_
  refine Ev.cond true rfl (fun _ => ?_) (fun h => (by cases h))
  refine Ev.seq ?_
  refine Ev.reg [] [4,5,6] (st' := ⟨[(4,(.ptr 1 0 0 0)),(5,(i6 0)),(6,(dB false))],[(.var 61 [(LI ws),(LI xs),(i6 k),(i6 w)]),(.var 57 [(i6 0),(.v .nilf),(.v .nilf)]),(.var 57 [(i6 0),(.v .nilf),(.v .nilf)])]⟩)
    (p := True∧True∧True∧True∧True) (by kernel_rfl)
    ⟨⟨⟩,⟨⟩,⟨⟩,⟨⟩,⟨⟩⟩ ?_
  refine Ev.ret ?_
  refine ⟨⟨⟨⟩,⟨⟩,⟨⟩,⟨⟩⟩,(?_ : ((0 : Int) = 0∧True∧True∧True)∧(0 : Int) = 0∧false = false∧True),.inl rfl⟩
  exact ⟨⟨rfl,⟨⟩,⟨⟩,⟨⟩⟩,rfl,rfl,⟨⟩⟩

end Go.Proofs.Ytaghhicmnalmmaa
