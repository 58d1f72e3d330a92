/-
  Package bits: widths of operations.
-/
import Derived.Test.YtaghhicmnalmmaaBitD
namespace Go.Proofs.Ytaghhicmnalmmaa
open Go.RowKit
set_option linter.unusedVariables false
set_option linter.unusedSimpArgs false
abbrev ye0 : Box := (.var 57 [(i6 0),(.v .nilf),(.v .nilf)])
abbrev ye1 (ws xs : List Int) (k w : Int) : Box := (.var 61 [(LI ws),(LI xs),(i6 k),(i6 w)])
abbrev ye2 : D := (.fn (.func 43) [] [])
abbrev ye3 : List D := [(i6 1),(.fn (.func 40) [] []),(.fn (.func 41) [] [])]
abbrev ye4 : List D := [(i6 0),(.fn (.func 52) [] []),(.fn (.func 53) [] [])]
abbrev ye5 : D := (.ptr 1 0 0 0)
abbrev ye6 : D := (.ptr 2 0 0 0)
abbrev ye7 : Box := (.var 57 [(i6 2),ye2,(.fn (.func 44) [] [])])
abbrev ye8 : Box := (.var 57 [(i6 2),ye2,(.fn (.func 45) [] [])])
abbrev ye9 : Box := (.var 57 [(i6 2),ye2,(.fn (.func 46) [] [])])
abbrev ye10 : Box := (.var 57 [(i6 2),ye2,(.fn (.func 47) [] [])])
abbrev ye11 : Box := (.var 57 [(i6 2),ye2,(.fn (.func 48) [] [])])
abbrev ye12 : D := (.ptr 0 0 0 0)
abbrev ye13 (ws xs : List Int) (k w : Int) : List Box := [(ye1 ws xs k w),ye0,(.var 57 ye3)]
abbrev ye14 (ws xs : List Int) (k w : Int) : List Box := [(ye1 ws xs k w),ye0,(.var 57 ye4)]
abbrev ye15 : D := (.agg [(i6 2),ye2,(.fn (.func 44) [] [])])
abbrev ye16 : D := (.agg [(i6 2),ye2,(.fn (.func 45) [] [])])
abbrev ye17 : D := (.agg [(i6 2),ye2,(.fn (.func 46) [] [])])
abbrev ye18 : D := (.agg [(i6 2),ye2,(.fn (.func 47) [] [])])
abbrev ye19 : D := (.agg [(i6 2),ye2,(.fn (.func 48) [] [])])
abbrev ye20 (ws xs : List Int) (k w : Int) : D := (.agg [(LI ws),(LI xs),(i6 k),(i6 w)])
abbrev ye21 (ws : List Int) : D := (dB (!(ws.all fitsF)))
abbrev ye22 (ws : List Int) (k w : Int) : D := (i6 (wvF 1 ws k w))
abbrev ye23 (ws : List Int) (k w : Int) : D := (i6 (wvF 2 ws k w))
abbrev ye24 (ws : List Int) (k w : Int) : D := (i6 (wvF 3 ws k w))
abbrev ye25 (ws : List Int) (k w : Int) : D := (i6 (wvF 4 ws k w))
abbrev ye26 (ws : List Int) (k w : Int) : D := (i6 (wvF 5 ws k w))
abbrev ye27 (ws : List Int) (k w : Int) : D := (i6 (wvF 6 ws k w))
abbrev ye28 (ws : List Int) (k w : Int) : D := (i6 (wvF 7 ws k w))
abbrev ye29 (ws : List Int) : List D := [(LI ws),(.fn (.func 36) [] [])]
abbrev ye30 (ws xs : List Int) (k w : Int) : List Box := [(ye1 ws xs k w),ye0,ye10]
abbrev ye31 (ws xs : List Int) (k w : Int) : List Box := [(ye1 ws xs k w),ye0,ye11]
abbrev ye32 (ws xs : List Int) (k w : Int) : List Box := [(ye1 ws xs k w),ye0,ye7]
abbrev ye33 (ws xs : List Int) (k w : Int) : List Box := [(ye1 ws xs k w),ye0,ye8]
abbrev ye34 (ws xs : List Int) (k w : Int) : List Box := [(ye1 ws xs k w),ye0,ye9]
abbrev ye35 : D := (.tup [(.agg [(i6 0),(.v .nilf),(.v .nilf)]),(i6 0),(dB false)])
abbrev ye36 (ws : List Int) (k w : Int) : D := (dB (fitsF (wvF 1 ws k w)))
abbrev ye37 (ws : List Int) (k w : Int) : D := (dB (fitsF (wvF 2 ws k w)))
abbrev ye38 (ws : List Int) (k w : Int) : D := (dB (fitsF (wvF 3 ws k w)))
abbrev ye39 (ws : List Int) (k w : Int) : D := (dB (fitsF (wvF 4 ws k w)))
abbrev ye40 (ws : List Int) (k w : Int) : D := (dB (fitsF (wvF 5 ws k w)))
abbrev ye41 (ws : List Int) (k w : Int) : D := (dB (fitsF (wvF 6 ws k w)))
abbrev ye42 (ws : List Int) (k w : Int) : D := (dB (fitsF (wvF 7 ws k w)))
abbrev ye43 (ws xs : List Int) (k w : Int) : List Box := [(ye1 ws xs k w),(.var 57 ye4),(.var 57 ye4)]
abbrev ye44 (ws xs : List Int) (k w : Int) : List Box := [(ye1 ws xs k w),(.var 57 ye3),(.var 57 ye3)]
abbrev ye45 (ws xs : List Int) (k w : Int) : List Box := [(ye1 ws xs k w),ye0]
abbrev ye46 : List (Nat × D) := [(0,(i6 1)),(3,ye12),(4,ye5),(7,ye6),(8,(dB false)),(17,(dB true))]
abbrev ye47 : List (Nat × D) := [(0,(i6 2)),(3,ye12),(4,ye5),(7,ye6),(8,(dB true)),(17,(dB false))]
abbrev ye48 : List (Nat × D) := [(0,(i6 3)),(3,ye12),(4,ye5),(7,ye6),(8,(dB true)),(17,(dB false))]
abbrev ye49 : List (Nat × D) := [(0,(i6 4)),(3,ye12),(4,ye5),(7,ye6),(8,(dB true)),(17,(dB false))]
abbrev ye50 : List (Nat × D) := [(0,(i6 5)),(3,ye12),(4,ye5),(7,ye6),(8,(dB true)),(17,(dB false))]
abbrev ye51 : List (Nat × D) := [(0,(i6 6)),(3,ye12),(4,ye5),(7,ye6),(8,(dB true)),(17,(dB false))]
abbrev ye52 : List (Nat × D) := [(0,(i6 7)),(3,ye12),(4,ye5),(7,ye6),(8,(dB true)),(17,(dB false))]
abbrev ye53 (ws : List Int) : D := (i6 (alikeF ws))
abbrev ye54 : List (Nat × D) := [(0,(i6 1)),(3,ye12),(4,ye5),(7,ye6),(8,(dB false))]

def zg_1_1_0 (ws xs : List Int) (k w : Int) : St := ⟨[(4,ye5),(7,ye6),(9,(ye22 ws k w))],(ye14 ws xs k w)⟩
def zg_1_1_1 (ws xs : List Int) (k w : Int) : St := ⟨[(4,ye5),(7,ye6),(9,(ye22 ws k w)),(44,(.agg ye4))],(ye14 ws xs k w)⟩
def zg_1_1_2 (ws xs : List Int) (k w : Int) : St := ⟨[(4,ye5),(7,ye6),(9,(ye22 ws k w)),(45,(ye22 ws k w))],(ye14 ws xs k w)⟩
def zg_1_1_3 (ws xs : List Int) (k w : Int) : St := ⟨[(4,ye5),(7,ye6),(9,(ye22 ws k w)),(46,(ye22 ws k w))],(ye14 ws xs k w)⟩
def zg_1_1_4 (ws xs : List Int) (k w : Int) : St := ⟨[(4,ye5),(7,ye6),(9,(ye22 ws k w)),(44,(.agg ye4)),(45,(ye22 ws k w))],(ye14 ws xs k w)⟩
def zg_1_1_5 (ws xs : List Int) (k w : Int) : St := ⟨[(4,ye5),(7,ye6),(9,(ye22 ws k w)),(44,(.agg ye4)),(46,(ye22 ws k w))],(ye14 ws xs k w)⟩
def zg_1_1_6 (ws xs : List Int) (k w : Int) : St := ⟨[(4,ye5),(7,ye6),(9,(ye22 ws k w)),(45,(ye22 ws k w)),(46,(ye22 ws k w))],(ye14 ws xs k w)⟩
def zg_1_1_7 (ws xs : List Int) (k w : Int) : St := ⟨[(4,ye5),(7,ye6),(9,(ye22 ws k w)),(46,(ye22 ws k w)),(47,(ye36 ws k w))],(ye14 ws xs k w)⟩
def zg_1_1_8 (ws xs : List Int) (k w : Int) : St := ⟨[(4,ye5),(7,ye6),(9,(ye22 ws k w)),(44,(.agg ye4)),(45,(ye22 ws k w)),(46,(ye22 ws k w))],(ye14 ws xs k w)⟩
def zg_1_1_9 (ws xs : List Int) (k w : Int) : St := ⟨[(4,ye5),(7,ye6),(9,(ye22 ws k w)),(44,(.agg ye4)),(46,(ye22 ws k w)),(47,(ye36 ws k w))],(ye14 ws xs k w)⟩
def zg_1_1_10 (ws xs : List Int) (k w : Int) : St := ⟨[(4,ye5),(7,ye6),(9,(ye22 ws k w)),(45,(ye22 ws k w)),(46,(ye22 ws k w)),(47,(ye36 ws k w))],(ye14 ws xs k w)⟩
def zg_1_1_11 (ws xs : List Int) (k w : Int) : St := ⟨[(4,ye5),(7,ye6),(9,(ye22 ws k w)),(44,(.agg ye4)),(45,(ye22 ws k w)),(46,(ye22 ws k w)),(47,(ye36 ws k w))],(ye14 ws xs k w)⟩
def zg_1_1_12 (ws xs : List Int) (k w : Int) : St := ⟨[(4,ye5),(7,ye6),(9,(ye22 ws k w)),(44,(.agg ye4)),(46,(ye22 ws k w)),(47,(ye36 ws k w))],(ye43 ws xs k w)⟩
def zg_1_1_13 (ws xs : List Int) (k w : Int) : St := ⟨[(4,ye5),(7,ye6),(9,(ye22 ws k w)),(44,(.agg ye4)),(45,(ye22 ws k w)),(46,(ye22 ws k w)),(47,(ye36 ws k w))],(ye43 ws xs k w)⟩
def zg_1_1_14 (ws xs : List Int) (k w : Int) : St := ⟨[(4,ye5),(5,(ye22 ws k w)),(7,ye6),(9,(ye22 ws k w)),(44,(.agg ye4)),(45,(ye22 ws k w)),(46,(ye22 ws k w)),(47,(ye36 ws k w))],(ye43 ws xs k w)⟩
def zg_1_1_15 (ws xs : List Int) (k w : Int) : St := ⟨[(4,ye5),(5,(ye22 ws k w)),(6,(dB true))],(ye43 ws xs k w)⟩
set_option maxRecDepth 100000 in
theorem width_good_1 (ws xs : List Int) (k w : Int) (hw : ws.length ≤ 9223372036854775807) (h : okF 1 ws k w = true) : CallOk Try.prog 27 [(i6 1),(ye20 ws xs k w)] [] true (.tup [(.agg ye4),(ye22 ws k w),(dB true)]) [] := by
  refine CallOk.of_ev Try.func27 rfl rfl rfl ?_
  rintro ⟨_,W,S0,_,susp,_⟩ rfl rfl rfl
  obtain ⟨h1,h2,h3⟩ := ok_yes h
  have hA : arityF 1 = 0 := by decide
  rw [hA] at h1
  refine Ev.seq ?_
  refine Ev.reg [] [0,3,4] (st' := ⟨[(0,(i6 1)),(3,ye12),(4,ye5)],(ye45 ws xs k w)⟩)
    (p := T4 True) (by kernel_rfl)
    ⟨oK,oK,oK,oK,oK⟩ ?_
  refine Ev.seq ?_
  refine Ev.reg [(0,.call none false (.v (.mp simpleM))),(2,.idx none)] [0,3,4,7,8] (st' := ⟨ye54,[(ye1 ws xs k w),ye0,ye0]⟩)
    (p := callOb Try.prog 33 (ye45 ws xs k w) [] none false (.v (.mp simpleM))∧True∧(∀ e' ∈ simpleM,1 ≠ e'.1)∧True∧True∧True∧True∧True∧True∧True) (by kernel_rfl)
    ⟨simple_ok,oK,(by decide),oK,oK,oK,oK,oK,oK,oK⟩ ?_
  refine Ev.seq ?_
  refine Ev.seq ?_
  refine Ev.reg [] [0,3,4,7,8,17] (st' := ⟨ye46,[(ye1 ws xs k w),ye0,ye0]⟩)
    (p := T2 True) (by kernel_rfl)
    ⟨oK,oK,oK⟩ ?_
  refine Ev.cond true rfl (fun _ => ?_) (fun h => (by cases h))
  refine Ev.reg [(0,.call none false (.v (.mp othersM))),(2,.idx (some 0))] [3,4,7,8] (st' := ⟨[(3,ye12),(4,ye5),(7,ye6),(8,(dB true))],(ye14 ws xs k w)⟩)
    (p := callOb Try.prog 34 [(ye1 ws xs k w),ye0,ye0] [] none false (.v (.mp othersM))∧True∧((1 : Int) = 1∧∀ e' ∈ othersM.take 0,(1 : Int) ≠ e'.1)∧True∧True∧True∧True∧True∧True) (by kernel_rfl)
    ⟨others_ok,oK,(by decide),oK,oK,oK,oK,oK,oK⟩ ?_
  refine Ev.seq ?_
  refine Ev.seq ?_
  refine Ev.reg [(8,.val (dB false)),(13,.call none false (ye21 ws)),(14,.val (dB false))] [3,4,7,38] (st' := ⟨[(3,ye12),(4,ye5),(7,ye6),(38,(dB false))],(ye14 ws xs k w)⟩)
    (p := T8 ((True∧(((ws.length : Nat) : Int) != 0) = false)∧T4 (callOb Try.prog 35 (ye14 ws xs k w) (ye29 ws) none false (ye21 ws)∧(True∧(!(ws.all fitsF)) = false)∧True))) (by kernel_rfl)
    ⟨oK,oK,oK,oK,oK,oK,oK,oK,⟨oK,(by rw [h1]; rfl)⟩,oK,oK,oK,oK,(contains_ok _ (by first | omega | (simp; first | done | omega))),⟨oK,(by rw [h2]; rfl)⟩,oK⟩ ?_
  refine Ev.cond false rfl (fun h => (by cases h)) (fun _ => ?_)
  refine Ev.skip ?_
  refine Ev.seq ?_
  refine Ev.reg [(3,.call none false (i6 (if fitsF w = false ∨ k < 0 ∨ maskF w < k then 0 else w))),(4,.val (ye22 ws k w))] [4,7,9] (st' := ⟨[(4,ye5),(7,ye6),(9,(ye22 ws k w))],(ye14 ws xs k w)⟩)
    (p := T3 ((callOb Try.prog 52 (ye14 ws xs k w) [(ye20 ws xs k w)] none false (i6 (if fitsF w = false ∨ k < 0 ∨ maskF w < k then 0 else w)))∧(True∧((if fitsF w = false ∨ k < 0 ∨ maskF w < k then 0 else w) = (wvF 1 ws k w)))∧True)) (by kernel_rfl)
    ⟨oK,oK,oK,(wconst_ok _ _ _ _ (by omega) (by assumption)),⟨oK,(by first | rfl | simp [wvF])⟩,oK⟩ ?_
  refine Ev.seq ?_
  refine Ev.any [(3,.call none false (ye36 ws k w)),(6,.val (dB true))] [((bm 7 0),(zg_1_1_0 ws xs k w)),((bm 7 1),(zg_1_1_1 ws xs k w)),((bm 7 2),(zg_1_1_2 ws xs k w)),((bm 7 4),(zg_1_1_3 ws xs k w)),((bm 7 3),(zg_1_1_4 ws xs k w)),((bm 7 5),(zg_1_1_5 ws xs k w)),((bm 7 6),(zg_1_1_6 ws xs k w)),((bm 7 12),(zg_1_1_7 ws xs k w)),((bm 7 7),(zg_1_1_8 ws xs k w)),((bm 7 13),(zg_1_1_9 ws xs k w)),((bm 7 14),(zg_1_1_10 ws xs k w)),((bm 7 15),(zg_1_1_11 ws xs k w)),((bm 7 29),(zg_1_1_12 ws xs k w)),((bm 7 31),(zg_1_1_13 ws xs k w)),((bm 7 63),(zg_1_1_14 ws xs k w)),((bm 7 127),(zg_1_1_15 ws xs k w))] (st0 := (zg_1_1_0 ws xs k w)) (st' := ⟨[(4,ye5),(5,(ye22 ws k w)),(6,(dB true))],(ye43 ws xs k w)⟩)
    (p := ((sE (zg_1_1_1 ws xs k w) (True))∧(sE (zg_1_1_2 ws xs k w) (True))∧(sE (zg_1_1_3 ws xs k w) (True))∧True)∧((sE (zg_1_1_4 ws xs k w) (True))∧(sE (zg_1_1_5 ws xs k w) (True))∧True)∧((sE (zg_1_1_4 ws xs k w) (True))∧(sE (zg_1_1_6 ws xs k w) (True))∧True)∧((sE (zg_1_1_5 ws xs k w) (True))∧(sE (zg_1_1_6 ws xs k w) (True))∧(sE (zg_1_1_7 ws xs k w) (callOb Try.prog 37 (ye14 ws xs k w) [(ye22 ws k w)] none false (ye36 ws k w)))∧True)∧((sE (zg_1_1_8 ws xs k w) (True))∧True)∧((sE (zg_1_1_8 ws xs k w) (True))∧(sE (zg_1_1_9 ws xs k w) (callOb Try.prog 37 (ye14 ws xs k w) [(ye22 ws k w)] none false (ye36 ws k w)))∧True)∧((sE (zg_1_1_8 ws xs k w) (True))∧(sE (zg_1_1_10 ws xs k w) (callOb Try.prog 37 (ye14 ws xs k w) [(ye22 ws k w)] none false (ye36 ws k w)))∧True)∧((sE (zg_1_1_9 ws xs k w) (True))∧(sE (zg_1_1_10 ws xs k w) (True))∧True)∧((sE (zg_1_1_11 ws xs k w) (callOb Try.prog 37 (ye14 ws xs k w) [(ye22 ws k w)] none false (ye36 ws k w)))∧True)∧((sE (zg_1_1_11 ws xs k w) (True))∧(sE (zg_1_1_12 ws xs k w) (True))∧True)∧((sE (zg_1_1_11 ws xs k w) (True))∧True)∧((sE (zg_1_1_13 ws xs k w) (True))∧True)∧((sE (zg_1_1_13 ws xs k w) (True))∧True)∧((sE (zg_1_1_14 ws xs k w) (True))∧True)∧((sE (zg_1_1_15 ws xs k w) ((True∧(fitsF (wvF 1 ws k w)) = true)))∧True)∧True∧True) (by kernel_rfl) (by kernel_rfl) (by kernel_rfl) (by kernel_rfl) (by kernel_rfl) (by kernel_rfl)
    ⟨⟨⟨rfl,oK,oK⟩,⟨rfl,oK,oK⟩,⟨rfl,oK,oK⟩,oK⟩,⟨⟨rfl,oK,oK⟩,⟨rfl,oK,oK⟩,oK⟩,⟨⟨rfl,oK,oK⟩,⟨rfl,oK,oK⟩,oK⟩,⟨⟨rfl,oK,oK⟩,⟨rfl,oK,oK⟩,⟨rfl,(fits_ok _),oK⟩,oK⟩,⟨⟨rfl,oK,oK⟩,oK⟩,⟨⟨rfl,oK,oK⟩,⟨rfl,(fits_ok _),oK⟩,oK⟩,⟨⟨rfl,oK,oK⟩,⟨rfl,(fits_ok _),oK⟩,oK⟩,⟨⟨rfl,oK,oK⟩,⟨rfl,oK,oK⟩,oK⟩,⟨⟨rfl,(fits_ok _),oK⟩,oK⟩,⟨⟨rfl,oK,oK⟩,⟨rfl,oK,oK⟩,oK⟩,⟨⟨rfl,oK,oK⟩,oK⟩,⟨⟨rfl,oK,oK⟩,oK⟩,⟨⟨rfl,oK,oK⟩,oK⟩,⟨⟨rfl,oK,oK⟩,oK⟩,⟨⟨rfl,⟨oK,(by first | exact h3 | simpa [wvF] using h3)⟩,oK⟩,oK⟩,oK,oK⟩ ?_
  refine Ev.ret ?_
  refine ⟨⟨oK,oK,oK,oK⟩,(?_ : ((0 : Int) = 0∧((.fn (.func 52) [] []) : D) = (.fn (.func 52) [] [])∧((.fn (.func 53) [] []) : D) = (.fn (.func 53) [] [])∧True)∧(wvF 1 ws k w) = (wvF 1 ws k w)∧true = true∧True),.inl rfl⟩
  exact ⟨⟨rfl,rfl,rfl,oK⟩,rfl,rfl,oK⟩

set_option maxRecDepth 100000 in
theorem width_bad_1 (ws xs : List Int) (k w : Int) (hw : ws.length ≤ 9223372036854775807) (h : okB 1 ws = false) : CallOk Try.prog 27 [(i6 1),(ye20 ws xs k w)] [] true ye35 [] := by
  refine CallOk.of_ev Try.func27 rfl rfl rfl ?_
  rintro ⟨_,W,S0,_,susp,_⟩ rfl rfl rfl
  refine Ev.seq ?_
  refine Ev.reg [] [0,3,4] (st' := ⟨[(0,(i6 1)),(3,ye12),(4,ye5)],(ye45 ws xs k w)⟩)
    (p := T4 True) (by kernel_rfl)
    ⟨oK,oK,oK,oK,oK⟩ ?_
  refine Ev.seq ?_
  refine Ev.reg [(0,.call none false (.v (.mp simpleM))),(2,.idx none)] [0,3,4,7,8] (st' := ⟨ye54,[(ye1 ws xs k w),ye0,ye0]⟩)
    (p := callOb Try.prog 33 (ye45 ws xs k w) [] none false (.v (.mp simpleM))∧True∧(∀ e' ∈ simpleM,1 ≠ e'.1)∧True∧True∧True∧True∧True∧True∧True) (by kernel_rfl)
    ⟨simple_ok,oK,(by decide),oK,oK,oK,oK,oK,oK,oK⟩ ?_
  refine Ev.seq ?_
  refine Ev.seq ?_
  refine Ev.reg [] [0,3,4,7,8,17] (st' := ⟨ye46,[(ye1 ws xs k w),ye0,ye0]⟩)
    (p := T2 True) (by kernel_rfl)
    ⟨oK,oK,oK⟩ ?_
  refine Ev.cond true rfl (fun _ => ?_) (fun h => (by cases h))
  refine Ev.reg [(0,.call none false (.v (.mp othersM))),(2,.idx (some 0))] [3,4,7,8] (st' := ⟨[(3,ye12),(4,ye5),(7,ye6),(8,(dB true))],(ye14 ws xs k w)⟩)
    (p := callOb Try.prog 34 [(ye1 ws xs k w),ye0,ye0] [] none false (.v (.mp othersM))∧True∧((1 : Int) = 1∧∀ e' ∈ othersM.take 0,(1 : Int) ≠ e'.1)∧True∧True∧True∧True∧True∧True) (by kernel_rfl)
    ⟨others_ok,oK,(by decide),oK,oK,oK,oK,oK,oK⟩ ?_
  refine Ev.seq ?_
  refine Ev.seq ?_
  rcases okB_no h with h1 | ⟨h1,h2⟩
  · skip
    have hA : arityF 1 = 0 := by decide
    rw [hA] at h1
    refine Ev.reg [(8,.val (dB true))] [3,4,7,38] (st' := ⟨[(3,ye12),(4,ye5),(7,ye6),(38,(dB true))],(ye14 ws xs k w)⟩)
      (p := T8 ((True∧(((ws.length : Nat) : Int) != 0) = true)∧T6 True)) (by kernel_rfl)
      ⟨oK,oK,oK,oK,oK,oK,oK,oK,⟨oK,(by exact bne_iff_ne.2 (by omega))⟩,oK,oK,oK,oK,oK,oK,oK⟩ ?_
    refine Ev.cond true rfl (fun _ => ?_) (fun h => (by cases h))
    refine Ev.seq ?_
    refine Ev.reg [] [4,5,6] (st' := ⟨[(4,ye5),(5,(i6 0)),(6,(dB false))],(ye14 ws xs k w)⟩)
      (p := T4 True) (by kernel_rfl)
      ⟨oK,oK,oK,oK,oK⟩ ?_
    refine Ev.ret ?_
    refine ⟨⟨oK,oK,oK,oK⟩,(?_ : ((0 : Int) = 0∧True∧True∧True)∧(0 : Int) = 0∧false = false∧True),.inl rfl⟩
    exact ⟨⟨rfl,oK,oK,oK⟩,rfl,rfl,oK⟩
  · skip
    have hA : arityF 1 = 0 := by decide
    rw [hA] at h1
    refine Ev.reg [(8,.val (dB false)),(13,.call none false (ye21 ws)),(14,.val (dB true))] [3,4,7,38] (st' := ⟨[(3,ye12),(4,ye5),(7,ye6),(38,(dB true))],(ye14 ws xs k w)⟩)
      (p := T8 ((True∧(((ws.length : Nat) : Int) != 0) = false)∧T4 (callOb Try.prog 35 (ye14 ws xs k w) (ye29 ws) none false (ye21 ws)∧(True∧(!(ws.all fitsF)) = true)∧True))) (by kernel_rfl)
      ⟨oK,oK,oK,oK,oK,oK,oK,oK,⟨oK,(by rw [h1]; rfl)⟩,oK,oK,oK,oK,(contains_ok _ (by first | omega | (simp; first | done | omega))),⟨oK,(by rw [h2]; rfl)⟩,oK⟩ ?_
    refine Ev.cond true rfl (fun _ => ?_) (fun h => (by cases h))
    refine Ev.seq ?_
    refine Ev.reg [] [4,5,6] (st' := ⟨[(4,ye5),(5,(i6 0)),(6,(dB false))],(ye14 ws xs k w)⟩)
      (p := T4 True) (by kernel_rfl)
      ⟨oK,oK,oK,oK,oK⟩ ?_
    refine Ev.ret ?_
    refine ⟨⟨oK,oK,oK,oK⟩,(?_ : ((0 : Int) = 0∧True∧True∧True)∧(0 : Int) = 0∧false = false∧True),.inl rfl⟩
    exact ⟨⟨rfl,oK,oK,oK⟩,rfl,rfl,oK⟩

def zwv_1_1_0 (ws xs : List Int) (k w : Int) : St := ⟨[(4,ye5),(7,ye6),(9,(ye22 ws k w))],(ye14 ws xs k w)⟩
def zwv_1_1_1 (ws xs : List Int) (k w : Int) : St := ⟨[(4,ye5),(7,ye6),(9,(ye22 ws k w)),(44,(.agg ye4))],(ye14 ws xs k w)⟩
def zwv_1_1_2 (ws xs : List Int) (k w : Int) : St := ⟨[(4,ye5),(7,ye6),(9,(ye22 ws k w)),(45,(ye22 ws k w))],(ye14 ws xs k w)⟩
def zwv_1_1_3 (ws xs : List Int) (k w : Int) : St := ⟨[(4,ye5),(7,ye6),(9,(ye22 ws k w)),(46,(ye22 ws k w))],(ye14 ws xs k w)⟩
def zwv_1_1_4 (ws xs : List Int) (k w : Int) : St := ⟨[(4,ye5),(7,ye6),(9,(ye22 ws k w)),(44,(.agg ye4)),(45,(ye22 ws k w))],(ye14 ws xs k w)⟩
def zwv_1_1_5 (ws xs : List Int) (k w : Int) : St := ⟨[(4,ye5),(7,ye6),(9,(ye22 ws k w)),(44,(.agg ye4)),(46,(ye22 ws k w))],(ye14 ws xs k w)⟩
def zwv_1_1_6 (ws xs : List Int) (k w : Int) : St := ⟨[(4,ye5),(7,ye6),(9,(ye22 ws k w)),(45,(ye22 ws k w)),(46,(ye22 ws k w))],(ye14 ws xs k w)⟩
def zwv_1_1_7 (ws xs : List Int) (k w : Int) : St := ⟨[(4,ye5),(7,ye6),(9,(ye22 ws k w)),(46,(ye22 ws k w)),(47,(ye36 ws k w))],(ye14 ws xs k w)⟩
def zwv_1_1_8 (ws xs : List Int) (k w : Int) : St := ⟨[(4,ye5),(7,ye6),(9,(ye22 ws k w)),(44,(.agg ye4)),(45,(ye22 ws k w)),(46,(ye22 ws k w))],(ye14 ws xs k w)⟩
def zwv_1_1_9 (ws xs : List Int) (k w : Int) : St := ⟨[(4,ye5),(7,ye6),(9,(ye22 ws k w)),(44,(.agg ye4)),(46,(ye22 ws k w)),(47,(ye36 ws k w))],(ye14 ws xs k w)⟩
def zwv_1_1_10 (ws xs : List Int) (k w : Int) : St := ⟨[(4,ye5),(7,ye6),(9,(ye22 ws k w)),(45,(ye22 ws k w)),(46,(ye22 ws k w)),(47,(ye36 ws k w))],(ye14 ws xs k w)⟩
def zwv_1_1_11 (ws xs : List Int) (k w : Int) : St := ⟨[(4,ye5),(7,ye6),(9,(ye22 ws k w)),(44,(.agg ye4)),(45,(ye22 ws k w)),(46,(ye22 ws k w)),(47,(ye36 ws k w))],(ye14 ws xs k w)⟩
def zwv_1_1_12 (ws xs : List Int) (k w : Int) : St := ⟨[(4,ye5),(7,ye6),(9,(ye22 ws k w)),(44,(.agg ye4)),(46,(ye22 ws k w)),(47,(ye36 ws k w))],(ye43 ws xs k w)⟩
def zwv_1_1_13 (ws xs : List Int) (k w : Int) : St := ⟨[(4,ye5),(7,ye6),(9,(ye22 ws k w)),(44,(.agg ye4)),(45,(ye22 ws k w)),(46,(ye22 ws k w)),(47,(ye36 ws k w))],(ye43 ws xs k w)⟩
def zwv_1_1_14 (ws xs : List Int) (k w : Int) : St := ⟨[(4,ye5),(5,(ye22 ws k w)),(7,ye6),(9,(ye22 ws k w)),(44,(.agg ye4)),(45,(ye22 ws k w)),(46,(ye22 ws k w)),(47,(ye36 ws k w))],(ye43 ws xs k w)⟩
def zwv_1_1_15 (ws xs : List Int) (k w : Int) : St := ⟨[(4,ye5),(5,(ye22 ws k w)),(6,(dB false))],(ye43 ws xs k w)⟩
set_option maxRecDepth 100000 in
theorem width_wv_1 (ws xs : List Int) (k w : Int) (hw : ws.length ≤ 9223372036854775807) (h : okB 1 ws = true) (h3 : fitsF (wvF 1 ws k w) = false) : CallOk Try.prog 27 [(i6 1),(ye20 ws xs k w)] [] true (.tup [(.agg ye4),(ye22 ws k w),(dB false)]) [] := by
  refine CallOk.of_ev Try.func27 rfl rfl rfl ?_
  rintro ⟨_,W,S0,_,susp,_⟩ rfl rfl rfl
  obtain ⟨h1,h2⟩ := okB_yes h
  have hA : arityF 1 = 0 := by decide
  rw [hA] at h1
  refine Ev.seq ?_
  refine Ev.reg [] [0,3,4] (st' := ⟨[(0,(i6 1)),(3,ye12),(4,ye5)],(ye45 ws xs k w)⟩)
    (p := T4 True) (by kernel_rfl)
    ⟨oK,oK,oK,oK,oK⟩ ?_
  refine Ev.seq ?_
  refine Ev.reg [(0,.call none false (.v (.mp simpleM))),(2,.idx none)] [0,3,4,7,8] (st' := ⟨ye54,[(ye1 ws xs k w),ye0,ye0]⟩)
    (p := callOb Try.prog 33 (ye45 ws xs k w) [] none false (.v (.mp simpleM))∧True∧(∀ e' ∈ simpleM,1 ≠ e'.1)∧True∧True∧True∧True∧True∧True∧True) (by kernel_rfl)
    ⟨simple_ok,oK,(by decide),oK,oK,oK,oK,oK,oK,oK⟩ ?_
  refine Ev.seq ?_
  refine Ev.seq ?_
  refine Ev.reg [] [0,3,4,7,8,17] (st' := ⟨ye46,[(ye1 ws xs k w),ye0,ye0]⟩)
    (p := T2 True) (by kernel_rfl)
    ⟨oK,oK,oK⟩ ?_
  refine Ev.cond true rfl (fun _ => ?_) (fun h => (by cases h))
  refine Ev.reg [(0,.call none false (.v (.mp othersM))),(2,.idx (some 0))] [3,4,7,8] (st' := ⟨[(3,ye12),(4,ye5),(7,ye6),(8,(dB true))],(ye14 ws xs k w)⟩)
    (p := callOb Try.prog 34 [(ye1 ws xs k w),ye0,ye0] [] none false (.v (.mp othersM))∧True∧((1 : Int) = 1∧∀ e' ∈ othersM.take 0,(1 : Int) ≠ e'.1)∧True∧True∧True∧True∧True∧True) (by kernel_rfl)
    ⟨others_ok,oK,(by decide),oK,oK,oK,oK,oK,oK⟩ ?_
  refine Ev.seq ?_
  refine Ev.seq ?_
  refine Ev.reg [(8,.val (dB false)),(13,.call none false (ye21 ws)),(14,.val (dB false))] [3,4,7,38] (st' := ⟨[(3,ye12),(4,ye5),(7,ye6),(38,(dB false))],(ye14 ws xs k w)⟩)
    (p := T8 ((True∧(((ws.length : Nat) : Int) != 0) = false)∧T4 (callOb Try.prog 35 (ye14 ws xs k w) (ye29 ws) none false (ye21 ws)∧(True∧(!(ws.all fitsF)) = false)∧True))) (by kernel_rfl)
    ⟨oK,oK,oK,oK,oK,oK,oK,oK,⟨oK,(by rw [h1]; rfl)⟩,oK,oK,oK,oK,(contains_ok _ (by first | omega | (simp; first | done | omega))),⟨oK,(by rw [h2]; rfl)⟩,oK⟩ ?_
  refine Ev.cond false rfl (fun h => (by cases h)) (fun _ => ?_)
  refine Ev.skip ?_
  refine Ev.seq ?_
  refine Ev.reg [(3,.call none false (i6 (if fitsF w = false ∨ k < 0 ∨ maskF w < k then 0 else w))),(4,.val (ye22 ws k w))] [4,7,9] (st' := ⟨[(4,ye5),(7,ye6),(9,(ye22 ws k w))],(ye14 ws xs k w)⟩)
    (p := T3 ((callOb Try.prog 52 (ye14 ws xs k w) [(ye20 ws xs k w)] none false (i6 (if fitsF w = false ∨ k < 0 ∨ maskF w < k then 0 else w)))∧(True∧((if fitsF w = false ∨ k < 0 ∨ maskF w < k then 0 else w) = (wvF 1 ws k w)))∧True)) (by kernel_rfl)
    ⟨oK,oK,oK,(wconst_ok _ _ _ _ (by omega) (by assumption)),⟨oK,(by first | rfl | simp [wvF])⟩,oK⟩ ?_
  refine Ev.seq ?_
  refine Ev.any [(3,.call none false (ye36 ws k w)),(6,.val (dB false))] [((bm 7 0),(zwv_1_1_0 ws xs k w)),((bm 7 1),(zwv_1_1_1 ws xs k w)),((bm 7 2),(zwv_1_1_2 ws xs k w)),((bm 7 4),(zwv_1_1_3 ws xs k w)),((bm 7 3),(zwv_1_1_4 ws xs k w)),((bm 7 5),(zwv_1_1_5 ws xs k w)),((bm 7 6),(zwv_1_1_6 ws xs k w)),((bm 7 12),(zwv_1_1_7 ws xs k w)),((bm 7 7),(zwv_1_1_8 ws xs k w)),((bm 7 13),(zwv_1_1_9 ws xs k w)),((bm 7 14),(zwv_1_1_10 ws xs k w)),((bm 7 15),(zwv_1_1_11 ws xs k w)),((bm 7 29),(zwv_1_1_12 ws xs k w)),((bm 7 31),(zwv_1_1_13 ws xs k w)),((bm 7 63),(zwv_1_1_14 ws xs k w)),((bm 7 127),(zwv_1_1_15 ws xs k w))] (st0 := (zwv_1_1_0 ws xs k w)) (st' := ⟨[(4,ye5),(5,(ye22 ws k w)),(6,(dB false))],(ye43 ws xs k w)⟩)
    (p := ((sE (zwv_1_1_1 ws xs k w) (True))∧(sE (zwv_1_1_2 ws xs k w) (True))∧(sE (zwv_1_1_3 ws xs k w) (True))∧True)∧((sE (zwv_1_1_4 ws xs k w) (True))∧(sE (zwv_1_1_5 ws xs k w) (True))∧True)∧((sE (zwv_1_1_4 ws xs k w) (True))∧(sE (zwv_1_1_6 ws xs k w) (True))∧True)∧((sE (zwv_1_1_5 ws xs k w) (True))∧(sE (zwv_1_1_6 ws xs k w) (True))∧(sE (zwv_1_1_7 ws xs k w) (callOb Try.prog 37 (ye14 ws xs k w) [(ye22 ws k w)] none false (ye36 ws k w)))∧True)∧((sE (zwv_1_1_8 ws xs k w) (True))∧True)∧((sE (zwv_1_1_8 ws xs k w) (True))∧(sE (zwv_1_1_9 ws xs k w) (callOb Try.prog 37 (ye14 ws xs k w) [(ye22 ws k w)] none false (ye36 ws k w)))∧True)∧((sE (zwv_1_1_8 ws xs k w) (True))∧(sE (zwv_1_1_10 ws xs k w) (callOb Try.prog 37 (ye14 ws xs k w) [(ye22 ws k w)] none false (ye36 ws k w)))∧True)∧((sE (zwv_1_1_9 ws xs k w) (True))∧(sE (zwv_1_1_10 ws xs k w) (True))∧True)∧((sE (zwv_1_1_11 ws xs k w) (callOb Try.prog 37 (ye14 ws xs k w) [(ye22 ws k w)] none false (ye36 ws k w)))∧True)∧((sE (zwv_1_1_11 ws xs k w) (True))∧(sE (zwv_1_1_12 ws xs k w) (True))∧True)∧((sE (zwv_1_1_11 ws xs k w) (True))∧True)∧((sE (zwv_1_1_13 ws xs k w) (True))∧True)∧((sE (zwv_1_1_13 ws xs k w) (True))∧True)∧((sE (zwv_1_1_14 ws xs k w) (True))∧True)∧((sE (zwv_1_1_15 ws xs k w) ((True∧(fitsF (wvF 1 ws k w)) = false)))∧True)∧True∧True) (by kernel_rfl) (by kernel_rfl) (by kernel_rfl) (by kernel_rfl) (by kernel_rfl) (by kernel_rfl)
    ⟨⟨⟨rfl,oK,oK⟩,⟨rfl,oK,oK⟩,⟨rfl,oK,oK⟩,oK⟩,⟨⟨rfl,oK,oK⟩,⟨rfl,oK,oK⟩,oK⟩,⟨⟨rfl,oK,oK⟩,⟨rfl,oK,oK⟩,oK⟩,⟨⟨rfl,oK,oK⟩,⟨rfl,oK,oK⟩,⟨rfl,(fits_ok _),oK⟩,oK⟩,⟨⟨rfl,oK,oK⟩,oK⟩,⟨⟨rfl,oK,oK⟩,⟨rfl,(fits_ok _),oK⟩,oK⟩,⟨⟨rfl,oK,oK⟩,⟨rfl,(fits_ok _),oK⟩,oK⟩,⟨⟨rfl,oK,oK⟩,⟨rfl,oK,oK⟩,oK⟩,⟨⟨rfl,(fits_ok _),oK⟩,oK⟩,⟨⟨rfl,oK,oK⟩,⟨rfl,oK,oK⟩,oK⟩,⟨⟨rfl,oK,oK⟩,oK⟩,⟨⟨rfl,oK,oK⟩,oK⟩,⟨⟨rfl,oK,oK⟩,oK⟩,⟨⟨rfl,oK,oK⟩,oK⟩,⟨⟨rfl,⟨oK,(by first | exact h3 | simpa [wvF] using h3)⟩,oK⟩,oK⟩,oK,oK⟩ ?_
  refine Ev.ret ?_
  refine ⟨⟨oK,oK,oK,oK⟩,(?_ : ((0 : Int) = 0∧((.fn (.func 52) [] []) : D) = (.fn (.func 52) [] [])∧((.fn (.func 53) [] []) : D) = (.fn (.func 53) [] [])∧True)∧(wvF 1 ws k w) = (wvF 1 ws k w)∧false = false∧True),.inl rfl⟩
  exact ⟨⟨rfl,rfl,rfl,oK⟩,rfl,rfl,oK⟩

def zg_2_1_0 (ws xs : List Int) (k w : Int) : St := ⟨[(4,ye5),(7,ye6),(9,(ye23 ws k w))],(ye13 ws xs k w)⟩
def zg_2_1_1 (ws xs : List Int) (k w : Int) : St := ⟨[(4,ye5),(7,ye6),(9,(ye23 ws k w)),(44,(.agg ye3))],(ye13 ws xs k w)⟩
def zg_2_1_2 (ws xs : List Int) (k w : Int) : St := ⟨[(4,ye5),(7,ye6),(9,(ye23 ws k w)),(45,(ye23 ws k w))],(ye13 ws xs k w)⟩
def zg_2_1_3 (ws xs : List Int) (k w : Int) : St := ⟨[(4,ye5),(7,ye6),(9,(ye23 ws k w)),(46,(ye23 ws k w))],(ye13 ws xs k w)⟩
def zg_2_1_4 (ws xs : List Int) (k w : Int) : St := ⟨[(4,ye5),(7,ye6),(9,(ye23 ws k w)),(44,(.agg ye3)),(45,(ye23 ws k w))],(ye13 ws xs k w)⟩
def zg_2_1_5 (ws xs : List Int) (k w : Int) : St := ⟨[(4,ye5),(7,ye6),(9,(ye23 ws k w)),(44,(.agg ye3)),(46,(ye23 ws k w))],(ye13 ws xs k w)⟩
def zg_2_1_6 (ws xs : List Int) (k w : Int) : St := ⟨[(4,ye5),(7,ye6),(9,(ye23 ws k w)),(45,(ye23 ws k w)),(46,(ye23 ws k w))],(ye13 ws xs k w)⟩
def zg_2_1_7 (ws xs : List Int) (k w : Int) : St := ⟨[(4,ye5),(7,ye6),(9,(ye23 ws k w)),(46,(ye23 ws k w)),(47,(ye37 ws k w))],(ye13 ws xs k w)⟩
def zg_2_1_8 (ws xs : List Int) (k w : Int) : St := ⟨[(4,ye5),(7,ye6),(9,(ye23 ws k w)),(44,(.agg ye3)),(45,(ye23 ws k w)),(46,(ye23 ws k w))],(ye13 ws xs k w)⟩
def zg_2_1_9 (ws xs : List Int) (k w : Int) : St := ⟨[(4,ye5),(7,ye6),(9,(ye23 ws k w)),(44,(.agg ye3)),(46,(ye23 ws k w)),(47,(ye37 ws k w))],(ye13 ws xs k w)⟩
def zg_2_1_10 (ws xs : List Int) (k w : Int) : St := ⟨[(4,ye5),(7,ye6),(9,(ye23 ws k w)),(45,(ye23 ws k w)),(46,(ye23 ws k w)),(47,(ye37 ws k w))],(ye13 ws xs k w)⟩
def zg_2_1_11 (ws xs : List Int) (k w : Int) : St := ⟨[(4,ye5),(7,ye6),(9,(ye23 ws k w)),(44,(.agg ye3)),(45,(ye23 ws k w)),(46,(ye23 ws k w)),(47,(ye37 ws k w))],(ye13 ws xs k w)⟩
def zg_2_1_12 (ws xs : List Int) (k w : Int) : St := ⟨[(4,ye5),(7,ye6),(9,(ye23 ws k w)),(44,(.agg ye3)),(46,(ye23 ws k w)),(47,(ye37 ws k w))],(ye44 ws xs k w)⟩
def zg_2_1_13 (ws xs : List Int) (k w : Int) : St := ⟨[(4,ye5),(7,ye6),(9,(ye23 ws k w)),(44,(.agg ye3)),(45,(ye23 ws k w)),(46,(ye23 ws k w)),(47,(ye37 ws k w))],(ye44 ws xs k w)⟩
def zg_2_1_14 (ws xs : List Int) (k w : Int) : St := ⟨[(4,ye5),(5,(ye23 ws k w)),(7,ye6),(9,(ye23 ws k w)),(44,(.agg ye3)),(45,(ye23 ws k w)),(46,(ye23 ws k w)),(47,(ye37 ws k w))],(ye44 ws xs k w)⟩
def zg_2_1_15 (ws xs : List Int) (k w : Int) : St := ⟨[(4,ye5),(5,(ye23 ws k w)),(6,(dB true))],(ye44 ws xs k w)⟩
set_option maxRecDepth 100000 in
theorem width_good_2 (ws xs : List Int) (k w : Int) (hw : ws.length ≤ 9223372036854775807) (h : okF 2 ws k w = true) : CallOk Try.prog 27 [(i6 2),(ye20 ws xs k w)] [] true (.tup [(.agg ye3),(ye23 ws k w),(dB true)]) [] := by
  refine CallOk.of_ev Try.func27 rfl rfl rfl ?_
  rintro ⟨_,W,S0,_,susp,_⟩ rfl rfl rfl
  obtain ⟨h1,h2,h3⟩ := ok_yes h
  have hA : arityF 2 = 1 := by decide
  rw [hA] at h1
  refine Ev.seq ?_
  refine Ev.reg [] [0,3,4] (st' := ⟨[(0,(i6 2)),(3,ye12),(4,ye5)],(ye45 ws xs k w)⟩)
    (p := T4 True) (by kernel_rfl)
    ⟨oK,oK,oK,oK,oK⟩ ?_
  refine Ev.seq ?_
  refine Ev.reg [(0,.call none false (.v (.mp simpleM))),(2,.idx (some 0))] [0,3,4,7,8] (st' := ⟨[(0,(i6 2)),(3,ye12),(4,ye5),(7,ye6),(8,(dB true))],(ye13 ws xs k w)⟩)
    (p := callOb Try.prog 33 (ye45 ws xs k w) [] none false (.v (.mp simpleM))∧True∧((2 : Int) = 2∧∀ e' ∈ simpleM.take 0,(2 : Int) ≠ e'.1)∧True∧True∧True∧True∧True∧True∧True) (by kernel_rfl)
    ⟨simple_ok,oK,(by decide),oK,oK,oK,oK,oK,oK,oK⟩ ?_
  refine Ev.seq ?_
  refine Ev.seq ?_
  refine Ev.reg [] [0,3,4,7,8,17] (st' := ⟨ye47,(ye13 ws xs k w)⟩)
    (p := T2 True) (by kernel_rfl)
    ⟨oK,oK,oK⟩ ?_
  refine Ev.cond false rfl (fun h => (by cases h)) (fun _ => ?_)
  refine Ev.skip ?_
  refine Ev.seq ?_
  refine Ev.seq ?_
  refine Ev.reg [(8,.val (dB false)),(13,.call none false (ye21 ws)),(14,.val (dB false))] [3,4,7,38] (st' := ⟨[(3,ye12),(4,ye5),(7,ye6),(38,(dB false))],(ye13 ws xs k w)⟩)
    (p := T8 ((True∧(((ws.length : Nat) : Int) != 1) = false)∧T4 (callOb Try.prog 35 (ye13 ws xs k w) (ye29 ws) none false (ye21 ws)∧(True∧(!(ws.all fitsF)) = false)∧True))) (by kernel_rfl)
    ⟨oK,oK,oK,oK,oK,oK,oK,oK,⟨oK,(by rw [h1]; rfl)⟩,oK,oK,oK,oK,(contains_ok _ (by first | omega | (simp; first | done | omega))),⟨oK,(by rw [h2]; rfl)⟩,oK⟩ ?_
  refine Ev.cond false rfl (fun h => (by cases h)) (fun _ => ?_)
  refine Ev.skip ?_
  refine Ev.seq ?_
  refine Ev.reg [(3,.call none false (i6 (ws.getD 0 0))),(4,.val (ye23 ws k w))] [4,7,9] (st' := ⟨[(4,ye5),(7,ye6),(9,(ye23 ws k w))],(ye13 ws xs k w)⟩)
    (p := T3 (callOb Try.prog 40 (ye13 ws xs k w) [(ye20 ws xs k w)] none false (i6 (ws.getD 0 0))∧(True∧(ws.getD 0 0) = (wvF 2 ws k w))∧True)) (by kernel_rfl)
    ⟨oK,oK,oK,(first_ok _ _ _ _ (by omega) (by assumption)),⟨oK,(by first | rfl | simp [wvF])⟩,oK⟩ ?_
  refine Ev.seq ?_
  refine Ev.any [(3,.call none false (ye37 ws k w)),(6,.val (dB true))] [((bm 7 0),(zg_2_1_0 ws xs k w)),((bm 7 1),(zg_2_1_1 ws xs k w)),((bm 7 2),(zg_2_1_2 ws xs k w)),((bm 7 4),(zg_2_1_3 ws xs k w)),((bm 7 3),(zg_2_1_4 ws xs k w)),((bm 7 5),(zg_2_1_5 ws xs k w)),((bm 7 6),(zg_2_1_6 ws xs k w)),((bm 7 12),(zg_2_1_7 ws xs k w)),((bm 7 7),(zg_2_1_8 ws xs k w)),((bm 7 13),(zg_2_1_9 ws xs k w)),((bm 7 14),(zg_2_1_10 ws xs k w)),((bm 7 15),(zg_2_1_11 ws xs k w)),((bm 7 29),(zg_2_1_12 ws xs k w)),((bm 7 31),(zg_2_1_13 ws xs k w)),((bm 7 63),(zg_2_1_14 ws xs k w)),((bm 7 127),(zg_2_1_15 ws xs k w))] (st0 := (zg_2_1_0 ws xs k w)) (st' := ⟨[(4,ye5),(5,(ye23 ws k w)),(6,(dB true))],(ye44 ws xs k w)⟩)
    (p := ((sE (zg_2_1_1 ws xs k w) (True))∧(sE (zg_2_1_2 ws xs k w) (True))∧(sE (zg_2_1_3 ws xs k w) (True))∧True)∧((sE (zg_2_1_4 ws xs k w) (True))∧(sE (zg_2_1_5 ws xs k w) (True))∧True)∧((sE (zg_2_1_4 ws xs k w) (True))∧(sE (zg_2_1_6 ws xs k w) (True))∧True)∧((sE (zg_2_1_5 ws xs k w) (True))∧(sE (zg_2_1_6 ws xs k w) (True))∧(sE (zg_2_1_7 ws xs k w) (callOb Try.prog 37 (ye13 ws xs k w) [(ye23 ws k w)] none false (ye37 ws k w)))∧True)∧((sE (zg_2_1_8 ws xs k w) (True))∧True)∧((sE (zg_2_1_8 ws xs k w) (True))∧(sE (zg_2_1_9 ws xs k w) (callOb Try.prog 37 (ye13 ws xs k w) [(ye23 ws k w)] none false (ye37 ws k w)))∧True)∧((sE (zg_2_1_8 ws xs k w) (True))∧(sE (zg_2_1_10 ws xs k w) (callOb Try.prog 37 (ye13 ws xs k w) [(ye23 ws k w)] none false (ye37 ws k w)))∧True)∧((sE (zg_2_1_9 ws xs k w) (True))∧(sE (zg_2_1_10 ws xs k w) (True))∧True)∧((sE (zg_2_1_11 ws xs k w) (callOb Try.prog 37 (ye13 ws xs k w) [(ye23 ws k w)] none false (ye37 ws k w)))∧True)∧((sE (zg_2_1_11 ws xs k w) (True))∧(sE (zg_2_1_12 ws xs k w) (True))∧True)∧((sE (zg_2_1_11 ws xs k w) (True))∧True)∧((sE (zg_2_1_13 ws xs k w) (True))∧True)∧((sE (zg_2_1_13 ws xs k w) (True))∧True)∧((sE (zg_2_1_14 ws xs k w) (True))∧True)∧((sE (zg_2_1_15 ws xs k w) ((True∧(fitsF (wvF 2 ws k w)) = true)))∧True)∧True∧True) (by kernel_rfl) (by kernel_rfl) (by kernel_rfl) (by kernel_rfl) (by kernel_rfl) (by kernel_rfl)
    ⟨⟨⟨rfl,oK,oK⟩,⟨rfl,oK,oK⟩,⟨rfl,oK,oK⟩,oK⟩,⟨⟨rfl,oK,oK⟩,⟨rfl,oK,oK⟩,oK⟩,⟨⟨rfl,oK,oK⟩,⟨rfl,oK,oK⟩,oK⟩,⟨⟨rfl,oK,oK⟩,⟨rfl,oK,oK⟩,⟨rfl,(fits_ok _),oK⟩,oK⟩,⟨⟨rfl,oK,oK⟩,oK⟩,⟨⟨rfl,oK,oK⟩,⟨rfl,(fits_ok _),oK⟩,oK⟩,⟨⟨rfl,oK,oK⟩,⟨rfl,(fits_ok _),oK⟩,oK⟩,⟨⟨rfl,oK,oK⟩,⟨rfl,oK,oK⟩,oK⟩,⟨⟨rfl,(fits_ok _),oK⟩,oK⟩,⟨⟨rfl,oK,oK⟩,⟨rfl,oK,oK⟩,oK⟩,⟨⟨rfl,oK,oK⟩,oK⟩,⟨⟨rfl,oK,oK⟩,oK⟩,⟨⟨rfl,oK,oK⟩,oK⟩,⟨⟨rfl,oK,oK⟩,oK⟩,⟨⟨rfl,⟨oK,(by first | exact h3 | simpa [wvF] using h3)⟩,oK⟩,oK⟩,oK,oK⟩ ?_
  refine Ev.ret ?_
  refine ⟨⟨oK,oK,oK,oK⟩,(?_ : ((1 : Int) = 1∧((.fn (.func 40) [] []) : D) = (.fn (.func 40) [] [])∧((.fn (.func 41) [] []) : D) = (.fn (.func 41) [] [])∧True)∧(wvF 2 ws k w) = (wvF 2 ws k w)∧true = true∧True),.inl rfl⟩
  exact ⟨⟨rfl,rfl,rfl,oK⟩,rfl,rfl,oK⟩

set_option maxRecDepth 100000 in
theorem width_bad_2 (ws xs : List Int) (k w : Int) (hw : ws.length ≤ 9223372036854775807) (h : okB 2 ws = false) : CallOk Try.prog 27 [(i6 2),(ye20 ws xs k w)] [] true ye35 [] := by
  refine CallOk.of_ev Try.func27 rfl rfl rfl ?_
  rintro ⟨_,W,S0,_,susp,_⟩ rfl rfl rfl
  refine Ev.seq ?_
  refine Ev.reg [] [0,3,4] (st' := ⟨[(0,(i6 2)),(3,ye12),(4,ye5)],(ye45 ws xs k w)⟩)
    (p := T4 True) (by kernel_rfl)
    ⟨oK,oK,oK,oK,oK⟩ ?_
  refine Ev.seq ?_
  refine Ev.reg [(0,.call none false (.v (.mp simpleM))),(2,.idx (some 0))] [0,3,4,7,8] (st' := ⟨[(0,(i6 2)),(3,ye12),(4,ye5),(7,ye6),(8,(dB true))],(ye13 ws xs k w)⟩)
    (p := callOb Try.prog 33 (ye45 ws xs k w) [] none false (.v (.mp simpleM))∧True∧((2 : Int) = 2∧∀ e' ∈ simpleM.take 0,(2 : Int) ≠ e'.1)∧True∧True∧True∧True∧True∧True∧True) (by kernel_rfl)
    ⟨simple_ok,oK,(by decide),oK,oK,oK,oK,oK,oK,oK⟩ ?_
  refine Ev.seq ?_
  refine Ev.seq ?_
  refine Ev.reg [] [0,3,4,7,8,17] (st' := ⟨ye47,(ye13 ws xs k w)⟩)
    (p := T2 True) (by kernel_rfl)
    ⟨oK,oK,oK⟩ ?_
  refine Ev.cond false rfl (fun h => (by cases h)) (fun _ => ?_)
  refine Ev.skip ?_
  refine Ev.seq ?_
  refine Ev.seq ?_
  rcases okB_no h with h1 | ⟨h1,h2⟩
  · skip
    have hA : arityF 2 = 1 := by decide
    rw [hA] at h1
    refine Ev.reg [(8,.val (dB true))] [3,4,7,38] (st' := ⟨[(3,ye12),(4,ye5),(7,ye6),(38,(dB true))],(ye13 ws xs k w)⟩)
      (p := T8 ((True∧(((ws.length : Nat) : Int) != 1) = true)∧T6 True)) (by kernel_rfl)
      ⟨oK,oK,oK,oK,oK,oK,oK,oK,⟨oK,(by exact bne_iff_ne.2 (by omega))⟩,oK,oK,oK,oK,oK,oK,oK⟩ ?_
    refine Ev.cond true rfl (fun _ => ?_) (fun h => (by cases h))
    refine Ev.seq ?_
    refine Ev.reg [] [4,5,6] (st' := ⟨[(4,ye5),(5,(i6 0)),(6,(dB false))],(ye13 ws xs k w)⟩)
      (p := T4 True) (by kernel_rfl)
      ⟨oK,oK,oK,oK,oK⟩ ?_
    refine Ev.ret ?_
    refine ⟨⟨oK,oK,oK,oK⟩,(?_ : ((0 : Int) = 0∧True∧True∧True)∧(0 : Int) = 0∧false = false∧True),.inl rfl⟩
    exact ⟨⟨rfl,oK,oK,oK⟩,rfl,rfl,oK⟩
  · skip
    have hA : arityF 2 = 1 := by decide
    rw [hA] at h1
    refine Ev.reg [(8,.val (dB false)),(13,.call none false (ye21 ws)),(14,.val (dB true))] [3,4,7,38] (st' := ⟨[(3,ye12),(4,ye5),(7,ye6),(38,(dB true))],(ye13 ws xs k w)⟩)
      (p := T8 ((True∧(((ws.length : Nat) : Int) != 1) = false)∧T4 (callOb Try.prog 35 (ye13 ws xs k w) (ye29 ws) none false (ye21 ws)∧(True∧(!(ws.all fitsF)) = true)∧True))) (by kernel_rfl)
      ⟨oK,oK,oK,oK,oK,oK,oK,oK,⟨oK,(by rw [h1]; rfl)⟩,oK,oK,oK,oK,(contains_ok _ (by first | omega | (simp; first | done | omega))),⟨oK,(by rw [h2]; rfl)⟩,oK⟩ ?_
    refine Ev.cond true rfl (fun _ => ?_) (fun h => (by cases h))
    refine Ev.seq ?_
    refine Ev.reg [] [4,5,6] (st' := ⟨[(4,ye5),(5,(i6 0)),(6,(dB false))],(ye13 ws xs k w)⟩)
      (p := T4 True) (by kernel_rfl)
      ⟨oK,oK,oK,oK,oK⟩ ?_
    refine Ev.ret ?_
    refine ⟨⟨oK,oK,oK,oK⟩,(?_ : ((0 : Int) = 0∧True∧True∧True)∧(0 : Int) = 0∧false = false∧True),.inl rfl⟩
    exact ⟨⟨rfl,oK,oK,oK⟩,rfl,rfl,oK⟩

def zwv_2_1_0 (ws xs : List Int) (k w : Int) : St := ⟨[(4,ye5),(7,ye6),(9,(ye23 ws k w))],(ye13 ws xs k w)⟩
def zwv_2_1_1 (ws xs : List Int) (k w : Int) : St := ⟨[(4,ye5),(7,ye6),(9,(ye23 ws k w)),(44,(.agg ye3))],(ye13 ws xs k w)⟩
def zwv_2_1_2 (ws xs : List Int) (k w : Int) : St := ⟨[(4,ye5),(7,ye6),(9,(ye23 ws k w)),(45,(ye23 ws k w))],(ye13 ws xs k w)⟩
def zwv_2_1_3 (ws xs : List Int) (k w : Int) : St := ⟨[(4,ye5),(7,ye6),(9,(ye23 ws k w)),(46,(ye23 ws k w))],(ye13 ws xs k w)⟩
def zwv_2_1_4 (ws xs : List Int) (k w : Int) : St := ⟨[(4,ye5),(7,ye6),(9,(ye23 ws k w)),(44,(.agg ye3)),(45,(ye23 ws k w))],(ye13 ws xs k w)⟩
def zwv_2_1_5 (ws xs : List Int) (k w : Int) : St := ⟨[(4,ye5),(7,ye6),(9,(ye23 ws k w)),(44,(.agg ye3)),(46,(ye23 ws k w))],(ye13 ws xs k w)⟩
def zwv_2_1_6 (ws xs : List Int) (k w : Int) : St := ⟨[(4,ye5),(7,ye6),(9,(ye23 ws k w)),(45,(ye23 ws k w)),(46,(ye23 ws k w))],(ye13 ws xs k w)⟩
def zwv_2_1_7 (ws xs : List Int) (k w : Int) : St := ⟨[(4,ye5),(7,ye6),(9,(ye23 ws k w)),(46,(ye23 ws k w)),(47,(ye37 ws k w))],(ye13 ws xs k w)⟩
def zwv_2_1_8 (ws xs : List Int) (k w : Int) : St := ⟨[(4,ye5),(7,ye6),(9,(ye23 ws k w)),(44,(.agg ye3)),(45,(ye23 ws k w)),(46,(ye23 ws k w))],(ye13 ws xs k w)⟩
def zwv_2_1_9 (ws xs : List Int) (k w : Int) : St := ⟨[(4,ye5),(7,ye6),(9,(ye23 ws k w)),(44,(.agg ye3)),(46,(ye23 ws k w)),(47,(ye37 ws k w))],(ye13 ws xs k w)⟩
def zwv_2_1_10 (ws xs : List Int) (k w : Int) : St := ⟨[(4,ye5),(7,ye6),(9,(ye23 ws k w)),(45,(ye23 ws k w)),(46,(ye23 ws k w)),(47,(ye37 ws k w))],(ye13 ws xs k w)⟩
def zwv_2_1_11 (ws xs : List Int) (k w : Int) : St := ⟨[(4,ye5),(7,ye6),(9,(ye23 ws k w)),(44,(.agg ye3)),(45,(ye23 ws k w)),(46,(ye23 ws k w)),(47,(ye37 ws k w))],(ye13 ws xs k w)⟩
def zwv_2_1_12 (ws xs : List Int) (k w : Int) : St := ⟨[(4,ye5),(7,ye6),(9,(ye23 ws k w)),(44,(.agg ye3)),(46,(ye23 ws k w)),(47,(ye37 ws k w))],(ye44 ws xs k w)⟩
def zwv_2_1_13 (ws xs : List Int) (k w : Int) : St := ⟨[(4,ye5),(7,ye6),(9,(ye23 ws k w)),(44,(.agg ye3)),(45,(ye23 ws k w)),(46,(ye23 ws k w)),(47,(ye37 ws k w))],(ye44 ws xs k w)⟩
def zwv_2_1_14 (ws xs : List Int) (k w : Int) : St := ⟨[(4,ye5),(5,(ye23 ws k w)),(7,ye6),(9,(ye23 ws k w)),(44,(.agg ye3)),(45,(ye23 ws k w)),(46,(ye23 ws k w)),(47,(ye37 ws k w))],(ye44 ws xs k w)⟩
def zwv_2_1_15 (ws xs : List Int) (k w : Int) : St := ⟨[(4,ye5),(5,(ye23 ws k w)),(6,(dB false))],(ye44 ws xs k w)⟩
set_option maxRecDepth 100000 in
theorem width_wv_2 (ws xs : List Int) (k w : Int) (hw : ws.length ≤ 9223372036854775807) (h : okB 2 ws = true) (h3 : fitsF (wvF 2 ws k w) = false) : CallOk Try.prog 27 [(i6 2),(ye20 ws xs k w)] [] true (.tup [(.agg ye3),(ye23 ws k w),(dB false)]) [] := by
  refine CallOk.of_ev Try.func27 rfl rfl rfl ?_
  rintro ⟨_,W,S0,_,susp,_⟩ rfl rfl rfl
  obtain ⟨h1,h2⟩ := okB_yes h
  have hA : arityF 2 = 1 := by decide
  rw [hA] at h1
  refine Ev.seq ?_
  refine Ev.reg [] [0,3,4] (st' := ⟨[(0,(i6 2)),(3,ye12),(4,ye5)],(ye45 ws xs k w)⟩)
    (p := T4 True) (by kernel_rfl)
    ⟨oK,oK,oK,oK,oK⟩ ?_
  refine Ev.seq ?_
  refine Ev.reg [(0,.call none false (.v (.mp simpleM))),(2,.idx (some 0))] [0,3,4,7,8] (st' := ⟨[(0,(i6 2)),(3,ye12),(4,ye5),(7,ye6),(8,(dB true))],(ye13 ws xs k w)⟩)
    (p := callOb Try.prog 33 (ye45 ws xs k w) [] none false (.v (.mp simpleM))∧True∧((2 : Int) = 2∧∀ e' ∈ simpleM.take 0,(2 : Int) ≠ e'.1)∧True∧True∧True∧True∧True∧True∧True) (by kernel_rfl)
    ⟨simple_ok,oK,(by decide),oK,oK,oK,oK,oK,oK,oK⟩ ?_
  refine Ev.seq ?_
  refine Ev.seq ?_
  refine Ev.reg [] [0,3,4,7,8,17] (st' := ⟨ye47,(ye13 ws xs k w)⟩)
    (p := T2 True) (by kernel_rfl)
    ⟨oK,oK,oK⟩ ?_
  refine Ev.cond false rfl (fun h => (by cases h)) (fun _ => ?_)
  refine Ev.skip ?_
  refine Ev.seq ?_
  refine Ev.seq ?_
  refine Ev.reg [(8,.val (dB false)),(13,.call none false (ye21 ws)),(14,.val (dB false))] [3,4,7,38] (st' := ⟨[(3,ye12),(4,ye5),(7,ye6),(38,(dB false))],(ye13 ws xs k w)⟩)
    (p := T8 ((True∧(((ws.length : Nat) : Int) != 1) = false)∧T4 (callOb Try.prog 35 (ye13 ws xs k w) (ye29 ws) none false (ye21 ws)∧(True∧(!(ws.all fitsF)) = false)∧True))) (by kernel_rfl)
    ⟨oK,oK,oK,oK,oK,oK,oK,oK,⟨oK,(by rw [h1]; rfl)⟩,oK,oK,oK,oK,(contains_ok _ (by first | omega | (simp; first | done | omega))),⟨oK,(by rw [h2]; rfl)⟩,oK⟩ ?_
  refine Ev.cond false rfl (fun h => (by cases h)) (fun _ => ?_)
  refine Ev.skip ?_
  refine Ev.seq ?_
  refine Ev.reg [(3,.call none false (i6 (ws.getD 0 0))),(4,.val (ye23 ws k w))] [4,7,9] (st' := ⟨[(4,ye5),(7,ye6),(9,(ye23 ws k w))],(ye13 ws xs k w)⟩)
    (p := T3 (callOb Try.prog 40 (ye13 ws xs k w) [(ye20 ws xs k w)] none false (i6 (ws.getD 0 0))∧(True∧(ws.getD 0 0) = (wvF 2 ws k w))∧True)) (by kernel_rfl)
    ⟨oK,oK,oK,(first_ok _ _ _ _ (by omega) (by assumption)),⟨oK,(by first | rfl | simp [wvF])⟩,oK⟩ ?_
  refine Ev.seq ?_
  refine Ev.any [(3,.call none false (ye37 ws k w)),(6,.val (dB false))] [((bm 7 0),(zwv_2_1_0 ws xs k w)),((bm 7 1),(zwv_2_1_1 ws xs k w)),((bm 7 2),(zwv_2_1_2 ws xs k w)),((bm 7 4),(zwv_2_1_3 ws xs k w)),((bm 7 3),(zwv_2_1_4 ws xs k w)),((bm 7 5),(zwv_2_1_5 ws xs k w)),((bm 7 6),(zwv_2_1_6 ws xs k w)),((bm 7 12),(zwv_2_1_7 ws xs k w)),((bm 7 7),(zwv_2_1_8 ws xs k w)),((bm 7 13),(zwv_2_1_9 ws xs k w)),((bm 7 14),(zwv_2_1_10 ws xs k w)),((bm 7 15),(zwv_2_1_11 ws xs k w)),((bm 7 29),(zwv_2_1_12 ws xs k w)),((bm 7 31),(zwv_2_1_13 ws xs k w)),((bm 7 63),(zwv_2_1_14 ws xs k w)),((bm 7 127),(zwv_2_1_15 ws xs k w))] (st0 := (zwv_2_1_0 ws xs k w)) (st' := ⟨[(4,ye5),(5,(ye23 ws k w)),(6,(dB false))],(ye44 ws xs k w)⟩)
    (p := ((sE (zwv_2_1_1 ws xs k w) (True))∧(sE (zwv_2_1_2 ws xs k w) (True))∧(sE (zwv_2_1_3 ws xs k w) (True))∧True)∧((sE (zwv_2_1_4 ws xs k w) (True))∧(sE (zwv_2_1_5 ws xs k w) (True))∧True)∧((sE (zwv_2_1_4 ws xs k w) (True))∧(sE (zwv_2_1_6 ws xs k w) (True))∧True)∧((sE (zwv_2_1_5 ws xs k w) (True))∧(sE (zwv_2_1_6 ws xs k w) (True))∧(sE (zwv_2_1_7 ws xs k w) (callOb Try.prog 37 (ye13 ws xs k w) [(ye23 ws k w)] none false (ye37 ws k w)))∧True)∧((sE (zwv_2_1_8 ws xs k w) (True))∧True)∧((sE (zwv_2_1_8 ws xs k w) (True))∧(sE (zwv_2_1_9 ws xs k w) (callOb Try.prog 37 (ye13 ws xs k w) [(ye23 ws k w)] none false (ye37 ws k w)))∧True)∧((sE (zwv_2_1_8 ws xs k w) (True))∧(sE (zwv_2_1_10 ws xs k w) (callOb Try.prog 37 (ye13 ws xs k w) [(ye23 ws k w)] none false (ye37 ws k w)))∧True)∧((sE (zwv_2_1_9 ws xs k w) (True))∧(sE (zwv_2_1_10 ws xs k w) (True))∧True)∧((sE (zwv_2_1_11 ws xs k w) (callOb Try.prog 37 (ye13 ws xs k w) [(ye23 ws k w)] none false (ye37 ws k w)))∧True)∧((sE (zwv_2_1_11 ws xs k w) (True))∧(sE (zwv_2_1_12 ws xs k w) (True))∧True)∧((sE (zwv_2_1_11 ws xs k w) (True))∧True)∧((sE (zwv_2_1_13 ws xs k w) (True))∧True)∧((sE (zwv_2_1_13 ws xs k w) (True))∧True)∧((sE (zwv_2_1_14 ws xs k w) (True))∧True)∧((sE (zwv_2_1_15 ws xs k w) ((True∧(fitsF (wvF 2 ws k w)) = false)))∧True)∧True∧True) (by kernel_rfl) (by kernel_rfl) (by kernel_rfl) (by kernel_rfl) (by kernel_rfl) (by kernel_rfl)
    ⟨⟨⟨rfl,oK,oK⟩,⟨rfl,oK,oK⟩,⟨rfl,oK,oK⟩,oK⟩,⟨⟨rfl,oK,oK⟩,⟨rfl,oK,oK⟩,oK⟩,⟨⟨rfl,oK,oK⟩,⟨rfl,oK,oK⟩,oK⟩,⟨⟨rfl,oK,oK⟩,⟨rfl,oK,oK⟩,⟨rfl,(fits_ok _),oK⟩,oK⟩,⟨⟨rfl,oK,oK⟩,oK⟩,⟨⟨rfl,oK,oK⟩,⟨rfl,(fits_ok _),oK⟩,oK⟩,⟨⟨rfl,oK,oK⟩,⟨rfl,(fits_ok _),oK⟩,oK⟩,⟨⟨rfl,oK,oK⟩,⟨rfl,oK,oK⟩,oK⟩,⟨⟨rfl,(fits_ok _),oK⟩,oK⟩,⟨⟨rfl,oK,oK⟩,⟨rfl,oK,oK⟩,oK⟩,⟨⟨rfl,oK,oK⟩,oK⟩,⟨⟨rfl,oK,oK⟩,oK⟩,⟨⟨rfl,oK,oK⟩,oK⟩,⟨⟨rfl,oK,oK⟩,oK⟩,⟨⟨rfl,⟨oK,(by first | exact h3 | simpa [wvF] using h3)⟩,oK⟩,oK⟩,oK,oK⟩ ?_
  refine Ev.ret ?_
  refine ⟨⟨oK,oK,oK,oK⟩,(?_ : ((1 : Int) = 1∧((.fn (.func 40) [] []) : D) = (.fn (.func 40) [] [])∧((.fn (.func 41) [] []) : D) = (.fn (.func 41) [] [])∧True)∧(wvF 2 ws k w) = (wvF 2 ws k w)∧false = false∧True),.inl rfl⟩
  exact ⟨⟨rfl,rfl,rfl,oK⟩,rfl,rfl,oK⟩

def zg_3_1_0 (ws xs : List Int) (k w : Int) : St := ⟨[(4,ye5),(7,ye6),(9,(ye24 ws k w))],(ye32 ws xs k w)⟩
def zg_3_1_1 (ws xs : List Int) (k w : Int) : St := ⟨[(4,ye5),(7,ye6),(9,(ye24 ws k w)),(44,ye15)],(ye32 ws xs k w)⟩
def zg_3_1_2 (ws xs : List Int) (k w : Int) : St := ⟨[(4,ye5),(7,ye6),(9,(ye24 ws k w)),(45,(ye24 ws k w))],(ye32 ws xs k w)⟩
def zg_3_1_3 (ws xs : List Int) (k w : Int) : St := ⟨[(4,ye5),(7,ye6),(9,(ye24 ws k w)),(46,(ye24 ws k w))],(ye32 ws xs k w)⟩
def zg_3_1_4 (ws xs : List Int) (k w : Int) : St := ⟨[(4,ye5),(7,ye6),(9,(ye24 ws k w)),(44,ye15),(45,(ye24 ws k w))],(ye32 ws xs k w)⟩
def zg_3_1_5 (ws xs : List Int) (k w : Int) : St := ⟨[(4,ye5),(7,ye6),(9,(ye24 ws k w)),(44,ye15),(46,(ye24 ws k w))],(ye32 ws xs k w)⟩
def zg_3_1_6 (ws xs : List Int) (k w : Int) : St := ⟨[(4,ye5),(7,ye6),(9,(ye24 ws k w)),(45,(ye24 ws k w)),(46,(ye24 ws k w))],(ye32 ws xs k w)⟩
def zg_3_1_7 (ws xs : List Int) (k w : Int) : St := ⟨[(4,ye5),(7,ye6),(9,(ye24 ws k w)),(46,(ye24 ws k w)),(47,(ye38 ws k w))],(ye32 ws xs k w)⟩
def zg_3_1_8 (ws xs : List Int) (k w : Int) : St := ⟨[(4,ye5),(7,ye6),(9,(ye24 ws k w)),(44,ye15),(45,(ye24 ws k w)),(46,(ye24 ws k w))],(ye32 ws xs k w)⟩
def zg_3_1_9 (ws xs : List Int) (k w : Int) : St := ⟨[(4,ye5),(7,ye6),(9,(ye24 ws k w)),(44,ye15),(46,(ye24 ws k w)),(47,(ye38 ws k w))],(ye32 ws xs k w)⟩
def zg_3_1_10 (ws xs : List Int) (k w : Int) : St := ⟨[(4,ye5),(7,ye6),(9,(ye24 ws k w)),(45,(ye24 ws k w)),(46,(ye24 ws k w)),(47,(ye38 ws k w))],(ye32 ws xs k w)⟩
def zg_3_1_11 (ws xs : List Int) (k w : Int) : St := ⟨[(4,ye5),(7,ye6),(9,(ye24 ws k w)),(44,ye15),(45,(ye24 ws k w)),(46,(ye24 ws k w)),(47,(ye38 ws k w))],(ye32 ws xs k w)⟩
def zg_3_1_12 (ws xs : List Int) (k w : Int) : St := ⟨[(4,ye5),(7,ye6),(9,(ye24 ws k w)),(44,ye15),(46,(ye24 ws k w)),(47,(ye38 ws k w))],[(ye1 ws xs k w),ye7,ye7]⟩
def zg_3_1_13 (ws xs : List Int) (k w : Int) : St := ⟨[(4,ye5),(7,ye6),(9,(ye24 ws k w)),(44,ye15),(45,(ye24 ws k w)),(46,(ye24 ws k w)),(47,(ye38 ws k w))],[(ye1 ws xs k w),ye7,ye7]⟩
def zg_3_1_14 (ws xs : List Int) (k w : Int) : St := ⟨[(4,ye5),(5,(ye24 ws k w)),(7,ye6),(9,(ye24 ws k w)),(44,ye15),(45,(ye24 ws k w)),(46,(ye24 ws k w)),(47,(ye38 ws k w))],[(ye1 ws xs k w),ye7,ye7]⟩
def zg_3_1_15 (ws xs : List Int) (k w : Int) : St := ⟨[(4,ye5),(5,(ye24 ws k w)),(6,(dB true))],[(ye1 ws xs k w),ye7,ye7]⟩
set_option maxRecDepth 100000 in
theorem width_good_3 (ws xs : List Int) (k w : Int) (hw : ws.length ≤ 9223372036854775807) (h : okF 3 ws k w = true) : CallOk Try.prog 27 [(i6 3),(ye20 ws xs k w)] [] true (.tup [ye15,(ye24 ws k w),(dB true)]) [] := by
  refine CallOk.of_ev Try.func27 rfl rfl rfl ?_
  rintro ⟨_,W,S0,_,susp,_⟩ rfl rfl rfl
  obtain ⟨h1,h2,h3⟩ := ok_yes h
  have hA : arityF 3 = 2 := by decide
  rw [hA] at h1
  refine Ev.seq ?_
  refine Ev.reg [] [0,3,4] (st' := ⟨[(0,(i6 3)),(3,ye12),(4,ye5)],(ye45 ws xs k w)⟩)
    (p := T4 True) (by kernel_rfl)
    ⟨oK,oK,oK,oK,oK⟩ ?_
  refine Ev.seq ?_
  refine Ev.reg [(0,.call none false (.v (.mp simpleM))),(2,.idx (some 1))] [0,3,4,7,8] (st' := ⟨[(0,(i6 3)),(3,ye12),(4,ye5),(7,ye6),(8,(dB true))],(ye32 ws xs k w)⟩)
    (p := callOb Try.prog 33 (ye45 ws xs k w) [] none false (.v (.mp simpleM))∧True∧((3 : Int) = 3∧∀ e' ∈ simpleM.take 1,(3 : Int) ≠ e'.1)∧True∧True∧True∧True∧True∧True∧True) (by kernel_rfl)
    ⟨simple_ok,oK,(by decide),oK,oK,oK,oK,oK,oK,oK⟩ ?_
  refine Ev.seq ?_
  refine Ev.seq ?_
  refine Ev.reg [] [0,3,4,7,8,17] (st' := ⟨ye48,(ye32 ws xs k w)⟩)
    (p := T2 True) (by kernel_rfl)
    ⟨oK,oK,oK⟩ ?_
  refine Ev.cond false rfl (fun h => (by cases h)) (fun _ => ?_)
  refine Ev.skip ?_
  refine Ev.seq ?_
  refine Ev.seq ?_
  refine Ev.reg [(8,.val (dB false)),(13,.call none false (ye21 ws)),(14,.val (dB false))] [3,4,7,38] (st' := ⟨[(3,ye12),(4,ye5),(7,ye6),(38,(dB false))],(ye32 ws xs k w)⟩)
    (p := T8 ((True∧(((ws.length : Nat) : Int) != 2) = false)∧T4 (callOb Try.prog 35 (ye32 ws xs k w) (ye29 ws) none false (ye21 ws)∧(True∧(!(ws.all fitsF)) = false)∧True))) (by kernel_rfl)
    ⟨oK,oK,oK,oK,oK,oK,oK,oK,⟨oK,(by rw [h1]; rfl)⟩,oK,oK,oK,oK,(contains_ok _ (by first | omega | (simp; first | done | omega))),⟨oK,(by rw [h2]; rfl)⟩,oK⟩ ?_
  refine Ev.cond false rfl (fun h => (by cases h)) (fun _ => ?_)
  refine Ev.skip ?_
  refine Ev.seq ?_
  refine Ev.reg [(3,.call none false (ye53 ws)),(4,.val (ye24 ws k w))] [4,7,9] (st' := ⟨[(4,ye5),(7,ye6),(9,(ye24 ws k w))],(ye32 ws xs k w)⟩)
    (p := T3 (callOb Try.prog 43 (ye32 ws xs k w) [(ye20 ws xs k w)] none false (ye53 ws)∧(True∧(alikeF ws) = (wvF 3 ws k w))∧True)) (by kernel_rfl)
    ⟨oK,oK,oK,(alike_ok _ _ _ _ (by omega) (by assumption)),⟨oK,(by first | rfl | simp [wvF])⟩,oK⟩ ?_
  refine Ev.seq ?_
  refine Ev.any [(3,.call none false (ye38 ws k w)),(6,.val (dB true))] [((bm 7 0),(zg_3_1_0 ws xs k w)),((bm 7 1),(zg_3_1_1 ws xs k w)),((bm 7 2),(zg_3_1_2 ws xs k w)),((bm 7 4),(zg_3_1_3 ws xs k w)),((bm 7 3),(zg_3_1_4 ws xs k w)),((bm 7 5),(zg_3_1_5 ws xs k w)),((bm 7 6),(zg_3_1_6 ws xs k w)),((bm 7 12),(zg_3_1_7 ws xs k w)),((bm 7 7),(zg_3_1_8 ws xs k w)),((bm 7 13),(zg_3_1_9 ws xs k w)),((bm 7 14),(zg_3_1_10 ws xs k w)),((bm 7 15),(zg_3_1_11 ws xs k w)),((bm 7 29),(zg_3_1_12 ws xs k w)),((bm 7 31),(zg_3_1_13 ws xs k w)),((bm 7 63),(zg_3_1_14 ws xs k w)),((bm 7 127),(zg_3_1_15 ws xs k w))] (st0 := (zg_3_1_0 ws xs k w)) (st' := ⟨[(4,ye5),(5,(ye24 ws k w)),(6,(dB true))],[(ye1 ws xs k w),ye7,ye7]⟩)
    (p := ((sE (zg_3_1_1 ws xs k w) (True))∧(sE (zg_3_1_2 ws xs k w) (True))∧(sE (zg_3_1_3 ws xs k w) (True))∧True)∧((sE (zg_3_1_4 ws xs k w) (True))∧(sE (zg_3_1_5 ws xs k w) (True))∧True)∧((sE (zg_3_1_4 ws xs k w) (True))∧(sE (zg_3_1_6 ws xs k w) (True))∧True)∧((sE (zg_3_1_5 ws xs k w) (True))∧(sE (zg_3_1_6 ws xs k w) (True))∧(sE (zg_3_1_7 ws xs k w) (callOb Try.prog 37 (ye32 ws xs k w) [(ye24 ws k w)] none false (ye38 ws k w)))∧True)∧((sE (zg_3_1_8 ws xs k w) (True))∧True)∧((sE (zg_3_1_8 ws xs k w) (True))∧(sE (zg_3_1_9 ws xs k w) (callOb Try.prog 37 (ye32 ws xs k w) [(ye24 ws k w)] none false (ye38 ws k w)))∧True)∧((sE (zg_3_1_8 ws xs k w) (True))∧(sE (zg_3_1_10 ws xs k w) (callOb Try.prog 37 (ye32 ws xs k w) [(ye24 ws k w)] none false (ye38 ws k w)))∧True)∧((sE (zg_3_1_9 ws xs k w) (True))∧(sE (zg_3_1_10 ws xs k w) (True))∧True)∧((sE (zg_3_1_11 ws xs k w) (callOb Try.prog 37 (ye32 ws xs k w) [(ye24 ws k w)] none false (ye38 ws k w)))∧True)∧((sE (zg_3_1_11 ws xs k w) (True))∧(sE (zg_3_1_12 ws xs k w) (True))∧True)∧((sE (zg_3_1_11 ws xs k w) (True))∧True)∧((sE (zg_3_1_13 ws xs k w) (True))∧True)∧((sE (zg_3_1_13 ws xs k w) (True))∧True)∧((sE (zg_3_1_14 ws xs k w) (True))∧True)∧((sE (zg_3_1_15 ws xs k w) ((True∧(fitsF (wvF 3 ws k w)) = true)))∧True)∧True∧True) (by kernel_rfl) (by kernel_rfl) (by kernel_rfl) (by kernel_rfl) (by kernel_rfl) (by kernel_rfl)
    ⟨⟨⟨rfl,oK,oK⟩,⟨rfl,oK,oK⟩,⟨rfl,oK,oK⟩,oK⟩,⟨⟨rfl,oK,oK⟩,⟨rfl,oK,oK⟩,oK⟩,⟨⟨rfl,oK,oK⟩,⟨rfl,oK,oK⟩,oK⟩,⟨⟨rfl,oK,oK⟩,⟨rfl,oK,oK⟩,⟨rfl,(fits_ok _),oK⟩,oK⟩,⟨⟨rfl,oK,oK⟩,oK⟩,⟨⟨rfl,oK,oK⟩,⟨rfl,(fits_ok _),oK⟩,oK⟩,⟨⟨rfl,oK,oK⟩,⟨rfl,(fits_ok _),oK⟩,oK⟩,⟨⟨rfl,oK,oK⟩,⟨rfl,oK,oK⟩,oK⟩,⟨⟨rfl,(fits_ok _),oK⟩,oK⟩,⟨⟨rfl,oK,oK⟩,⟨rfl,oK,oK⟩,oK⟩,⟨⟨rfl,oK,oK⟩,oK⟩,⟨⟨rfl,oK,oK⟩,oK⟩,⟨⟨rfl,oK,oK⟩,oK⟩,⟨⟨rfl,oK,oK⟩,oK⟩,⟨⟨rfl,⟨oK,(by first | exact h3 | simpa [wvF] using h3)⟩,oK⟩,oK⟩,oK,oK⟩ ?_
  refine Ev.ret ?_
  refine ⟨⟨oK,oK,oK,oK⟩,(?_ : ((2 : Int) = 2∧(ye2 : D) = ye2∧((.fn (.func 44) [] []) : D) = (.fn (.func 44) [] [])∧True)∧(wvF 3 ws k w) = (wvF 3 ws k w)∧true = true∧True),.inl rfl⟩
  exact ⟨⟨rfl,rfl,rfl,oK⟩,rfl,rfl,oK⟩

set_option maxRecDepth 100000 in
theorem width_bad_3 (ws xs : List Int) (k w : Int) (hw : ws.length ≤ 9223372036854775807) (h : okB 3 ws = false) : CallOk Try.prog 27 [(i6 3),(ye20 ws xs k w)] [] true ye35 [] := by
  refine CallOk.of_ev Try.func27 rfl rfl rfl ?_
  rintro ⟨_,W,S0,_,susp,_⟩ rfl rfl rfl
  refine Ev.seq ?_
  refine Ev.reg [] [0,3,4] (st' := ⟨[(0,(i6 3)),(3,ye12),(4,ye5)],(ye45 ws xs k w)⟩)
    (p := T4 True) (by kernel_rfl)
    ⟨oK,oK,oK,oK,oK⟩ ?_
  refine Ev.seq ?_
  refine Ev.reg [(0,.call none false (.v (.mp simpleM))),(2,.idx (some 1))] [0,3,4,7,8] (st' := ⟨[(0,(i6 3)),(3,ye12),(4,ye5),(7,ye6),(8,(dB true))],(ye32 ws xs k w)⟩)
    (p := callOb Try.prog 33 (ye45 ws xs k w) [] none false (.v (.mp simpleM))∧True∧((3 : Int) = 3∧∀ e' ∈ simpleM.take 1,(3 : Int) ≠ e'.1)∧True∧True∧True∧True∧True∧True∧True) (by kernel_rfl)
    ⟨simple_ok,oK,(by decide),oK,oK,oK,oK,oK,oK,oK⟩ ?_
  refine Ev.seq ?_
  refine Ev.seq ?_
  refine Ev.reg [] [0,3,4,7,8,17] (st' := ⟨ye48,(ye32 ws xs k w)⟩)
    (p := T2 True) (by kernel_rfl)
    ⟨oK,oK,oK⟩ ?_
  refine Ev.cond false rfl (fun h => (by cases h)) (fun _ => ?_)
  refine Ev.skip ?_
  refine Ev.seq ?_
  refine Ev.seq ?_
  rcases okB_no h with h1 | ⟨h1,h2⟩
  · skip
    have hA : arityF 3 = 2 := by decide
    rw [hA] at h1
    refine Ev.reg [(8,.val (dB true))] [3,4,7,38] (st' := ⟨[(3,ye12),(4,ye5),(7,ye6),(38,(dB true))],(ye32 ws xs k w)⟩)
      (p := T8 ((True∧(((ws.length : Nat) : Int) != 2) = true)∧T6 True)) (by kernel_rfl)
      ⟨oK,oK,oK,oK,oK,oK,oK,oK,⟨oK,(by exact bne_iff_ne.2 (by omega))⟩,oK,oK,oK,oK,oK,oK,oK⟩ ?_
    refine Ev.cond true rfl (fun _ => ?_) (fun h => (by cases h))
    refine Ev.seq ?_
    refine Ev.reg [] [4,5,6] (st' := ⟨[(4,ye5),(5,(i6 0)),(6,(dB false))],(ye32 ws xs k w)⟩)
      (p := T4 True) (by kernel_rfl)
      ⟨oK,oK,oK,oK,oK⟩ ?_
    refine Ev.ret ?_
    refine ⟨⟨oK,oK,oK,oK⟩,(?_ : ((0 : Int) = 0∧True∧True∧True)∧(0 : Int) = 0∧false = false∧True),.inl rfl⟩
    exact ⟨⟨rfl,oK,oK,oK⟩,rfl,rfl,oK⟩
  · skip
    have hA : arityF 3 = 2 := by decide
    rw [hA] at h1
    refine Ev.reg [(8,.val (dB false)),(13,.call none false (ye21 ws)),(14,.val (dB true))] [3,4,7,38] (st' := ⟨[(3,ye12),(4,ye5),(7,ye6),(38,(dB true))],(ye32 ws xs k w)⟩)
      (p := T8 ((True∧(((ws.length : Nat) : Int) != 2) = false)∧T4 (callOb Try.prog 35 (ye32 ws xs k w) (ye29 ws) none false (ye21 ws)∧(True∧(!(ws.all fitsF)) = true)∧True))) (by kernel_rfl)
      ⟨oK,oK,oK,oK,oK,oK,oK,oK,⟨oK,(by rw [h1]; rfl)⟩,oK,oK,oK,oK,(contains_ok _ (by first | omega | (simp; first | done | omega))),⟨oK,(by rw [h2]; rfl)⟩,oK⟩ ?_
    refine Ev.cond true rfl (fun _ => ?_) (fun h => (by cases h))
    refine Ev.seq ?_
    refine Ev.reg [] [4,5,6] (st' := ⟨[(4,ye5),(5,(i6 0)),(6,(dB false))],(ye32 ws xs k w)⟩)
      (p := T4 True) (by kernel_rfl)
      ⟨oK,oK,oK,oK,oK⟩ ?_
    refine Ev.ret ?_
    refine ⟨⟨oK,oK,oK,oK⟩,(?_ : ((0 : Int) = 0∧True∧True∧True)∧(0 : Int) = 0∧false = false∧True),.inl rfl⟩
    exact ⟨⟨rfl,oK,oK,oK⟩,rfl,rfl,oK⟩

def zwv_3_1_0 (ws xs : List Int) (k w : Int) : St := ⟨[(4,ye5),(7,ye6),(9,(ye24 ws k w))],(ye32 ws xs k w)⟩
def zwv_3_1_1 (ws xs : List Int) (k w : Int) : St := ⟨[(4,ye5),(7,ye6),(9,(ye24 ws k w)),(44,ye15)],(ye32 ws xs k w)⟩
def zwv_3_1_2 (ws xs : List Int) (k w : Int) : St := ⟨[(4,ye5),(7,ye6),(9,(ye24 ws k w)),(45,(ye24 ws k w))],(ye32 ws xs k w)⟩
def zwv_3_1_3 (ws xs : List Int) (k w : Int) : St := ⟨[(4,ye5),(7,ye6),(9,(ye24 ws k w)),(46,(ye24 ws k w))],(ye32 ws xs k w)⟩
def zwv_3_1_4 (ws xs : List Int) (k w : Int) : St := ⟨[(4,ye5),(7,ye6),(9,(ye24 ws k w)),(44,ye15),(45,(ye24 ws k w))],(ye32 ws xs k w)⟩
def zwv_3_1_5 (ws xs : List Int) (k w : Int) : St := ⟨[(4,ye5),(7,ye6),(9,(ye24 ws k w)),(44,ye15),(46,(ye24 ws k w))],(ye32 ws xs k w)⟩
def zwv_3_1_6 (ws xs : List Int) (k w : Int) : St := ⟨[(4,ye5),(7,ye6),(9,(ye24 ws k w)),(45,(ye24 ws k w)),(46,(ye24 ws k w))],(ye32 ws xs k w)⟩
def zwv_3_1_7 (ws xs : List Int) (k w : Int) : St := ⟨[(4,ye5),(7,ye6),(9,(ye24 ws k w)),(46,(ye24 ws k w)),(47,(ye38 ws k w))],(ye32 ws xs k w)⟩
def zwv_3_1_8 (ws xs : List Int) (k w : Int) : St := ⟨[(4,ye5),(7,ye6),(9,(ye24 ws k w)),(44,ye15),(45,(ye24 ws k w)),(46,(ye24 ws k w))],(ye32 ws xs k w)⟩
def zwv_3_1_9 (ws xs : List Int) (k w : Int) : St := ⟨[(4,ye5),(7,ye6),(9,(ye24 ws k w)),(44,ye15),(46,(ye24 ws k w)),(47,(ye38 ws k w))],(ye32 ws xs k w)⟩
def zwv_3_1_10 (ws xs : List Int) (k w : Int) : St := ⟨[(4,ye5),(7,ye6),(9,(ye24 ws k w)),(45,(ye24 ws k w)),(46,(ye24 ws k w)),(47,(ye38 ws k w))],(ye32 ws xs k w)⟩
def zwv_3_1_11 (ws xs : List Int) (k w : Int) : St := ⟨[(4,ye5),(7,ye6),(9,(ye24 ws k w)),(44,ye15),(45,(ye24 ws k w)),(46,(ye24 ws k w)),(47,(ye38 ws k w))],(ye32 ws xs k w)⟩
def zwv_3_1_12 (ws xs : List Int) (k w : Int) : St := ⟨[(4,ye5),(7,ye6),(9,(ye24 ws k w)),(44,ye15),(46,(ye24 ws k w)),(47,(ye38 ws k w))],[(ye1 ws xs k w),ye7,ye7]⟩
def zwv_3_1_13 (ws xs : List Int) (k w : Int) : St := ⟨[(4,ye5),(7,ye6),(9,(ye24 ws k w)),(44,ye15),(45,(ye24 ws k w)),(46,(ye24 ws k w)),(47,(ye38 ws k w))],[(ye1 ws xs k w),ye7,ye7]⟩
def zwv_3_1_14 (ws xs : List Int) (k w : Int) : St := ⟨[(4,ye5),(5,(ye24 ws k w)),(7,ye6),(9,(ye24 ws k w)),(44,ye15),(45,(ye24 ws k w)),(46,(ye24 ws k w)),(47,(ye38 ws k w))],[(ye1 ws xs k w),ye7,ye7]⟩
def zwv_3_1_15 (ws xs : List Int) (k w : Int) : St := ⟨[(4,ye5),(5,(ye24 ws k w)),(6,(dB false))],[(ye1 ws xs k w),ye7,ye7]⟩
set_option maxRecDepth 100000 in
theorem width_wv_3 (ws xs : List Int) (k w : Int) (hw : ws.length ≤ 9223372036854775807) (h : okB 3 ws = true) (h3 : fitsF (wvF 3 ws k w) = false) : CallOk Try.prog 27 [(i6 3),(ye20 ws xs k w)] [] true (.tup [ye15,(ye24 ws k w),(dB false)]) [] := by
  refine CallOk.of_ev Try.func27 rfl rfl rfl ?_
  rintro ⟨_,W,S0,_,susp,_⟩ rfl rfl rfl
  obtain ⟨h1,h2⟩ := okB_yes h
  have hA : arityF 3 = 2 := by decide
  rw [hA] at h1
  refine Ev.seq ?_
  refine Ev.reg [] [0,3,4] (st' := ⟨[(0,(i6 3)),(3,ye12),(4,ye5)],(ye45 ws xs k w)⟩)
    (p := T4 True) (by kernel_rfl)
    ⟨oK,oK,oK,oK,oK⟩ ?_
  refine Ev.seq ?_
  refine Ev.reg [(0,.call none false (.v (.mp simpleM))),(2,.idx (some 1))] [0,3,4,7,8] (st' := ⟨[(0,(i6 3)),(3,ye12),(4,ye5),(7,ye6),(8,(dB true))],(ye32 ws xs k w)⟩)
    (p := callOb Try.prog 33 (ye45 ws xs k w) [] none false (.v (.mp simpleM))∧True∧((3 : Int) = 3∧∀ e' ∈ simpleM.take 1,(3 : Int) ≠ e'.1)∧True∧True∧True∧True∧True∧True∧True) (by kernel_rfl)
    ⟨simple_ok,oK,(by decide),oK,oK,oK,oK,oK,oK,oK⟩ ?_
  refine Ev.seq ?_
  refine Ev.seq ?_
  refine Ev.reg [] [0,3,4,7,8,17] (st' := ⟨ye48,(ye32 ws xs k w)⟩)
    (p := T2 True) (by kernel_rfl)
    ⟨oK,oK,oK⟩ ?_
  refine Ev.cond false rfl (fun h => (by cases h)) (fun _ => ?_)
  refine Ev.skip ?_
  refine Ev.seq ?_
  refine Ev.seq ?_
  refine Ev.reg [(8,.val (dB false)),(13,.call none false (ye21 ws)),(14,.val (dB false))] [3,4,7,38] (st' := ⟨[(3,ye12),(4,ye5),(7,ye6),(38,(dB false))],(ye32 ws xs k w)⟩)
    (p := T8 ((True∧(((ws.length : Nat) : Int) != 2) = false)∧T4 (callOb Try.prog 35 (ye32 ws xs k w) (ye29 ws) none false (ye21 ws)∧(True∧(!(ws.all fitsF)) = false)∧True))) (by kernel_rfl)
    ⟨oK,oK,oK,oK,oK,oK,oK,oK,⟨oK,(by rw [h1]; rfl)⟩,oK,oK,oK,oK,(contains_ok _ (by first | omega | (simp; first | done | omega))),⟨oK,(by rw [h2]; rfl)⟩,oK⟩ ?_
  refine Ev.cond false rfl (fun h => (by cases h)) (fun _ => ?_)
  refine Ev.skip ?_
  refine Ev.seq ?_
  refine Ev.reg [(3,.call none false (ye53 ws)),(4,.val (ye24 ws k w))] [4,7,9] (st' := ⟨[(4,ye5),(7,ye6),(9,(ye24 ws k w))],(ye32 ws xs k w)⟩)
    (p := T3 (callOb Try.prog 43 (ye32 ws xs k w) [(ye20 ws xs k w)] none false (ye53 ws)∧(True∧(alikeF ws) = (wvF 3 ws k w))∧True)) (by kernel_rfl)
    ⟨oK,oK,oK,(alike_ok _ _ _ _ (by omega) (by assumption)),⟨oK,(by first | rfl | simp [wvF])⟩,oK⟩ ?_
  refine Ev.seq ?_
  refine Ev.any [(3,.call none false (ye38 ws k w)),(6,.val (dB false))] [((bm 7 0),(zwv_3_1_0 ws xs k w)),((bm 7 1),(zwv_3_1_1 ws xs k w)),((bm 7 2),(zwv_3_1_2 ws xs k w)),((bm 7 4),(zwv_3_1_3 ws xs k w)),((bm 7 3),(zwv_3_1_4 ws xs k w)),((bm 7 5),(zwv_3_1_5 ws xs k w)),((bm 7 6),(zwv_3_1_6 ws xs k w)),((bm 7 12),(zwv_3_1_7 ws xs k w)),((bm 7 7),(zwv_3_1_8 ws xs k w)),((bm 7 13),(zwv_3_1_9 ws xs k w)),((bm 7 14),(zwv_3_1_10 ws xs k w)),((bm 7 15),(zwv_3_1_11 ws xs k w)),((bm 7 29),(zwv_3_1_12 ws xs k w)),((bm 7 31),(zwv_3_1_13 ws xs k w)),((bm 7 63),(zwv_3_1_14 ws xs k w)),((bm 7 127),(zwv_3_1_15 ws xs k w))] (st0 := (zwv_3_1_0 ws xs k w)) (st' := ⟨[(4,ye5),(5,(ye24 ws k w)),(6,(dB false))],[(ye1 ws xs k w),ye7,ye7]⟩)
    (p := ((sE (zwv_3_1_1 ws xs k w) (True))∧(sE (zwv_3_1_2 ws xs k w) (True))∧(sE (zwv_3_1_3 ws xs k w) (True))∧True)∧((sE (zwv_3_1_4 ws xs k w) (True))∧(sE (zwv_3_1_5 ws xs k w) (True))∧True)∧((sE (zwv_3_1_4 ws xs k w) (True))∧(sE (zwv_3_1_6 ws xs k w) (True))∧True)∧((sE (zwv_3_1_5 ws xs k w) (True))∧(sE (zwv_3_1_6 ws xs k w) (True))∧(sE (zwv_3_1_7 ws xs k w) (callOb Try.prog 37 (ye32 ws xs k w) [(ye24 ws k w)] none false (ye38 ws k w)))∧True)∧((sE (zwv_3_1_8 ws xs k w) (True))∧True)∧((sE (zwv_3_1_8 ws xs k w) (True))∧(sE (zwv_3_1_9 ws xs k w) (callOb Try.prog 37 (ye32 ws xs k w) [(ye24 ws k w)] none false (ye38 ws k w)))∧True)∧((sE (zwv_3_1_8 ws xs k w) (True))∧(sE (zwv_3_1_10 ws xs k w) (callOb Try.prog 37 (ye32 ws xs k w) [(ye24 ws k w)] none false (ye38 ws k w)))∧True)∧((sE (zwv_3_1_9 ws xs k w) (True))∧(sE (zwv_3_1_10 ws xs k w) (True))∧True)∧((sE (zwv_3_1_11 ws xs k w) (callOb Try.prog 37 (ye32 ws xs k w) [(ye24 ws k w)] none false (ye38 ws k w)))∧True)∧((sE (zwv_3_1_11 ws xs k w) (True))∧(sE (zwv_3_1_12 ws xs k w) (True))∧True)∧((sE (zwv_3_1_11 ws xs k w) (True))∧True)∧((sE (zwv_3_1_13 ws xs k w) (True))∧True)∧((sE (zwv_3_1_13 ws xs k w) (True))∧True)∧((sE (zwv_3_1_14 ws xs k w) (True))∧True)∧((sE (zwv_3_1_15 ws xs k w) ((True∧(fitsF (wvF 3 ws k w)) = false)))∧True)∧True∧True) (by kernel_rfl) (by kernel_rfl) (by kernel_rfl) (by kernel_rfl) (by kernel_rfl) (by kernel_rfl)
    ⟨⟨⟨rfl,oK,oK⟩,⟨rfl,oK,oK⟩,⟨rfl,oK,oK⟩,oK⟩,⟨⟨rfl,oK,oK⟩,⟨rfl,oK,oK⟩,oK⟩,⟨⟨rfl,oK,oK⟩,⟨rfl,oK,oK⟩,oK⟩,⟨⟨rfl,oK,oK⟩,⟨rfl,oK,oK⟩,⟨rfl,(fits_ok _),oK⟩,oK⟩,⟨⟨rfl,oK,oK⟩,oK⟩,⟨⟨rfl,oK,oK⟩,⟨rfl,(fits_ok _),oK⟩,oK⟩,⟨⟨rfl,oK,oK⟩,⟨rfl,(fits_ok _),oK⟩,oK⟩,⟨⟨rfl,oK,oK⟩,⟨rfl,oK,oK⟩,oK⟩,⟨⟨rfl,(fits_ok _),oK⟩,oK⟩,⟨⟨rfl,oK,oK⟩,⟨rfl,oK,oK⟩,oK⟩,⟨⟨rfl,oK,oK⟩,oK⟩,⟨⟨rfl,oK,oK⟩,oK⟩,⟨⟨rfl,oK,oK⟩,oK⟩,⟨⟨rfl,oK,oK⟩,oK⟩,⟨⟨rfl,⟨oK,(by first | exact h3 | simpa [wvF] using h3)⟩,oK⟩,oK⟩,oK,oK⟩ ?_
  refine Ev.ret ?_
  refine ⟨⟨oK,oK,oK,oK⟩,(?_ : ((2 : Int) = 2∧(ye2 : D) = ye2∧((.fn (.func 44) [] []) : D) = (.fn (.func 44) [] [])∧True)∧(wvF 3 ws k w) = (wvF 3 ws k w)∧false = false∧True),.inl rfl⟩
  exact ⟨⟨rfl,rfl,rfl,oK⟩,rfl,rfl,oK⟩

def zg_4_1_0 (ws xs : List Int) (k w : Int) : St := ⟨[(4,ye5),(7,ye6),(9,(ye25 ws k w))],(ye33 ws xs k w)⟩
def zg_4_1_1 (ws xs : List Int) (k w : Int) : St := ⟨[(4,ye5),(7,ye6),(9,(ye25 ws k w)),(44,ye16)],(ye33 ws xs k w)⟩
def zg_4_1_2 (ws xs : List Int) (k w : Int) : St := ⟨[(4,ye5),(7,ye6),(9,(ye25 ws k w)),(45,(ye25 ws k w))],(ye33 ws xs k w)⟩
def zg_4_1_3 (ws xs : List Int) (k w : Int) : St := ⟨[(4,ye5),(7,ye6),(9,(ye25 ws k w)),(46,(ye25 ws k w))],(ye33 ws xs k w)⟩
def zg_4_1_4 (ws xs : List Int) (k w : Int) : St := ⟨[(4,ye5),(7,ye6),(9,(ye25 ws k w)),(44,ye16),(45,(ye25 ws k w))],(ye33 ws xs k w)⟩
def zg_4_1_5 (ws xs : List Int) (k w : Int) : St := ⟨[(4,ye5),(7,ye6),(9,(ye25 ws k w)),(44,ye16),(46,(ye25 ws k w))],(ye33 ws xs k w)⟩
def zg_4_1_6 (ws xs : List Int) (k w : Int) : St := ⟨[(4,ye5),(7,ye6),(9,(ye25 ws k w)),(45,(ye25 ws k w)),(46,(ye25 ws k w))],(ye33 ws xs k w)⟩
def zg_4_1_7 (ws xs : List Int) (k w : Int) : St := ⟨[(4,ye5),(7,ye6),(9,(ye25 ws k w)),(46,(ye25 ws k w)),(47,(ye39 ws k w))],(ye33 ws xs k w)⟩
def zg_4_1_8 (ws xs : List Int) (k w : Int) : St := ⟨[(4,ye5),(7,ye6),(9,(ye25 ws k w)),(44,ye16),(45,(ye25 ws k w)),(46,(ye25 ws k w))],(ye33 ws xs k w)⟩
def zg_4_1_9 (ws xs : List Int) (k w : Int) : St := ⟨[(4,ye5),(7,ye6),(9,(ye25 ws k w)),(44,ye16),(46,(ye25 ws k w)),(47,(ye39 ws k w))],(ye33 ws xs k w)⟩
def zg_4_1_10 (ws xs : List Int) (k w : Int) : St := ⟨[(4,ye5),(7,ye6),(9,(ye25 ws k w)),(45,(ye25 ws k w)),(46,(ye25 ws k w)),(47,(ye39 ws k w))],(ye33 ws xs k w)⟩
def zg_4_1_11 (ws xs : List Int) (k w : Int) : St := ⟨[(4,ye5),(7,ye6),(9,(ye25 ws k w)),(44,ye16),(45,(ye25 ws k w)),(46,(ye25 ws k w)),(47,(ye39 ws k w))],(ye33 ws xs k w)⟩
def zg_4_1_12 (ws xs : List Int) (k w : Int) : St := ⟨[(4,ye5),(7,ye6),(9,(ye25 ws k w)),(44,ye16),(46,(ye25 ws k w)),(47,(ye39 ws k w))],[(ye1 ws xs k w),ye8,ye8]⟩
def zg_4_1_13 (ws xs : List Int) (k w : Int) : St := ⟨[(4,ye5),(7,ye6),(9,(ye25 ws k w)),(44,ye16),(45,(ye25 ws k w)),(46,(ye25 ws k w)),(47,(ye39 ws k w))],[(ye1 ws xs k w),ye8,ye8]⟩
def zg_4_1_14 (ws xs : List Int) (k w : Int) : St := ⟨[(4,ye5),(5,(ye25 ws k w)),(7,ye6),(9,(ye25 ws k w)),(44,ye16),(45,(ye25 ws k w)),(46,(ye25 ws k w)),(47,(ye39 ws k w))],[(ye1 ws xs k w),ye8,ye8]⟩
def zg_4_1_15 (ws xs : List Int) (k w : Int) : St := ⟨[(4,ye5),(5,(ye25 ws k w)),(6,(dB true))],[(ye1 ws xs k w),ye8,ye8]⟩
set_option maxRecDepth 100000 in
theorem width_good_4 (ws xs : List Int) (k w : Int) (hw : ws.length ≤ 9223372036854775807) (h : okF 4 ws k w = true) : CallOk Try.prog 27 [(i6 4),(ye20 ws xs k w)] [] true (.tup [ye16,(ye25 ws k w),(dB true)]) [] := by
  refine CallOk.of_ev Try.func27 rfl rfl rfl ?_
  rintro ⟨_,W,S0,_,susp,_⟩ rfl rfl rfl
  obtain ⟨h1,h2,h3⟩ := ok_yes h
  have hA : arityF 4 = 2 := by decide
  rw [hA] at h1
  refine Ev.seq ?_
  refine Ev.reg [] [0,3,4] (st' := ⟨[(0,(i6 4)),(3,ye12),(4,ye5)],(ye45 ws xs k w)⟩)
    (p := T4 True) (by kernel_rfl)
    ⟨oK,oK,oK,oK,oK⟩ ?_
  refine Ev.seq ?_
  refine Ev.reg [(0,.call none false (.v (.mp simpleM))),(2,.idx (some 2))] [0,3,4,7,8] (st' := ⟨[(0,(i6 4)),(3,ye12),(4,ye5),(7,ye6),(8,(dB true))],(ye33 ws xs k w)⟩)
    (p := callOb Try.prog 33 (ye45 ws xs k w) [] none false (.v (.mp simpleM))∧True∧((4 : Int) = 4∧∀ e' ∈ simpleM.take 2,(4 : Int) ≠ e'.1)∧True∧True∧True∧True∧True∧True∧True) (by kernel_rfl)
    ⟨simple_ok,oK,(by decide),oK,oK,oK,oK,oK,oK,oK⟩ ?_
  refine Ev.seq ?_
  refine Ev.seq ?_
  refine Ev.reg [] [0,3,4,7,8,17] (st' := ⟨ye49,(ye33 ws xs k w)⟩)
    (p := T2 True) (by kernel_rfl)
    ⟨oK,oK,oK⟩ ?_
  refine Ev.cond false rfl (fun h => (by cases h)) (fun _ => ?_)
  refine Ev.skip ?_
  refine Ev.seq ?_
  refine Ev.seq ?_
  refine Ev.reg [(8,.val (dB false)),(13,.call none false (ye21 ws)),(14,.val (dB false))] [3,4,7,38] (st' := ⟨[(3,ye12),(4,ye5),(7,ye6),(38,(dB false))],(ye33 ws xs k w)⟩)
    (p := T8 ((True∧(((ws.length : Nat) : Int) != 2) = false)∧T4 (callOb Try.prog 35 (ye33 ws xs k w) (ye29 ws) none false (ye21 ws)∧(True∧(!(ws.all fitsF)) = false)∧True))) (by kernel_rfl)
    ⟨oK,oK,oK,oK,oK,oK,oK,oK,⟨oK,(by rw [h1]; rfl)⟩,oK,oK,oK,oK,(contains_ok _ (by first | omega | (simp; first | done | omega))),⟨oK,(by rw [h2]; rfl)⟩,oK⟩ ?_
  refine Ev.cond false rfl (fun h => (by cases h)) (fun _ => ?_)
  refine Ev.skip ?_
  refine Ev.seq ?_
  refine Ev.reg [(3,.call none false (ye53 ws)),(4,.val (ye25 ws k w))] [4,7,9] (st' := ⟨[(4,ye5),(7,ye6),(9,(ye25 ws k w))],(ye33 ws xs k w)⟩)
    (p := T3 (callOb Try.prog 43 (ye33 ws xs k w) [(ye20 ws xs k w)] none false (ye53 ws)∧(True∧(alikeF ws) = (wvF 4 ws k w))∧True)) (by kernel_rfl)
    ⟨oK,oK,oK,(alike_ok _ _ _ _ (by omega) (by assumption)),⟨oK,(by first | rfl | simp [wvF])⟩,oK⟩ ?_
  refine Ev.seq ?_
  refine Ev.any [(3,.call none false (ye39 ws k w)),(6,.val (dB true))] [((bm 7 0),(zg_4_1_0 ws xs k w)),((bm 7 1),(zg_4_1_1 ws xs k w)),((bm 7 2),(zg_4_1_2 ws xs k w)),((bm 7 4),(zg_4_1_3 ws xs k w)),((bm 7 3),(zg_4_1_4 ws xs k w)),((bm 7 5),(zg_4_1_5 ws xs k w)),((bm 7 6),(zg_4_1_6 ws xs k w)),((bm 7 12),(zg_4_1_7 ws xs k w)),((bm 7 7),(zg_4_1_8 ws xs k w)),((bm 7 13),(zg_4_1_9 ws xs k w)),((bm 7 14),(zg_4_1_10 ws xs k w)),((bm 7 15),(zg_4_1_11 ws xs k w)),((bm 7 29),(zg_4_1_12 ws xs k w)),((bm 7 31),(zg_4_1_13 ws xs k w)),((bm 7 63),(zg_4_1_14 ws xs k w)),((bm 7 127),(zg_4_1_15 ws xs k w))] (st0 := (zg_4_1_0 ws xs k w)) (st' := ⟨[(4,ye5),(5,(ye25 ws k w)),(6,(dB true))],[(ye1 ws xs k w),ye8,ye8]⟩)
    (p := ((sE (zg_4_1_1 ws xs k w) (True))∧(sE (zg_4_1_2 ws xs k w) (True))∧(sE (zg_4_1_3 ws xs k w) (True))∧True)∧((sE (zg_4_1_4 ws xs k w) (True))∧(sE (zg_4_1_5 ws xs k w) (True))∧True)∧((sE (zg_4_1_4 ws xs k w) (True))∧(sE (zg_4_1_6 ws xs k w) (True))∧True)∧((sE (zg_4_1_5 ws xs k w) (True))∧(sE (zg_4_1_6 ws xs k w) (True))∧(sE (zg_4_1_7 ws xs k w) (callOb Try.prog 37 (ye33 ws xs k w) [(ye25 ws k w)] none false (ye39 ws k w)))∧True)∧((sE (zg_4_1_8 ws xs k w) (True))∧True)∧((sE (zg_4_1_8 ws xs k w) (True))∧(sE (zg_4_1_9 ws xs k w) (callOb Try.prog 37 (ye33 ws xs k w) [(ye25 ws k w)] none false (ye39 ws k w)))∧True)∧((sE (zg_4_1_8 ws xs k w) (True))∧(sE (zg_4_1_10 ws xs k w) (callOb Try.prog 37 (ye33 ws xs k w) [(ye25 ws k w)] none false (ye39 ws k w)))∧True)∧((sE (zg_4_1_9 ws xs k w) (True))∧(sE (zg_4_1_10 ws xs k w) (True))∧True)∧((sE (zg_4_1_11 ws xs k w) (callOb Try.prog 37 (ye33 ws xs k w) [(ye25 ws k w)] none false (ye39 ws k w)))∧True)∧((sE (zg_4_1_11 ws xs k w) (True))∧(sE (zg_4_1_12 ws xs k w) (True))∧True)∧((sE (zg_4_1_11 ws xs k w) (True))∧True)∧((sE (zg_4_1_13 ws xs k w) (True))∧True)∧((sE (zg_4_1_13 ws xs k w) (True))∧True)∧((sE (zg_4_1_14 ws xs k w) (True))∧True)∧((sE (zg_4_1_15 ws xs k w) ((True∧(fitsF (wvF 4 ws k w)) = true)))∧True)∧True∧True) (by kernel_rfl) (by kernel_rfl) (by kernel_rfl) (by kernel_rfl) (by kernel_rfl) (by kernel_rfl)
    ⟨⟨⟨rfl,oK,oK⟩,⟨rfl,oK,oK⟩,⟨rfl,oK,oK⟩,oK⟩,⟨⟨rfl,oK,oK⟩,⟨rfl,oK,oK⟩,oK⟩,⟨⟨rfl,oK,oK⟩,⟨rfl,oK,oK⟩,oK⟩,⟨⟨rfl,oK,oK⟩,⟨rfl,oK,oK⟩,⟨rfl,(fits_ok _),oK⟩,oK⟩,⟨⟨rfl,oK,oK⟩,oK⟩,⟨⟨rfl,oK,oK⟩,⟨rfl,(fits_ok _),oK⟩,oK⟩,⟨⟨rfl,oK,oK⟩,⟨rfl,(fits_ok _),oK⟩,oK⟩,⟨⟨rfl,oK,oK⟩,⟨rfl,oK,oK⟩,oK⟩,⟨⟨rfl,(fits_ok _),oK⟩,oK⟩,⟨⟨rfl,oK,oK⟩,⟨rfl,oK,oK⟩,oK⟩,⟨⟨rfl,oK,oK⟩,oK⟩,⟨⟨rfl,oK,oK⟩,oK⟩,⟨⟨rfl,oK,oK⟩,oK⟩,⟨⟨rfl,oK,oK⟩,oK⟩,⟨⟨rfl,⟨oK,(by first | exact h3 | simpa [wvF] using h3)⟩,oK⟩,oK⟩,oK,oK⟩ ?_
  refine Ev.ret ?_
  refine ⟨⟨oK,oK,oK,oK⟩,(?_ : ((2 : Int) = 2∧(ye2 : D) = ye2∧((.fn (.func 45) [] []) : D) = (.fn (.func 45) [] [])∧True)∧(wvF 4 ws k w) = (wvF 4 ws k w)∧true = true∧True),.inl rfl⟩
  exact ⟨⟨rfl,rfl,rfl,oK⟩,rfl,rfl,oK⟩

set_option maxRecDepth 100000 in
theorem width_bad_4 (ws xs : List Int) (k w : Int) (hw : ws.length ≤ 9223372036854775807) (h : okB 4 ws = false) : CallOk Try.prog 27 [(i6 4),(ye20 ws xs k w)] [] true ye35 [] := by
  refine CallOk.of_ev Try.func27 rfl rfl rfl ?_
  rintro ⟨_,W,S0,_,susp,_⟩ rfl rfl rfl
  refine Ev.seq ?_
  refine Ev.reg [] [0,3,4] (st' := ⟨[(0,(i6 4)),(3,ye12),(4,ye5)],(ye45 ws xs k w)⟩)
    (p := T4 True) (by kernel_rfl)
    ⟨oK,oK,oK,oK,oK⟩ ?_
  refine Ev.seq ?_
  refine Ev.reg [(0,.call none false (.v (.mp simpleM))),(2,.idx (some 2))] [0,3,4,7,8] (st' := ⟨[(0,(i6 4)),(3,ye12),(4,ye5),(7,ye6),(8,(dB true))],(ye33 ws xs k w)⟩)
    (p := callOb Try.prog 33 (ye45 ws xs k w) [] none false (.v (.mp simpleM))∧True∧((4 : Int) = 4∧∀ e' ∈ simpleM.take 2,(4 : Int) ≠ e'.1)∧True∧True∧True∧True∧True∧True∧True) (by kernel_rfl)
    ⟨simple_ok,oK,(by decide),oK,oK,oK,oK,oK,oK,oK⟩ ?_
  refine Ev.seq ?_
  refine Ev.seq ?_
  refine Ev.reg [] [0,3,4,7,8,17] (st' := ⟨ye49,(ye33 ws xs k w)⟩)
    (p := T2 True) (by kernel_rfl)
    ⟨oK,oK,oK⟩ ?_
  refine Ev.cond false rfl (fun h => (by cases h)) (fun _ => ?_)
  refine Ev.skip ?_
  refine Ev.seq ?_
  refine Ev.seq ?_
  rcases okB_no h with h1 | ⟨h1,h2⟩
  · skip
    have hA : arityF 4 = 2 := by decide
    rw [hA] at h1
    refine Ev.reg [(8,.val (dB true))] [3,4,7,38] (st' := ⟨[(3,ye12),(4,ye5),(7,ye6),(38,(dB true))],(ye33 ws xs k w)⟩)
      (p := T8 ((True∧(((ws.length : Nat) : Int) != 2) = true)∧T6 True)) (by kernel_rfl)
      ⟨oK,oK,oK,oK,oK,oK,oK,oK,⟨oK,(by exact bne_iff_ne.2 (by omega))⟩,oK,oK,oK,oK,oK,oK,oK⟩ ?_
    refine Ev.cond true rfl (fun _ => ?_) (fun h => (by cases h))
    refine Ev.seq ?_
    refine Ev.reg [] [4,5,6] (st' := ⟨[(4,ye5),(5,(i6 0)),(6,(dB false))],(ye33 ws xs k w)⟩)
      (p := T4 True) (by kernel_rfl)
      ⟨oK,oK,oK,oK,oK⟩ ?_
    refine Ev.ret ?_
    refine ⟨⟨oK,oK,oK,oK⟩,(?_ : ((0 : Int) = 0∧True∧True∧True)∧(0 : Int) = 0∧false = false∧True),.inl rfl⟩
    exact ⟨⟨rfl,oK,oK,oK⟩,rfl,rfl,oK⟩
  · skip
    have hA : arityF 4 = 2 := by decide
    rw [hA] at h1
    refine Ev.reg [(8,.val (dB false)),(13,.call none false (ye21 ws)),(14,.val (dB true))] [3,4,7,38] (st' := ⟨[(3,ye12),(4,ye5),(7,ye6),(38,(dB true))],(ye33 ws xs k w)⟩)
      (p := T8 ((True∧(((ws.length : Nat) : Int) != 2) = false)∧T4 (callOb Try.prog 35 (ye33 ws xs k w) (ye29 ws) none false (ye21 ws)∧(True∧(!(ws.all fitsF)) = true)∧True))) (by kernel_rfl)
      ⟨oK,oK,oK,oK,oK,oK,oK,oK,⟨oK,(by rw [h1]; rfl)⟩,oK,oK,oK,oK,(contains_ok _ (by first | omega | (simp; first | done | omega))),⟨oK,(by rw [h2]; rfl)⟩,oK⟩ ?_
    refine Ev.cond true rfl (fun _ => ?_) (fun h => (by cases h))
    refine Ev.seq ?_
    refine Ev.reg [] [4,5,6] (st' := ⟨[(4,ye5),(5,(i6 0)),(6,(dB false))],(ye33 ws xs k w)⟩)
      (p := T4 True) (by kernel_rfl)
      ⟨oK,oK,oK,oK,oK⟩ ?_
    refine Ev.ret ?_
    refine ⟨⟨oK,oK,oK,oK⟩,(?_ : ((0 : Int) = 0∧True∧True∧True)∧(0 : Int) = 0∧false = false∧True),.inl rfl⟩
    exact ⟨⟨rfl,oK,oK,oK⟩,rfl,rfl,oK⟩

def zwv_4_1_0 (ws xs : List Int) (k w : Int) : St := ⟨[(4,ye5),(7,ye6),(9,(ye25 ws k w))],(ye33 ws xs k w)⟩
def zwv_4_1_1 (ws xs : List Int) (k w : Int) : St := ⟨[(4,ye5),(7,ye6),(9,(ye25 ws k w)),(44,ye16)],(ye33 ws xs k w)⟩
def zwv_4_1_2 (ws xs : List Int) (k w : Int) : St := ⟨[(4,ye5),(7,ye6),(9,(ye25 ws k w)),(45,(ye25 ws k w))],(ye33 ws xs k w)⟩
def zwv_4_1_3 (ws xs : List Int) (k w : Int) : St := ⟨[(4,ye5),(7,ye6),(9,(ye25 ws k w)),(46,(ye25 ws k w))],(ye33 ws xs k w)⟩
def zwv_4_1_4 (ws xs : List Int) (k w : Int) : St := ⟨[(4,ye5),(7,ye6),(9,(ye25 ws k w)),(44,ye16),(45,(ye25 ws k w))],(ye33 ws xs k w)⟩
def zwv_4_1_5 (ws xs : List Int) (k w : Int) : St := ⟨[(4,ye5),(7,ye6),(9,(ye25 ws k w)),(44,ye16),(46,(ye25 ws k w))],(ye33 ws xs k w)⟩
def zwv_4_1_6 (ws xs : List Int) (k w : Int) : St := ⟨[(4,ye5),(7,ye6),(9,(ye25 ws k w)),(45,(ye25 ws k w)),(46,(ye25 ws k w))],(ye33 ws xs k w)⟩
def zwv_4_1_7 (ws xs : List Int) (k w : Int) : St := ⟨[(4,ye5),(7,ye6),(9,(ye25 ws k w)),(46,(ye25 ws k w)),(47,(ye39 ws k w))],(ye33 ws xs k w)⟩
def zwv_4_1_8 (ws xs : List Int) (k w : Int) : St := ⟨[(4,ye5),(7,ye6),(9,(ye25 ws k w)),(44,ye16),(45,(ye25 ws k w)),(46,(ye25 ws k w))],(ye33 ws xs k w)⟩
def zwv_4_1_9 (ws xs : List Int) (k w : Int) : St := ⟨[(4,ye5),(7,ye6),(9,(ye25 ws k w)),(44,ye16),(46,(ye25 ws k w)),(47,(ye39 ws k w))],(ye33 ws xs k w)⟩
def zwv_4_1_10 (ws xs : List Int) (k w : Int) : St := ⟨[(4,ye5),(7,ye6),(9,(ye25 ws k w)),(45,(ye25 ws k w)),(46,(ye25 ws k w)),(47,(ye39 ws k w))],(ye33 ws xs k w)⟩
def zwv_4_1_11 (ws xs : List Int) (k w : Int) : St := ⟨[(4,ye5),(7,ye6),(9,(ye25 ws k w)),(44,ye16),(45,(ye25 ws k w)),(46,(ye25 ws k w)),(47,(ye39 ws k w))],(ye33 ws xs k w)⟩
def zwv_4_1_12 (ws xs : List Int) (k w : Int) : St := ⟨[(4,ye5),(7,ye6),(9,(ye25 ws k w)),(44,ye16),(46,(ye25 ws k w)),(47,(ye39 ws k w))],[(ye1 ws xs k w),ye8,ye8]⟩
def zwv_4_1_13 (ws xs : List Int) (k w : Int) : St := ⟨[(4,ye5),(7,ye6),(9,(ye25 ws k w)),(44,ye16),(45,(ye25 ws k w)),(46,(ye25 ws k w)),(47,(ye39 ws k w))],[(ye1 ws xs k w),ye8,ye8]⟩
def zwv_4_1_14 (ws xs : List Int) (k w : Int) : St := ⟨[(4,ye5),(5,(ye25 ws k w)),(7,ye6),(9,(ye25 ws k w)),(44,ye16),(45,(ye25 ws k w)),(46,(ye25 ws k w)),(47,(ye39 ws k w))],[(ye1 ws xs k w),ye8,ye8]⟩
def zwv_4_1_15 (ws xs : List Int) (k w : Int) : St := ⟨[(4,ye5),(5,(ye25 ws k w)),(6,(dB false))],[(ye1 ws xs k w),ye8,ye8]⟩
set_option maxRecDepth 100000 in
theorem width_wv_4 (ws xs : List Int) (k w : Int) (hw : ws.length ≤ 9223372036854775807) (h : okB 4 ws = true) (h3 : fitsF (wvF 4 ws k w) = false) : CallOk Try.prog 27 [(i6 4),(ye20 ws xs k w)] [] true (.tup [ye16,(ye25 ws k w),(dB false)]) [] := by
  refine CallOk.of_ev Try.func27 rfl rfl rfl ?_
  rintro ⟨_,W,S0,_,susp,_⟩ rfl rfl rfl
  obtain ⟨h1,h2⟩ := okB_yes h
  have hA : arityF 4 = 2 := by decide
  rw [hA] at h1
  refine Ev.seq ?_
  refine Ev.reg [] [0,3,4] (st' := ⟨[(0,(i6 4)),(3,ye12),(4,ye5)],(ye45 ws xs k w)⟩)
    (p := T4 True) (by kernel_rfl)
    ⟨oK,oK,oK,oK,oK⟩ ?_
  refine Ev.seq ?_
  refine Ev.reg [(0,.call none false (.v (.mp simpleM))),(2,.idx (some 2))] [0,3,4,7,8] (st' := ⟨[(0,(i6 4)),(3,ye12),(4,ye5),(7,ye6),(8,(dB true))],(ye33 ws xs k w)⟩)
    (p := callOb Try.prog 33 (ye45 ws xs k w) [] none false (.v (.mp simpleM))∧True∧((4 : Int) = 4∧∀ e' ∈ simpleM.take 2,(4 : Int) ≠ e'.1)∧True∧True∧True∧True∧True∧True∧True) (by kernel_rfl)
    ⟨simple_ok,oK,(by decide),oK,oK,oK,oK,oK,oK,oK⟩ ?_
  refine Ev.seq ?_
  refine Ev.seq ?_
  refine Ev.reg [] [0,3,4,7,8,17] (st' := ⟨ye49,(ye33 ws xs k w)⟩)
    (p := T2 True) (by kernel_rfl)
    ⟨oK,oK,oK⟩ ?_
  refine Ev.cond false rfl (fun h => (by cases h)) (fun _ => ?_)
  refine Ev.skip ?_
  refine Ev.seq ?_
  refine Ev.seq ?_
  refine Ev.reg [(8,.val (dB false)),(13,.call none false (ye21 ws)),(14,.val (dB false))] [3,4,7,38] (st' := ⟨[(3,ye12),(4,ye5),(7,ye6),(38,(dB false))],(ye33 ws xs k w)⟩)
    (p := T8 ((True∧(((ws.length : Nat) : Int) != 2) = false)∧T4 (callOb Try.prog 35 (ye33 ws xs k w) (ye29 ws) none false (ye21 ws)∧(True∧(!(ws.all fitsF)) = false)∧True))) (by kernel_rfl)
    ⟨oK,oK,oK,oK,oK,oK,oK,oK,⟨oK,(by rw [h1]; rfl)⟩,oK,oK,oK,oK,(contains_ok _ (by first | omega | (simp; first | done | omega))),⟨oK,(by rw [h2]; rfl)⟩,oK⟩ ?_
  refine Ev.cond false rfl (fun h => (by cases h)) (fun _ => ?_)
  refine Ev.skip ?_
  refine Ev.seq ?_
  refine Ev.reg [(3,.call none false (ye53 ws)),(4,.val (ye25 ws k w))] [4,7,9] (st' := ⟨[(4,ye5),(7,ye6),(9,(ye25 ws k w))],(ye33 ws xs k w)⟩)
    (p := T3 (callOb Try.prog 43 (ye33 ws xs k w) [(ye20 ws xs k w)] none false (ye53 ws)∧(True∧(alikeF ws) = (wvF 4 ws k w))∧True)) (by kernel_rfl)
    ⟨oK,oK,oK,(alike_ok _ _ _ _ (by omega) (by assumption)),⟨oK,(by first | rfl | simp [wvF])⟩,oK⟩ ?_
  refine Ev.seq ?_
  refine Ev.any [(3,.call none false (ye39 ws k w)),(6,.val (dB false))] [((bm 7 0),(zwv_4_1_0 ws xs k w)),((bm 7 1),(zwv_4_1_1 ws xs k w)),((bm 7 2),(zwv_4_1_2 ws xs k w)),((bm 7 4),(zwv_4_1_3 ws xs k w)),((bm 7 3),(zwv_4_1_4 ws xs k w)),((bm 7 5),(zwv_4_1_5 ws xs k w)),((bm 7 6),(zwv_4_1_6 ws xs k w)),((bm 7 12),(zwv_4_1_7 ws xs k w)),((bm 7 7),(zwv_4_1_8 ws xs k w)),((bm 7 13),(zwv_4_1_9 ws xs k w)),((bm 7 14),(zwv_4_1_10 ws xs k w)),((bm 7 15),(zwv_4_1_11 ws xs k w)),((bm 7 29),(zwv_4_1_12 ws xs k w)),((bm 7 31),(zwv_4_1_13 ws xs k w)),((bm 7 63),(zwv_4_1_14 ws xs k w)),((bm 7 127),(zwv_4_1_15 ws xs k w))] (st0 := (zwv_4_1_0 ws xs k w)) (st' := ⟨[(4,ye5),(5,(ye25 ws k w)),(6,(dB false))],[(ye1 ws xs k w),ye8,ye8]⟩)
    (p := ((sE (zwv_4_1_1 ws xs k w) (True))∧(sE (zwv_4_1_2 ws xs k w) (True))∧(sE (zwv_4_1_3 ws xs k w) (True))∧True)∧((sE (zwv_4_1_4 ws xs k w) (True))∧(sE (zwv_4_1_5 ws xs k w) (True))∧True)∧((sE (zwv_4_1_4 ws xs k w) (True))∧(sE (zwv_4_1_6 ws xs k w) (True))∧True)∧((sE (zwv_4_1_5 ws xs k w) (True))∧(sE (zwv_4_1_6 ws xs k w) (True))∧(sE (zwv_4_1_7 ws xs k w) (callOb Try.prog 37 (ye33 ws xs k w) [(ye25 ws k w)] none false (ye39 ws k w)))∧True)∧((sE (zwv_4_1_8 ws xs k w) (True))∧True)∧((sE (zwv_4_1_8 ws xs k w) (True))∧(sE (zwv_4_1_9 ws xs k w) (callOb Try.prog 37 (ye33 ws xs k w) [(ye25 ws k w)] none false (ye39 ws k w)))∧True)∧((sE (zwv_4_1_8 ws xs k w) (True))∧(sE (zwv_4_1_10 ws xs k w) (callOb Try.prog 37 (ye33 ws xs k w) [(ye25 ws k w)] none false (ye39 ws k w)))∧True)∧((sE (zwv_4_1_9 ws xs k w) (True))∧(sE (zwv_4_1_10 ws xs k w) (True))∧True)∧((sE (zwv_4_1_11 ws xs k w) (callOb Try.prog 37 (ye33 ws xs k w) [(ye25 ws k w)] none false (ye39 ws k w)))∧True)∧((sE (zwv_4_1_11 ws xs k w) (True))∧(sE (zwv_4_1_12 ws xs k w) (True))∧True)∧((sE (zwv_4_1_11 ws xs k w) (True))∧True)∧((sE (zwv_4_1_13 ws xs k w) (True))∧True)∧((sE (zwv_4_1_13 ws xs k w) (True))∧True)∧((sE (zwv_4_1_14 ws xs k w) (True))∧True)∧((sE (zwv_4_1_15 ws xs k w) ((True∧(fitsF (wvF 4 ws k w)) = false)))∧True)∧True∧True) (by kernel_rfl) (by kernel_rfl) (by kernel_rfl) (by kernel_rfl) (by kernel_rfl) (by kernel_rfl)
    ⟨⟨⟨rfl,oK,oK⟩,⟨rfl,oK,oK⟩,⟨rfl,oK,oK⟩,oK⟩,⟨⟨rfl,oK,oK⟩,⟨rfl,oK,oK⟩,oK⟩,⟨⟨rfl,oK,oK⟩,⟨rfl,oK,oK⟩,oK⟩,⟨⟨rfl,oK,oK⟩,⟨rfl,oK,oK⟩,⟨rfl,(fits_ok _),oK⟩,oK⟩,⟨⟨rfl,oK,oK⟩,oK⟩,⟨⟨rfl,oK,oK⟩,⟨rfl,(fits_ok _),oK⟩,oK⟩,⟨⟨rfl,oK,oK⟩,⟨rfl,(fits_ok _),oK⟩,oK⟩,⟨⟨rfl,oK,oK⟩,⟨rfl,oK,oK⟩,oK⟩,⟨⟨rfl,(fits_ok _),oK⟩,oK⟩,⟨⟨rfl,oK,oK⟩,⟨rfl,oK,oK⟩,oK⟩,⟨⟨rfl,oK,oK⟩,oK⟩,⟨⟨rfl,oK,oK⟩,oK⟩,⟨⟨rfl,oK,oK⟩,oK⟩,⟨⟨rfl,oK,oK⟩,oK⟩,⟨⟨rfl,⟨oK,(by first | exact h3 | simpa [wvF] using h3)⟩,oK⟩,oK⟩,oK,oK⟩ ?_
  refine Ev.ret ?_
  refine ⟨⟨oK,oK,oK,oK⟩,(?_ : ((2 : Int) = 2∧(ye2 : D) = ye2∧((.fn (.func 45) [] []) : D) = (.fn (.func 45) [] [])∧True)∧(wvF 4 ws k w) = (wvF 4 ws k w)∧false = false∧True),.inl rfl⟩
  exact ⟨⟨rfl,rfl,rfl,oK⟩,rfl,rfl,oK⟩

def zg_5_1_0 (ws xs : List Int) (k w : Int) : St := ⟨[(4,ye5),(7,ye6),(9,(ye26 ws k w))],(ye34 ws xs k w)⟩
def zg_5_1_1 (ws xs : List Int) (k w : Int) : St := ⟨[(4,ye5),(7,ye6),(9,(ye26 ws k w)),(44,ye17)],(ye34 ws xs k w)⟩
def zg_5_1_2 (ws xs : List Int) (k w : Int) : St := ⟨[(4,ye5),(7,ye6),(9,(ye26 ws k w)),(45,(ye26 ws k w))],(ye34 ws xs k w)⟩
def zg_5_1_3 (ws xs : List Int) (k w : Int) : St := ⟨[(4,ye5),(7,ye6),(9,(ye26 ws k w)),(46,(ye26 ws k w))],(ye34 ws xs k w)⟩
def zg_5_1_4 (ws xs : List Int) (k w : Int) : St := ⟨[(4,ye5),(7,ye6),(9,(ye26 ws k w)),(44,ye17),(45,(ye26 ws k w))],(ye34 ws xs k w)⟩
def zg_5_1_5 (ws xs : List Int) (k w : Int) : St := ⟨[(4,ye5),(7,ye6),(9,(ye26 ws k w)),(44,ye17),(46,(ye26 ws k w))],(ye34 ws xs k w)⟩
def zg_5_1_6 (ws xs : List Int) (k w : Int) : St := ⟨[(4,ye5),(7,ye6),(9,(ye26 ws k w)),(45,(ye26 ws k w)),(46,(ye26 ws k w))],(ye34 ws xs k w)⟩
def zg_5_1_7 (ws xs : List Int) (k w : Int) : St := ⟨[(4,ye5),(7,ye6),(9,(ye26 ws k w)),(46,(ye26 ws k w)),(47,(ye40 ws k w))],(ye34 ws xs k w)⟩
def zg_5_1_8 (ws xs : List Int) (k w : Int) : St := ⟨[(4,ye5),(7,ye6),(9,(ye26 ws k w)),(44,ye17),(45,(ye26 ws k w)),(46,(ye26 ws k w))],(ye34 ws xs k w)⟩
def zg_5_1_9 (ws xs : List Int) (k w : Int) : St := ⟨[(4,ye5),(7,ye6),(9,(ye26 ws k w)),(44,ye17),(46,(ye26 ws k w)),(47,(ye40 ws k w))],(ye34 ws xs k w)⟩
def zg_5_1_10 (ws xs : List Int) (k w : Int) : St := ⟨[(4,ye5),(7,ye6),(9,(ye26 ws k w)),(45,(ye26 ws k w)),(46,(ye26 ws k w)),(47,(ye40 ws k w))],(ye34 ws xs k w)⟩
def zg_5_1_11 (ws xs : List Int) (k w : Int) : St := ⟨[(4,ye5),(7,ye6),(9,(ye26 ws k w)),(44,ye17),(45,(ye26 ws k w)),(46,(ye26 ws k w)),(47,(ye40 ws k w))],(ye34 ws xs k w)⟩
def zg_5_1_12 (ws xs : List Int) (k w : Int) : St := ⟨[(4,ye5),(7,ye6),(9,(ye26 ws k w)),(44,ye17),(46,(ye26 ws k w)),(47,(ye40 ws k w))],[(ye1 ws xs k w),ye9,ye9]⟩
def zg_5_1_13 (ws xs : List Int) (k w : Int) : St := ⟨[(4,ye5),(7,ye6),(9,(ye26 ws k w)),(44,ye17),(45,(ye26 ws k w)),(46,(ye26 ws k w)),(47,(ye40 ws k w))],[(ye1 ws xs k w),ye9,ye9]⟩
def zg_5_1_14 (ws xs : List Int) (k w : Int) : St := ⟨[(4,ye5),(5,(ye26 ws k w)),(7,ye6),(9,(ye26 ws k w)),(44,ye17),(45,(ye26 ws k w)),(46,(ye26 ws k w)),(47,(ye40 ws k w))],[(ye1 ws xs k w),ye9,ye9]⟩
def zg_5_1_15 (ws xs : List Int) (k w : Int) : St := ⟨[(4,ye5),(5,(ye26 ws k w)),(6,(dB true))],[(ye1 ws xs k w),ye9,ye9]⟩
set_option maxRecDepth 100000 in
theorem width_good_5 (ws xs : List Int) (k w : Int) (hw : ws.length ≤ 9223372036854775807) (h : okF 5 ws k w = true) : CallOk Try.prog 27 [(i6 5),(ye20 ws xs k w)] [] true (.tup [ye17,(ye26 ws k w),(dB true)]) [] := by
  refine CallOk.of_ev Try.func27 rfl rfl rfl ?_
  rintro ⟨_,W,S0,_,susp,_⟩ rfl rfl rfl
  obtain ⟨h1,h2,h3⟩ := ok_yes h
  have hA : arityF 5 = 2 := by decide
  rw [hA] at h1
  refine Ev.seq ?_
  refine Ev.reg [] [0,3,4] (st' := ⟨[(0,(i6 5)),(3,ye12),(4,ye5)],(ye45 ws xs k w)⟩)
    (p := T4 True) (by kernel_rfl)
    ⟨oK,oK,oK,oK,oK⟩ ?_
  refine Ev.seq ?_
  refine Ev.reg [(0,.call none false (.v (.mp simpleM))),(2,.idx (some 3))] [0,3,4,7,8] (st' := ⟨[(0,(i6 5)),(3,ye12),(4,ye5),(7,ye6),(8,(dB true))],(ye34 ws xs k w)⟩)
    (p := callOb Try.prog 33 (ye45 ws xs k w) [] none false (.v (.mp simpleM))∧True∧((5 : Int) = 5∧∀ e' ∈ simpleM.take 3,(5 : Int) ≠ e'.1)∧True∧True∧True∧True∧True∧True∧True) (by kernel_rfl)
    ⟨simple_ok,oK,(by decide),oK,oK,oK,oK,oK,oK,oK⟩ ?_
  refine Ev.seq ?_
  refine Ev.seq ?_
  refine Ev.reg [] [0,3,4,7,8,17] (st' := ⟨ye50,(ye34 ws xs k w)⟩)
    (p := T2 True) (by kernel_rfl)
    ⟨oK,oK,oK⟩ ?_
  refine Ev.cond false rfl (fun h => (by cases h)) (fun _ => ?_)
  refine Ev.skip ?_
  refine Ev.seq ?_
  refine Ev.seq ?_
  refine Ev.reg [(8,.val (dB false)),(13,.call none false (ye21 ws)),(14,.val (dB false))] [3,4,7,38] (st' := ⟨[(3,ye12),(4,ye5),(7,ye6),(38,(dB false))],(ye34 ws xs k w)⟩)
    (p := T8 ((True∧(((ws.length : Nat) : Int) != 2) = false)∧T4 (callOb Try.prog 35 (ye34 ws xs k w) (ye29 ws) none false (ye21 ws)∧(True∧(!(ws.all fitsF)) = false)∧True))) (by kernel_rfl)
    ⟨oK,oK,oK,oK,oK,oK,oK,oK,⟨oK,(by rw [h1]; rfl)⟩,oK,oK,oK,oK,(contains_ok _ (by first | omega | (simp; first | done | omega))),⟨oK,(by rw [h2]; rfl)⟩,oK⟩ ?_
  refine Ev.cond false rfl (fun h => (by cases h)) (fun _ => ?_)
  refine Ev.skip ?_
  refine Ev.seq ?_
  refine Ev.reg [(3,.call none false (ye53 ws)),(4,.val (ye26 ws k w))] [4,7,9] (st' := ⟨[(4,ye5),(7,ye6),(9,(ye26 ws k w))],(ye34 ws xs k w)⟩)
    (p := T3 (callOb Try.prog 43 (ye34 ws xs k w) [(ye20 ws xs k w)] none false (ye53 ws)∧(True∧(alikeF ws) = (wvF 5 ws k w))∧True)) (by kernel_rfl)
    ⟨oK,oK,oK,(alike_ok _ _ _ _ (by omega) (by assumption)),⟨oK,(by first | rfl | simp [wvF])⟩,oK⟩ ?_
  refine Ev.seq ?_
  refine Ev.any [(3,.call none false (ye40 ws k w)),(6,.val (dB true))] [((bm 7 0),(zg_5_1_0 ws xs k w)),((bm 7 1),(zg_5_1_1 ws xs k w)),((bm 7 2),(zg_5_1_2 ws xs k w)),((bm 7 4),(zg_5_1_3 ws xs k w)),((bm 7 3),(zg_5_1_4 ws xs k w)),((bm 7 5),(zg_5_1_5 ws xs k w)),((bm 7 6),(zg_5_1_6 ws xs k w)),((bm 7 12),(zg_5_1_7 ws xs k w)),((bm 7 7),(zg_5_1_8 ws xs k w)),((bm 7 13),(zg_5_1_9 ws xs k w)),((bm 7 14),(zg_5_1_10 ws xs k w)),((bm 7 15),(zg_5_1_11 ws xs k w)),((bm 7 29),(zg_5_1_12 ws xs k w)),((bm 7 31),(zg_5_1_13 ws xs k w)),((bm 7 63),(zg_5_1_14 ws xs k w)),((bm 7 127),(zg_5_1_15 ws xs k w))] (st0 := (zg_5_1_0 ws xs k w)) (st' := ⟨[(4,ye5),(5,(ye26 ws k w)),(6,(dB true))],[(ye1 ws xs k w),ye9,ye9]⟩)
    (p := ((sE (zg_5_1_1 ws xs k w) (True))∧(sE (zg_5_1_2 ws xs k w) (True))∧(sE (zg_5_1_3 ws xs k w) (True))∧True)∧((sE (zg_5_1_4 ws xs k w) (True))∧(sE (zg_5_1_5 ws xs k w) (True))∧True)∧((sE (zg_5_1_4 ws xs k w) (True))∧(sE (zg_5_1_6 ws xs k w) (True))∧True)∧((sE (zg_5_1_5 ws xs k w) (True))∧(sE (zg_5_1_6 ws xs k w) (True))∧(sE (zg_5_1_7 ws xs k w) (callOb Try.prog 37 (ye34 ws xs k w) [(ye26 ws k w)] none false (ye40 ws k w)))∧True)∧((sE (zg_5_1_8 ws xs k w) (True))∧True)∧((sE (zg_5_1_8 ws xs k w) (True))∧(sE (zg_5_1_9 ws xs k w) (callOb Try.prog 37 (ye34 ws xs k w) [(ye26 ws k w)] none false (ye40 ws k w)))∧True)∧((sE (zg_5_1_8 ws xs k w) (True))∧(sE (zg_5_1_10 ws xs k w) (callOb Try.prog 37 (ye34 ws xs k w) [(ye26 ws k w)] none false (ye40 ws k w)))∧True)∧((sE (zg_5_1_9 ws xs k w) (True))∧(sE (zg_5_1_10 ws xs k w) (True))∧True)∧((sE (zg_5_1_11 ws xs k w) (callOb Try.prog 37 (ye34 ws xs k w) [(ye26 ws k w)] none false (ye40 ws k w)))∧True)∧((sE (zg_5_1_11 ws xs k w) (True))∧(sE (zg_5_1_12 ws xs k w) (True))∧True)∧((sE (zg_5_1_11 ws xs k w) (True))∧True)∧((sE (zg_5_1_13 ws xs k w) (True))∧True)∧((sE (zg_5_1_13 ws xs k w) (True))∧True)∧((sE (zg_5_1_14 ws xs k w) (True))∧True)∧((sE (zg_5_1_15 ws xs k w) ((True∧(fitsF (wvF 5 ws k w)) = true)))∧True)∧True∧True) (by kernel_rfl) (by kernel_rfl) (by kernel_rfl) (by kernel_rfl) (by kernel_rfl) (by kernel_rfl)
    ⟨⟨⟨rfl,oK,oK⟩,⟨rfl,oK,oK⟩,⟨rfl,oK,oK⟩,oK⟩,⟨⟨rfl,oK,oK⟩,⟨rfl,oK,oK⟩,oK⟩,⟨⟨rfl,oK,oK⟩,⟨rfl,oK,oK⟩,oK⟩,⟨⟨rfl,oK,oK⟩,⟨rfl,oK,oK⟩,⟨rfl,(fits_ok _),oK⟩,oK⟩,⟨⟨rfl,oK,oK⟩,oK⟩,⟨⟨rfl,oK,oK⟩,⟨rfl,(fits_ok _),oK⟩,oK⟩,⟨⟨rfl,oK,oK⟩,⟨rfl,(fits_ok _),oK⟩,oK⟩,⟨⟨rfl,oK,oK⟩,⟨rfl,oK,oK⟩,oK⟩,⟨⟨rfl,(fits_ok _),oK⟩,oK⟩,⟨⟨rfl,oK,oK⟩,⟨rfl,oK,oK⟩,oK⟩,⟨⟨rfl,oK,oK⟩,oK⟩,⟨⟨rfl,oK,oK⟩,oK⟩,⟨⟨rfl,oK,oK⟩,oK⟩,⟨⟨rfl,oK,oK⟩,oK⟩,⟨⟨rfl,⟨oK,(by first | exact h3 | simpa [wvF] using h3)⟩,oK⟩,oK⟩,oK,oK⟩ ?_
  refine Ev.ret ?_
  refine ⟨⟨oK,oK,oK,oK⟩,(?_ : ((2 : Int) = 2∧(ye2 : D) = ye2∧((.fn (.func 46) [] []) : D) = (.fn (.func 46) [] [])∧True)∧(wvF 5 ws k w) = (wvF 5 ws k w)∧true = true∧True),.inl rfl⟩
  exact ⟨⟨rfl,rfl,rfl,oK⟩,rfl,rfl,oK⟩

set_option maxRecDepth 100000 in
theorem width_bad_5 (ws xs : List Int) (k w : Int) (hw : ws.length ≤ 9223372036854775807) (h : okB 5 ws = false) : CallOk Try.prog 27 [(i6 5),(ye20 ws xs k w)] [] true ye35 [] := by
  refine CallOk.of_ev Try.func27 rfl rfl rfl ?_
  rintro ⟨_,W,S0,_,susp,_⟩ rfl rfl rfl
  refine Ev.seq ?_
  refine Ev.reg [] [0,3,4] (st' := ⟨[(0,(i6 5)),(3,ye12),(4,ye5)],(ye45 ws xs k w)⟩)
    (p := T4 True) (by kernel_rfl)
    ⟨oK,oK,oK,oK,oK⟩ ?_
  refine Ev.seq ?_
  refine Ev.reg [(0,.call none false (.v (.mp simpleM))),(2,.idx (some 3))] [0,3,4,7,8] (st' := ⟨[(0,(i6 5)),(3,ye12),(4,ye5),(7,ye6),(8,(dB true))],(ye34 ws xs k w)⟩)
    (p := callOb Try.prog 33 (ye45 ws xs k w) [] none false (.v (.mp simpleM))∧True∧((5 : Int) = 5∧∀ e' ∈ simpleM.take 3,(5 : Int) ≠ e'.1)∧True∧True∧True∧True∧True∧True∧True) (by kernel_rfl)
    ⟨simple_ok,oK,(by decide),oK,oK,oK,oK,oK,oK,oK⟩ ?_
  refine Ev.seq ?_
  refine Ev.seq ?_
  refine Ev.reg [] [0,3,4,7,8,17] (st' := ⟨ye50,(ye34 ws xs k w)⟩)
    (p := T2 True) (by kernel_rfl)
    ⟨oK,oK,oK⟩ ?_
  refine Ev.cond false rfl (fun h => (by cases h)) (fun _ => ?_)
  refine Ev.skip ?_
  refine Ev.seq ?_
  refine Ev.seq ?_
  rcases okB_no h with h1 | ⟨h1,h2⟩
  · skip
    have hA : arityF 5 = 2 := by decide
    rw [hA] at h1
    refine Ev.reg [(8,.val (dB true))] [3,4,7,38] (st' := ⟨[(3,ye12),(4,ye5),(7,ye6),(38,(dB true))],(ye34 ws xs k w)⟩)
      (p := T8 ((True∧(((ws.length : Nat) : Int) != 2) = true)∧T6 True)) (by kernel_rfl)
      ⟨oK,oK,oK,oK,oK,oK,oK,oK,⟨oK,(by exact bne_iff_ne.2 (by omega))⟩,oK,oK,oK,oK,oK,oK,oK⟩ ?_
    refine Ev.cond true rfl (fun _ => ?_) (fun h => (by cases h))
    refine Ev.seq ?_
    refine Ev.reg [] [4,5,6] (st' := ⟨[(4,ye5),(5,(i6 0)),(6,(dB false))],(ye34 ws xs k w)⟩)
      (p := T4 True) (by kernel_rfl)
      ⟨oK,oK,oK,oK,oK⟩ ?_
    refine Ev.ret ?_
    refine ⟨⟨oK,oK,oK,oK⟩,(?_ : ((0 : Int) = 0∧True∧True∧True)∧(0 : Int) = 0∧false = false∧True),.inl rfl⟩
    exact ⟨⟨rfl,oK,oK,oK⟩,rfl,rfl,oK⟩
  · skip
    have hA : arityF 5 = 2 := by decide
    rw [hA] at h1
    refine Ev.reg [(8,.val (dB false)),(13,.call none false (ye21 ws)),(14,.val (dB true))] [3,4,7,38] (st' := ⟨[(3,ye12),(4,ye5),(7,ye6),(38,(dB true))],(ye34 ws xs k w)⟩)
      (p := T8 ((True∧(((ws.length : Nat) : Int) != 2) = false)∧T4 (callOb Try.prog 35 (ye34 ws xs k w) (ye29 ws) none false (ye21 ws)∧(True∧(!(ws.all fitsF)) = true)∧True))) (by kernel_rfl)
      ⟨oK,oK,oK,oK,oK,oK,oK,oK,⟨oK,(by rw [h1]; rfl)⟩,oK,oK,oK,oK,(contains_ok _ (by first | omega | (simp; first | done | omega))),⟨oK,(by rw [h2]; rfl)⟩,oK⟩ ?_
    refine Ev.cond true rfl (fun _ => ?_) (fun h => (by cases h))
    refine Ev.seq ?_
    refine Ev.reg [] [4,5,6] (st' := ⟨[(4,ye5),(5,(i6 0)),(6,(dB false))],(ye34 ws xs k w)⟩)
      (p := T4 True) (by kernel_rfl)
      ⟨oK,oK,oK,oK,oK⟩ ?_
    refine Ev.ret ?_
    refine ⟨⟨oK,oK,oK,oK⟩,(?_ : ((0 : Int) = 0∧True∧True∧True)∧(0 : Int) = 0∧false = false∧True),.inl rfl⟩
    exact ⟨⟨rfl,oK,oK,oK⟩,rfl,rfl,oK⟩

def zwv_5_1_0 (ws xs : List Int) (k w : Int) : St := ⟨[(4,ye5),(7,ye6),(9,(ye26 ws k w))],(ye34 ws xs k w)⟩
def zwv_5_1_1 (ws xs : List Int) (k w : Int) : St := ⟨[(4,ye5),(7,ye6),(9,(ye26 ws k w)),(44,ye17)],(ye34 ws xs k w)⟩
def zwv_5_1_2 (ws xs : List Int) (k w : Int) : St := ⟨[(4,ye5),(7,ye6),(9,(ye26 ws k w)),(45,(ye26 ws k w))],(ye34 ws xs k w)⟩
def zwv_5_1_3 (ws xs : List Int) (k w : Int) : St := ⟨[(4,ye5),(7,ye6),(9,(ye26 ws k w)),(46,(ye26 ws k w))],(ye34 ws xs k w)⟩
def zwv_5_1_4 (ws xs : List Int) (k w : Int) : St := ⟨[(4,ye5),(7,ye6),(9,(ye26 ws k w)),(44,ye17),(45,(ye26 ws k w))],(ye34 ws xs k w)⟩
def zwv_5_1_5 (ws xs : List Int) (k w : Int) : St := ⟨[(4,ye5),(7,ye6),(9,(ye26 ws k w)),(44,ye17),(46,(ye26 ws k w))],(ye34 ws xs k w)⟩
def zwv_5_1_6 (ws xs : List Int) (k w : Int) : St := ⟨[(4,ye5),(7,ye6),(9,(ye26 ws k w)),(45,(ye26 ws k w)),(46,(ye26 ws k w))],(ye34 ws xs k w)⟩
def zwv_5_1_7 (ws xs : List Int) (k w : Int) : St := ⟨[(4,ye5),(7,ye6),(9,(ye26 ws k w)),(46,(ye26 ws k w)),(47,(ye40 ws k w))],(ye34 ws xs k w)⟩
def zwv_5_1_8 (ws xs : List Int) (k w : Int) : St := ⟨[(4,ye5),(7,ye6),(9,(ye26 ws k w)),(44,ye17),(45,(ye26 ws k w)),(46,(ye26 ws k w))],(ye34 ws xs k w)⟩
def zwv_5_1_9 (ws xs : List Int) (k w : Int) : St := ⟨[(4,ye5),(7,ye6),(9,(ye26 ws k w)),(44,ye17),(46,(ye26 ws k w)),(47,(ye40 ws k w))],(ye34 ws xs k w)⟩
def zwv_5_1_10 (ws xs : List Int) (k w : Int) : St := ⟨[(4,ye5),(7,ye6),(9,(ye26 ws k w)),(45,(ye26 ws k w)),(46,(ye26 ws k w)),(47,(ye40 ws k w))],(ye34 ws xs k w)⟩
def zwv_5_1_11 (ws xs : List Int) (k w : Int) : St := ⟨[(4,ye5),(7,ye6),(9,(ye26 ws k w)),(44,ye17),(45,(ye26 ws k w)),(46,(ye26 ws k w)),(47,(ye40 ws k w))],(ye34 ws xs k w)⟩
def zwv_5_1_12 (ws xs : List Int) (k w : Int) : St := ⟨[(4,ye5),(7,ye6),(9,(ye26 ws k w)),(44,ye17),(46,(ye26 ws k w)),(47,(ye40 ws k w))],[(ye1 ws xs k w),ye9,ye9]⟩
def zwv_5_1_13 (ws xs : List Int) (k w : Int) : St := ⟨[(4,ye5),(7,ye6),(9,(ye26 ws k w)),(44,ye17),(45,(ye26 ws k w)),(46,(ye26 ws k w)),(47,(ye40 ws k w))],[(ye1 ws xs k w),ye9,ye9]⟩
def zwv_5_1_14 (ws xs : List Int) (k w : Int) : St := ⟨[(4,ye5),(5,(ye26 ws k w)),(7,ye6),(9,(ye26 ws k w)),(44,ye17),(45,(ye26 ws k w)),(46,(ye26 ws k w)),(47,(ye40 ws k w))],[(ye1 ws xs k w),ye9,ye9]⟩
def zwv_5_1_15 (ws xs : List Int) (k w : Int) : St := ⟨[(4,ye5),(5,(ye26 ws k w)),(6,(dB false))],[(ye1 ws xs k w),ye9,ye9]⟩
set_option maxRecDepth 100000 in
theorem width_wv_5 (ws xs : List Int) (k w : Int) (hw : ws.length ≤ 9223372036854775807) (h : okB 5 ws = true) (h3 : fitsF (wvF 5 ws k w) = false) : CallOk Try.prog 27 [(i6 5),(ye20 ws xs k w)] [] true (.tup [ye17,(ye26 ws k w),(dB false)]) [] := by
  refine CallOk.of_ev Try.func27 rfl rfl rfl ?_
  rintro ⟨_,W,S0,_,susp,_⟩ rfl rfl rfl
  obtain ⟨h1,h2⟩ := okB_yes h
  have hA : arityF 5 = 2 := by decide
  rw [hA] at h1
  refine Ev.seq ?_
  refine Ev.reg [] [0,3,4] (st' := ⟨[(0,(i6 5)),(3,ye12),(4,ye5)],(ye45 ws xs k w)⟩)
    (p := T4 True) (by kernel_rfl)
    ⟨oK,oK,oK,oK,oK⟩ ?_
  refine Ev.seq ?_
  refine Ev.reg [(0,.call none false (.v (.mp simpleM))),(2,.idx (some 3))] [0,3,4,7,8] (st' := ⟨[(0,(i6 5)),(3,ye12),(4,ye5),(7,ye6),(8,(dB true))],(ye34 ws xs k w)⟩)
    (p := callOb Try.prog 33 (ye45 ws xs k w) [] none false (.v (.mp simpleM))∧True∧((5 : Int) = 5∧∀ e' ∈ simpleM.take 3,(5 : Int) ≠ e'.1)∧True∧True∧True∧True∧True∧True∧True) (by kernel_rfl)
    ⟨simple_ok,oK,(by decide),oK,oK,oK,oK,oK,oK,oK⟩ ?_
  refine Ev.seq ?_
  refine Ev.seq ?_
  refine Ev.reg [] [0,3,4,7,8,17] (st' := ⟨ye50,(ye34 ws xs k w)⟩)
    (p := T2 True) (by kernel_rfl)
    ⟨oK,oK,oK⟩ ?_
  refine Ev.cond false rfl (fun h => (by cases h)) (fun _ => ?_)
  refine Ev.skip ?_
  refine Ev.seq ?_
  refine Ev.seq ?_
  refine Ev.reg [(8,.val (dB false)),(13,.call none false (ye21 ws)),(14,.val (dB false))] [3,4,7,38] (st' := ⟨[(3,ye12),(4,ye5),(7,ye6),(38,(dB false))],(ye34 ws xs k w)⟩)
    (p := T8 ((True∧(((ws.length : Nat) : Int) != 2) = false)∧T4 (callOb Try.prog 35 (ye34 ws xs k w) (ye29 ws) none false (ye21 ws)∧(True∧(!(ws.all fitsF)) = false)∧True))) (by kernel_rfl)
    ⟨oK,oK,oK,oK,oK,oK,oK,oK,⟨oK,(by rw [h1]; rfl)⟩,oK,oK,oK,oK,(contains_ok _ (by first | omega | (simp; first | done | omega))),⟨oK,(by rw [h2]; rfl)⟩,oK⟩ ?_
  refine Ev.cond false rfl (fun h => (by cases h)) (fun _ => ?_)
  refine Ev.skip ?_
  refine Ev.seq ?_
  refine Ev.reg [(3,.call none false (ye53 ws)),(4,.val (ye26 ws k w))] [4,7,9] (st' := ⟨[(4,ye5),(7,ye6),(9,(ye26 ws k w))],(ye34 ws xs k w)⟩)
    (p := T3 (callOb Try.prog 43 (ye34 ws xs k w) [(ye20 ws xs k w)] none false (ye53 ws)∧(True∧(alikeF ws) = (wvF 5 ws k w))∧True)) (by kernel_rfl)
    ⟨oK,oK,oK,(alike_ok _ _ _ _ (by omega) (by assumption)),⟨oK,(by first | rfl | simp [wvF])⟩,oK⟩ ?_
  refine Ev.seq ?_
  refine Ev.any [(3,.call none false (ye40 ws k w)),(6,.val (dB false))] [((bm 7 0),(zwv_5_1_0 ws xs k w)),((bm 7 1),(zwv_5_1_1 ws xs k w)),((bm 7 2),(zwv_5_1_2 ws xs k w)),((bm 7 4),(zwv_5_1_3 ws xs k w)),((bm 7 3),(zwv_5_1_4 ws xs k w)),((bm 7 5),(zwv_5_1_5 ws xs k w)),((bm 7 6),(zwv_5_1_6 ws xs k w)),((bm 7 12),(zwv_5_1_7 ws xs k w)),((bm 7 7),(zwv_5_1_8 ws xs k w)),((bm 7 13),(zwv_5_1_9 ws xs k w)),((bm 7 14),(zwv_5_1_10 ws xs k w)),((bm 7 15),(zwv_5_1_11 ws xs k w)),((bm 7 29),(zwv_5_1_12 ws xs k w)),((bm 7 31),(zwv_5_1_13 ws xs k w)),((bm 7 63),(zwv_5_1_14 ws xs k w)),((bm 7 127),(zwv_5_1_15 ws xs k w))] (st0 := (zwv_5_1_0 ws xs k w)) (st' := ⟨[(4,ye5),(5,(ye26 ws k w)),(6,(dB false))],[(ye1 ws xs k w),ye9,ye9]⟩)
    (p := ((sE (zwv_5_1_1 ws xs k w) (True))∧(sE (zwv_5_1_2 ws xs k w) (True))∧(sE (zwv_5_1_3 ws xs k w) (True))∧True)∧((sE (zwv_5_1_4 ws xs k w) (True))∧(sE (zwv_5_1_5 ws xs k w) (True))∧True)∧((sE (zwv_5_1_4 ws xs k w) (True))∧(sE (zwv_5_1_6 ws xs k w) (True))∧True)∧((sE (zwv_5_1_5 ws xs k w) (True))∧(sE (zwv_5_1_6 ws xs k w) (True))∧(sE (zwv_5_1_7 ws xs k w) (callOb Try.prog 37 (ye34 ws xs k w) [(ye26 ws k w)] none false (ye40 ws k w)))∧True)∧((sE (zwv_5_1_8 ws xs k w) (True))∧True)∧((sE (zwv_5_1_8 ws xs k w) (True))∧(sE (zwv_5_1_9 ws xs k w) (callOb Try.prog 37 (ye34 ws xs k w) [(ye26 ws k w)] none false (ye40 ws k w)))∧True)∧((sE (zwv_5_1_8 ws xs k w) (True))∧(sE (zwv_5_1_10 ws xs k w) (callOb Try.prog 37 (ye34 ws xs k w) [(ye26 ws k w)] none false (ye40 ws k w)))∧True)∧((sE (zwv_5_1_9 ws xs k w) (True))∧(sE (zwv_5_1_10 ws xs k w) (True))∧True)∧((sE (zwv_5_1_11 ws xs k w) (callOb Try.prog 37 (ye34 ws xs k w) [(ye26 ws k w)] none false (ye40 ws k w)))∧True)∧((sE (zwv_5_1_11 ws xs k w) (True))∧(sE (zwv_5_1_12 ws xs k w) (True))∧True)∧((sE (zwv_5_1_11 ws xs k w) (True))∧True)∧((sE (zwv_5_1_13 ws xs k w) (True))∧True)∧((sE (zwv_5_1_13 ws xs k w) (True))∧True)∧((sE (zwv_5_1_14 ws xs k w) (True))∧True)∧((sE (zwv_5_1_15 ws xs k w) ((True∧(fitsF (wvF 5 ws k w)) = false)))∧True)∧True∧True) (by kernel_rfl) (by kernel_rfl) (by kernel_rfl) (by kernel_rfl) (by kernel_rfl) (by kernel_rfl)
    ⟨⟨⟨rfl,oK,oK⟩,⟨rfl,oK,oK⟩,⟨rfl,oK,oK⟩,oK⟩,⟨⟨rfl,oK,oK⟩,⟨rfl,oK,oK⟩,oK⟩,⟨⟨rfl,oK,oK⟩,⟨rfl,oK,oK⟩,oK⟩,⟨⟨rfl,oK,oK⟩,⟨rfl,oK,oK⟩,⟨rfl,(fits_ok _),oK⟩,oK⟩,⟨⟨rfl,oK,oK⟩,oK⟩,⟨⟨rfl,oK,oK⟩,⟨rfl,(fits_ok _),oK⟩,oK⟩,⟨⟨rfl,oK,oK⟩,⟨rfl,(fits_ok _),oK⟩,oK⟩,⟨⟨rfl,oK,oK⟩,⟨rfl,oK,oK⟩,oK⟩,⟨⟨rfl,(fits_ok _),oK⟩,oK⟩,⟨⟨rfl,oK,oK⟩,⟨rfl,oK,oK⟩,oK⟩,⟨⟨rfl,oK,oK⟩,oK⟩,⟨⟨rfl,oK,oK⟩,oK⟩,⟨⟨rfl,oK,oK⟩,oK⟩,⟨⟨rfl,oK,oK⟩,oK⟩,⟨⟨rfl,⟨oK,(by first | exact h3 | simpa [wvF] using h3)⟩,oK⟩,oK⟩,oK,oK⟩ ?_
  refine Ev.ret ?_
  refine ⟨⟨oK,oK,oK,oK⟩,(?_ : ((2 : Int) = 2∧(ye2 : D) = ye2∧((.fn (.func 46) [] []) : D) = (.fn (.func 46) [] [])∧True)∧(wvF 5 ws k w) = (wvF 5 ws k w)∧false = false∧True),.inl rfl⟩
  exact ⟨⟨rfl,rfl,rfl,oK⟩,rfl,rfl,oK⟩

def zg_6_1_0 (ws xs : List Int) (k w : Int) : St := ⟨[(4,ye5),(7,ye6),(9,(ye27 ws k w))],(ye30 ws xs k w)⟩
def zg_6_1_1 (ws xs : List Int) (k w : Int) : St := ⟨[(4,ye5),(7,ye6),(9,(ye27 ws k w)),(44,ye18)],(ye30 ws xs k w)⟩
def zg_6_1_2 (ws xs : List Int) (k w : Int) : St := ⟨[(4,ye5),(7,ye6),(9,(ye27 ws k w)),(45,(ye27 ws k w))],(ye30 ws xs k w)⟩
def zg_6_1_3 (ws xs : List Int) (k w : Int) : St := ⟨[(4,ye5),(7,ye6),(9,(ye27 ws k w)),(46,(ye27 ws k w))],(ye30 ws xs k w)⟩
def zg_6_1_4 (ws xs : List Int) (k w : Int) : St := ⟨[(4,ye5),(7,ye6),(9,(ye27 ws k w)),(44,ye18),(45,(ye27 ws k w))],(ye30 ws xs k w)⟩
def zg_6_1_5 (ws xs : List Int) (k w : Int) : St := ⟨[(4,ye5),(7,ye6),(9,(ye27 ws k w)),(44,ye18),(46,(ye27 ws k w))],(ye30 ws xs k w)⟩
def zg_6_1_6 (ws xs : List Int) (k w : Int) : St := ⟨[(4,ye5),(7,ye6),(9,(ye27 ws k w)),(45,(ye27 ws k w)),(46,(ye27 ws k w))],(ye30 ws xs k w)⟩
def zg_6_1_7 (ws xs : List Int) (k w : Int) : St := ⟨[(4,ye5),(7,ye6),(9,(ye27 ws k w)),(46,(ye27 ws k w)),(47,(ye41 ws k w))],(ye30 ws xs k w)⟩
def zg_6_1_8 (ws xs : List Int) (k w : Int) : St := ⟨[(4,ye5),(7,ye6),(9,(ye27 ws k w)),(44,ye18),(45,(ye27 ws k w)),(46,(ye27 ws k w))],(ye30 ws xs k w)⟩
def zg_6_1_9 (ws xs : List Int) (k w : Int) : St := ⟨[(4,ye5),(7,ye6),(9,(ye27 ws k w)),(44,ye18),(46,(ye27 ws k w)),(47,(ye41 ws k w))],(ye30 ws xs k w)⟩
def zg_6_1_10 (ws xs : List Int) (k w : Int) : St := ⟨[(4,ye5),(7,ye6),(9,(ye27 ws k w)),(45,(ye27 ws k w)),(46,(ye27 ws k w)),(47,(ye41 ws k w))],(ye30 ws xs k w)⟩
def zg_6_1_11 (ws xs : List Int) (k w : Int) : St := ⟨[(4,ye5),(7,ye6),(9,(ye27 ws k w)),(44,ye18),(45,(ye27 ws k w)),(46,(ye27 ws k w)),(47,(ye41 ws k w))],(ye30 ws xs k w)⟩
def zg_6_1_12 (ws xs : List Int) (k w : Int) : St := ⟨[(4,ye5),(7,ye6),(9,(ye27 ws k w)),(44,ye18),(46,(ye27 ws k w)),(47,(ye41 ws k w))],[(ye1 ws xs k w),ye10,ye10]⟩
def zg_6_1_13 (ws xs : List Int) (k w : Int) : St := ⟨[(4,ye5),(7,ye6),(9,(ye27 ws k w)),(44,ye18),(45,(ye27 ws k w)),(46,(ye27 ws k w)),(47,(ye41 ws k w))],[(ye1 ws xs k w),ye10,ye10]⟩
def zg_6_1_14 (ws xs : List Int) (k w : Int) : St := ⟨[(4,ye5),(5,(ye27 ws k w)),(7,ye6),(9,(ye27 ws k w)),(44,ye18),(45,(ye27 ws k w)),(46,(ye27 ws k w)),(47,(ye41 ws k w))],[(ye1 ws xs k w),ye10,ye10]⟩
def zg_6_1_15 (ws xs : List Int) (k w : Int) : St := ⟨[(4,ye5),(5,(ye27 ws k w)),(6,(dB true))],[(ye1 ws xs k w),ye10,ye10]⟩
set_option maxRecDepth 100000 in
theorem width_good_6 (ws xs : List Int) (k w : Int) (hw : ws.length ≤ 9223372036854775807) (h : okF 6 ws k w = true) : CallOk Try.prog 27 [(i6 6),(ye20 ws xs k w)] [] true (.tup [ye18,(ye27 ws k w),(dB true)]) [] := by
  refine CallOk.of_ev Try.func27 rfl rfl rfl ?_
  rintro ⟨_,W,S0,_,susp,_⟩ rfl rfl rfl
  obtain ⟨h1,h2,h3⟩ := ok_yes h
  have hA : arityF 6 = 2 := by decide
  rw [hA] at h1
  refine Ev.seq ?_
  refine Ev.reg [] [0,3,4] (st' := ⟨[(0,(i6 6)),(3,ye12),(4,ye5)],(ye45 ws xs k w)⟩)
    (p := T4 True) (by kernel_rfl)
    ⟨oK,oK,oK,oK,oK⟩ ?_
  refine Ev.seq ?_
  refine Ev.reg [(0,.call none false (.v (.mp simpleM))),(2,.idx (some 4))] [0,3,4,7,8] (st' := ⟨[(0,(i6 6)),(3,ye12),(4,ye5),(7,ye6),(8,(dB true))],(ye30 ws xs k w)⟩)
    (p := callOb Try.prog 33 (ye45 ws xs k w) [] none false (.v (.mp simpleM))∧True∧((6 : Int) = 6∧∀ e' ∈ simpleM.take 4,(6 : Int) ≠ e'.1)∧True∧True∧True∧True∧True∧True∧True) (by kernel_rfl)
    ⟨simple_ok,oK,(by decide),oK,oK,oK,oK,oK,oK,oK⟩ ?_
  refine Ev.seq ?_
  refine Ev.seq ?_
  refine Ev.reg [] [0,3,4,7,8,17] (st' := ⟨ye51,(ye30 ws xs k w)⟩)
    (p := T2 True) (by kernel_rfl)
    ⟨oK,oK,oK⟩ ?_
  refine Ev.cond false rfl (fun h => (by cases h)) (fun _ => ?_)
  refine Ev.skip ?_
  refine Ev.seq ?_
  refine Ev.seq ?_
  refine Ev.reg [(8,.val (dB false)),(13,.call none false (ye21 ws)),(14,.val (dB false))] [3,4,7,38] (st' := ⟨[(3,ye12),(4,ye5),(7,ye6),(38,(dB false))],(ye30 ws xs k w)⟩)
    (p := T8 ((True∧(((ws.length : Nat) : Int) != 2) = false)∧T4 (callOb Try.prog 35 (ye30 ws xs k w) (ye29 ws) none false (ye21 ws)∧(True∧(!(ws.all fitsF)) = false)∧True))) (by kernel_rfl)
    ⟨oK,oK,oK,oK,oK,oK,oK,oK,⟨oK,(by rw [h1]; rfl)⟩,oK,oK,oK,oK,(contains_ok _ (by first | omega | (simp; first | done | omega))),⟨oK,(by rw [h2]; rfl)⟩,oK⟩ ?_
  refine Ev.cond false rfl (fun h => (by cases h)) (fun _ => ?_)
  refine Ev.skip ?_
  refine Ev.seq ?_
  refine Ev.reg [(3,.call none false (ye53 ws)),(4,.val (ye27 ws k w))] [4,7,9] (st' := ⟨[(4,ye5),(7,ye6),(9,(ye27 ws k w))],(ye30 ws xs k w)⟩)
    (p := T3 (callOb Try.prog 43 (ye30 ws xs k w) [(ye20 ws xs k w)] none false (ye53 ws)∧(True∧(alikeF ws) = (wvF 6 ws k w))∧True)) (by kernel_rfl)
    ⟨oK,oK,oK,(alike_ok _ _ _ _ (by omega) (by assumption)),⟨oK,(by first | rfl | simp [wvF])⟩,oK⟩ ?_
  refine Ev.seq ?_
  refine Ev.any [(3,.call none false (ye41 ws k w)),(6,.val (dB true))] [((bm 7 0),(zg_6_1_0 ws xs k w)),((bm 7 1),(zg_6_1_1 ws xs k w)),((bm 7 2),(zg_6_1_2 ws xs k w)),((bm 7 4),(zg_6_1_3 ws xs k w)),((bm 7 3),(zg_6_1_4 ws xs k w)),((bm 7 5),(zg_6_1_5 ws xs k w)),((bm 7 6),(zg_6_1_6 ws xs k w)),((bm 7 12),(zg_6_1_7 ws xs k w)),((bm 7 7),(zg_6_1_8 ws xs k w)),((bm 7 13),(zg_6_1_9 ws xs k w)),((bm 7 14),(zg_6_1_10 ws xs k w)),((bm 7 15),(zg_6_1_11 ws xs k w)),((bm 7 29),(zg_6_1_12 ws xs k w)),((bm 7 31),(zg_6_1_13 ws xs k w)),((bm 7 63),(zg_6_1_14 ws xs k w)),((bm 7 127),(zg_6_1_15 ws xs k w))] (st0 := (zg_6_1_0 ws xs k w)) (st' := ⟨[(4,ye5),(5,(ye27 ws k w)),(6,(dB true))],[(ye1 ws xs k w),ye10,ye10]⟩)
    (p := ((sE (zg_6_1_1 ws xs k w) (True))∧(sE (zg_6_1_2 ws xs k w) (True))∧(sE (zg_6_1_3 ws xs k w) (True))∧True)∧((sE (zg_6_1_4 ws xs k w) (True))∧(sE (zg_6_1_5 ws xs k w) (True))∧True)∧((sE (zg_6_1_4 ws xs k w) (True))∧(sE (zg_6_1_6 ws xs k w) (True))∧True)∧((sE (zg_6_1_5 ws xs k w) (True))∧(sE (zg_6_1_6 ws xs k w) (True))∧(sE (zg_6_1_7 ws xs k w) (callOb Try.prog 37 (ye30 ws xs k w) [(ye27 ws k w)] none false (ye41 ws k w)))∧True)∧((sE (zg_6_1_8 ws xs k w) (True))∧True)∧((sE (zg_6_1_8 ws xs k w) (True))∧(sE (zg_6_1_9 ws xs k w) (callOb Try.prog 37 (ye30 ws xs k w) [(ye27 ws k w)] none false (ye41 ws k w)))∧True)∧((sE (zg_6_1_8 ws xs k w) (True))∧(sE (zg_6_1_10 ws xs k w) (callOb Try.prog 37 (ye30 ws xs k w) [(ye27 ws k w)] none false (ye41 ws k w)))∧True)∧((sE (zg_6_1_9 ws xs k w) (True))∧(sE (zg_6_1_10 ws xs k w) (True))∧True)∧((sE (zg_6_1_11 ws xs k w) (callOb Try.prog 37 (ye30 ws xs k w) [(ye27 ws k w)] none false (ye41 ws k w)))∧True)∧((sE (zg_6_1_11 ws xs k w) (True))∧(sE (zg_6_1_12 ws xs k w) (True))∧True)∧((sE (zg_6_1_11 ws xs k w) (True))∧True)∧((sE (zg_6_1_13 ws xs k w) (True))∧True)∧((sE (zg_6_1_13 ws xs k w) (True))∧True)∧((sE (zg_6_1_14 ws xs k w) (True))∧True)∧((sE (zg_6_1_15 ws xs k w) ((True∧(fitsF (wvF 6 ws k w)) = true)))∧True)∧True∧True) (by kernel_rfl) (by kernel_rfl) (by kernel_rfl) (by kernel_rfl) (by kernel_rfl) (by kernel_rfl)
    ⟨⟨⟨rfl,oK,oK⟩,⟨rfl,oK,oK⟩,⟨rfl,oK,oK⟩,oK⟩,⟨⟨rfl,oK,oK⟩,⟨rfl,oK,oK⟩,oK⟩,⟨⟨rfl,oK,oK⟩,⟨rfl,oK,oK⟩,oK⟩,⟨⟨rfl,oK,oK⟩,⟨rfl,oK,oK⟩,⟨rfl,(fits_ok _),oK⟩,oK⟩,⟨⟨rfl,oK,oK⟩,oK⟩,⟨⟨rfl,oK,oK⟩,⟨rfl,(fits_ok _),oK⟩,oK⟩,⟨⟨rfl,oK,oK⟩,⟨rfl,(fits_ok _),oK⟩,oK⟩,⟨⟨rfl,oK,oK⟩,⟨rfl,oK,oK⟩,oK⟩,⟨⟨rfl,(fits_ok _),oK⟩,oK⟩,⟨⟨rfl,oK,oK⟩,⟨rfl,oK,oK⟩,oK⟩,⟨⟨rfl,oK,oK⟩,oK⟩,⟨⟨rfl,oK,oK⟩,oK⟩,⟨⟨rfl,oK,oK⟩,oK⟩,⟨⟨rfl,oK,oK⟩,oK⟩,⟨⟨rfl,⟨oK,(by first | exact h3 | simpa [wvF] using h3)⟩,oK⟩,oK⟩,oK,oK⟩ ?_
  refine Ev.ret ?_
  refine ⟨⟨oK,oK,oK,oK⟩,(?_ : ((2 : Int) = 2∧(ye2 : D) = ye2∧((.fn (.func 47) [] []) : D) = (.fn (.func 47) [] [])∧True)∧(wvF 6 ws k w) = (wvF 6 ws k w)∧true = true∧True),.inl rfl⟩
  exact ⟨⟨rfl,rfl,rfl,oK⟩,rfl,rfl,oK⟩

set_option maxRecDepth 100000 in
theorem width_bad_6 (ws xs : List Int) (k w : Int) (hw : ws.length ≤ 9223372036854775807) (h : okB 6 ws = false) : CallOk Try.prog 27 [(i6 6),(ye20 ws xs k w)] [] true ye35 [] := by
  refine CallOk.of_ev Try.func27 rfl rfl rfl ?_
  rintro ⟨_,W,S0,_,susp,_⟩ rfl rfl rfl
  refine Ev.seq ?_
  refine Ev.reg [] [0,3,4] (st' := ⟨[(0,(i6 6)),(3,ye12),(4,ye5)],(ye45 ws xs k w)⟩)
    (p := T4 True) (by kernel_rfl)
    ⟨oK,oK,oK,oK,oK⟩ ?_
  refine Ev.seq ?_
  refine Ev.reg [(0,.call none false (.v (.mp simpleM))),(2,.idx (some 4))] [0,3,4,7,8] (st' := ⟨[(0,(i6 6)),(3,ye12),(4,ye5),(7,ye6),(8,(dB true))],(ye30 ws xs k w)⟩)
    (p := callOb Try.prog 33 (ye45 ws xs k w) [] none false (.v (.mp simpleM))∧True∧((6 : Int) = 6∧∀ e' ∈ simpleM.take 4,(6 : Int) ≠ e'.1)∧True∧True∧True∧True∧True∧True∧True) (by kernel_rfl)
    ⟨simple_ok,oK,(by decide),oK,oK,oK,oK,oK,oK,oK⟩ ?_
  refine Ev.seq ?_
  refine Ev.seq ?_
  refine Ev.reg [] [0,3,4,7,8,17] (st' := ⟨ye51,(ye30 ws xs k w)⟩)
    (p := T2 True) (by kernel_rfl)
    ⟨oK,oK,oK⟩ ?_
  refine Ev.cond false rfl (fun h => (by cases h)) (fun _ => ?_)
  refine Ev.skip ?_
  refine Ev.seq ?_
  refine Ev.seq ?_
  rcases okB_no h with h1 | ⟨h1,h2⟩
  · skip
    have hA : arityF 6 = 2 := by decide
    rw [hA] at h1
    refine Ev.reg [(8,.val (dB true))] [3,4,7,38] (st' := ⟨[(3,ye12),(4,ye5),(7,ye6),(38,(dB true))],(ye30 ws xs k w)⟩)
      (p := T8 ((True∧(((ws.length : Nat) : Int) != 2) = true)∧T6 True)) (by kernel_rfl)
      ⟨oK,oK,oK,oK,oK,oK,oK,oK,⟨oK,(by exact bne_iff_ne.2 (by omega))⟩,oK,oK,oK,oK,oK,oK,oK⟩ ?_
    refine Ev.cond true rfl (fun _ => ?_) (fun h => (by cases h))
    refine Ev.seq ?_
    refine Ev.reg [] [4,5,6] (st' := ⟨[(4,ye5),(5,(i6 0)),(6,(dB false))],(ye30 ws xs k w)⟩)
      (p := T4 True) (by kernel_rfl)
      ⟨oK,oK,oK,oK,oK⟩ ?_
    refine Ev.ret ?_
    refine ⟨⟨oK,oK,oK,oK⟩,(?_ : ((0 : Int) = 0∧True∧True∧True)∧(0 : Int) = 0∧false = false∧True),.inl rfl⟩
    exact ⟨⟨rfl,oK,oK,oK⟩,rfl,rfl,oK⟩
  · skip
    have hA : arityF 6 = 2 := by decide
    rw [hA] at h1
    refine Ev.reg [(8,.val (dB false)),(13,.call none false (ye21 ws)),(14,.val (dB true))] [3,4,7,38] (st' := ⟨[(3,ye12),(4,ye5),(7,ye6),(38,(dB true))],(ye30 ws xs k w)⟩)
      (p := T8 ((True∧(((ws.length : Nat) : Int) != 2) = false)∧T4 (callOb Try.prog 35 (ye30 ws xs k w) (ye29 ws) none false (ye21 ws)∧(True∧(!(ws.all fitsF)) = true)∧True))) (by kernel_rfl)
      ⟨oK,oK,oK,oK,oK,oK,oK,oK,⟨oK,(by rw [h1]; rfl)⟩,oK,oK,oK,oK,(contains_ok _ (by first | omega | (simp; first | done | omega))),⟨oK,(by rw [h2]; rfl)⟩,oK⟩ ?_
    refine Ev.cond true rfl (fun _ => ?_) (fun h => (by cases h))
    refine Ev.seq ?_
    refine Ev.reg [] [4,5,6] (st' := ⟨[(4,ye5),(5,(i6 0)),(6,(dB false))],(ye30 ws xs k w)⟩)
      (p := T4 True) (by kernel_rfl)
      ⟨oK,oK,oK,oK,oK⟩ ?_
    refine Ev.ret ?_
    refine ⟨⟨oK,oK,oK,oK⟩,(?_ : ((0 : Int) = 0∧True∧True∧True)∧(0 : Int) = 0∧false = false∧True),.inl rfl⟩
    exact ⟨⟨rfl,oK,oK,oK⟩,rfl,rfl,oK⟩

def zwv_6_1_0 (ws xs : List Int) (k w : Int) : St := ⟨[(4,ye5),(7,ye6),(9,(ye27 ws k w))],(ye30 ws xs k w)⟩
def zwv_6_1_1 (ws xs : List Int) (k w : Int) : St := ⟨[(4,ye5),(7,ye6),(9,(ye27 ws k w)),(44,ye18)],(ye30 ws xs k w)⟩
def zwv_6_1_2 (ws xs : List Int) (k w : Int) : St := ⟨[(4,ye5),(7,ye6),(9,(ye27 ws k w)),(45,(ye27 ws k w))],(ye30 ws xs k w)⟩
def zwv_6_1_3 (ws xs : List Int) (k w : Int) : St := ⟨[(4,ye5),(7,ye6),(9,(ye27 ws k w)),(46,(ye27 ws k w))],(ye30 ws xs k w)⟩
def zwv_6_1_4 (ws xs : List Int) (k w : Int) : St := ⟨[(4,ye5),(7,ye6),(9,(ye27 ws k w)),(44,ye18),(45,(ye27 ws k w))],(ye30 ws xs k w)⟩
def zwv_6_1_5 (ws xs : List Int) (k w : Int) : St := ⟨[(4,ye5),(7,ye6),(9,(ye27 ws k w)),(44,ye18),(46,(ye27 ws k w))],(ye30 ws xs k w)⟩
def zwv_6_1_6 (ws xs : List Int) (k w : Int) : St := ⟨[(4,ye5),(7,ye6),(9,(ye27 ws k w)),(45,(ye27 ws k w)),(46,(ye27 ws k w))],(ye30 ws xs k w)⟩
def zwv_6_1_7 (ws xs : List Int) (k w : Int) : St := ⟨[(4,ye5),(7,ye6),(9,(ye27 ws k w)),(46,(ye27 ws k w)),(47,(ye41 ws k w))],(ye30 ws xs k w)⟩
def zwv_6_1_8 (ws xs : List Int) (k w : Int) : St := ⟨[(4,ye5),(7,ye6),(9,(ye27 ws k w)),(44,ye18),(45,(ye27 ws k w)),(46,(ye27 ws k w))],(ye30 ws xs k w)⟩
def zwv_6_1_9 (ws xs : List Int) (k w : Int) : St := ⟨[(4,ye5),(7,ye6),(9,(ye27 ws k w)),(44,ye18),(46,(ye27 ws k w)),(47,(ye41 ws k w))],(ye30 ws xs k w)⟩
def zwv_6_1_10 (ws xs : List Int) (k w : Int) : St := ⟨[(4,ye5),(7,ye6),(9,(ye27 ws k w)),(45,(ye27 ws k w)),(46,(ye27 ws k w)),(47,(ye41 ws k w))],(ye30 ws xs k w)⟩
def zwv_6_1_11 (ws xs : List Int) (k w : Int) : St := ⟨[(4,ye5),(7,ye6),(9,(ye27 ws k w)),(44,ye18),(45,(ye27 ws k w)),(46,(ye27 ws k w)),(47,(ye41 ws k w))],(ye30 ws xs k w)⟩
def zwv_6_1_12 (ws xs : List Int) (k w : Int) : St := ⟨[(4,ye5),(7,ye6),(9,(ye27 ws k w)),(44,ye18),(46,(ye27 ws k w)),(47,(ye41 ws k w))],[(ye1 ws xs k w),ye10,ye10]⟩
def zwv_6_1_13 (ws xs : List Int) (k w : Int) : St := ⟨[(4,ye5),(7,ye6),(9,(ye27 ws k w)),(44,ye18),(45,(ye27 ws k w)),(46,(ye27 ws k w)),(47,(ye41 ws k w))],[(ye1 ws xs k w),ye10,ye10]⟩
def zwv_6_1_14 (ws xs : List Int) (k w : Int) : St := ⟨[(4,ye5),(5,(ye27 ws k w)),(7,ye6),(9,(ye27 ws k w)),(44,ye18),(45,(ye27 ws k w)),(46,(ye27 ws k w)),(47,(ye41 ws k w))],[(ye1 ws xs k w),ye10,ye10]⟩
def zwv_6_1_15 (ws xs : List Int) (k w : Int) : St := ⟨[(4,ye5),(5,(ye27 ws k w)),(6,(dB false))],[(ye1 ws xs k w),ye10,ye10]⟩
set_option maxRecDepth 100000 in
theorem width_wv_6 (ws xs : List Int) (k w : Int) (hw : ws.length ≤ 9223372036854775807) (h : okB 6 ws = true) (h3 : fitsF (wvF 6 ws k w) = false) : CallOk Try.prog 27 [(i6 6),(ye20 ws xs k w)] [] true (.tup [ye18,(ye27 ws k w),(dB false)]) [] := by
  refine CallOk.of_ev Try.func27 rfl rfl rfl ?_
  rintro ⟨_,W,S0,_,susp,_⟩ rfl rfl rfl
  obtain ⟨h1,h2⟩ := okB_yes h
  have hA : arityF 6 = 2 := by decide
  rw [hA] at h1
  refine Ev.seq ?_
  refine Ev.reg [] [0,3,4] (st' := ⟨[(0,(i6 6)),(3,ye12),(4,ye5)],(ye45 ws xs k w)⟩)
    (p := T4 True) (by kernel_rfl)
    ⟨oK,oK,oK,oK,oK⟩ ?_
  refine Ev.seq ?_
  refine Ev.reg [(0,.call none false (.v (.mp simpleM))),(2,.idx (some 4))] [0,3,4,7,8] (st' := ⟨[(0,(i6 6)),(3,ye12),(4,ye5),(7,ye6),(8,(dB true))],(ye30 ws xs k w)⟩)
    (p := callOb Try.prog 33 (ye45 ws xs k w) [] none false (.v (.mp simpleM))∧True∧((6 : Int) = 6∧∀ e' ∈ simpleM.take 4,(6 : Int) ≠ e'.1)∧True∧True∧True∧True∧True∧True∧True) (by kernel_rfl)
    ⟨simple_ok,oK,(by decide),oK,oK,oK,oK,oK,oK,oK⟩ ?_
  refine Ev.seq ?_
  refine Ev.seq ?_
  refine Ev.reg [] [0,3,4,7,8,17] (st' := ⟨ye51,(ye30 ws xs k w)⟩)
    (p := T2 True) (by kernel_rfl)
    ⟨oK,oK,oK⟩ ?_
  refine Ev.cond false rfl (fun h => (by cases h)) (fun _ => ?_)
  refine Ev.skip ?_
  refine Ev.seq ?_
  refine Ev.seq ?_
  refine Ev.reg [(8,.val (dB false)),(13,.call none false (ye21 ws)),(14,.val (dB false))] [3,4,7,38] (st' := ⟨[(3,ye12),(4,ye5),(7,ye6),(38,(dB false))],(ye30 ws xs k w)⟩)
    (p := T8 ((True∧(((ws.length : Nat) : Int) != 2) = false)∧T4 (callOb Try.prog 35 (ye30 ws xs k w) (ye29 ws) none false (ye21 ws)∧(True∧(!(ws.all fitsF)) = false)∧True))) (by kernel_rfl)
    ⟨oK,oK,oK,oK,oK,oK,oK,oK,⟨oK,(by rw [h1]; rfl)⟩,oK,oK,oK,oK,(contains_ok _ (by first | omega | (simp; first | done | omega))),⟨oK,(by rw [h2]; rfl)⟩,oK⟩ ?_
  refine Ev.cond false rfl (fun h => (by cases h)) (fun _ => ?_)
  refine Ev.skip ?_
  refine Ev.seq ?_
  refine Ev.reg [(3,.call none false (ye53 ws)),(4,.val (ye27 ws k w))] [4,7,9] (st' := ⟨[(4,ye5),(7,ye6),(9,(ye27 ws k w))],(ye30 ws xs k w)⟩)
    (p := T3 (callOb Try.prog 43 (ye30 ws xs k w) [(ye20 ws xs k w)] none false (ye53 ws)∧(True∧(alikeF ws) = (wvF 6 ws k w))∧True)) (by kernel_rfl)
    ⟨oK,oK,oK,(alike_ok _ _ _ _ (by omega) (by assumption)),⟨oK,(by first | rfl | simp [wvF])⟩,oK⟩ ?_
  refine Ev.seq ?_
  refine Ev.any [(3,.call none false (ye41 ws k w)),(6,.val (dB false))] [((bm 7 0),(zwv_6_1_0 ws xs k w)),((bm 7 1),(zwv_6_1_1 ws xs k w)),((bm 7 2),(zwv_6_1_2 ws xs k w)),((bm 7 4),(zwv_6_1_3 ws xs k w)),((bm 7 3),(zwv_6_1_4 ws xs k w)),((bm 7 5),(zwv_6_1_5 ws xs k w)),((bm 7 6),(zwv_6_1_6 ws xs k w)),((bm 7 12),(zwv_6_1_7 ws xs k w)),((bm 7 7),(zwv_6_1_8 ws xs k w)),((bm 7 13),(zwv_6_1_9 ws xs k w)),((bm 7 14),(zwv_6_1_10 ws xs k w)),((bm 7 15),(zwv_6_1_11 ws xs k w)),((bm 7 29),(zwv_6_1_12 ws xs k w)),((bm 7 31),(zwv_6_1_13 ws xs k w)),((bm 7 63),(zwv_6_1_14 ws xs k w)),((bm 7 127),(zwv_6_1_15 ws xs k w))] (st0 := (zwv_6_1_0 ws xs k w)) (st' := ⟨[(4,ye5),(5,(ye27 ws k w)),(6,(dB false))],[(ye1 ws xs k w),ye10,ye10]⟩)
    (p := ((sE (zwv_6_1_1 ws xs k w) (True))∧(sE (zwv_6_1_2 ws xs k w) (True))∧(sE (zwv_6_1_3 ws xs k w) (True))∧True)∧((sE (zwv_6_1_4 ws xs k w) (True))∧(sE (zwv_6_1_5 ws xs k w) (True))∧True)∧((sE (zwv_6_1_4 ws xs k w) (True))∧(sE (zwv_6_1_6 ws xs k w) (True))∧True)∧((sE (zwv_6_1_5 ws xs k w) (True))∧(sE (zwv_6_1_6 ws xs k w) (True))∧(sE (zwv_6_1_7 ws xs k w) (callOb Try.prog 37 (ye30 ws xs k w) [(ye27 ws k w)] none false (ye41 ws k w)))∧True)∧((sE (zwv_6_1_8 ws xs k w) (True))∧True)∧((sE (zwv_6_1_8 ws xs k w) (True))∧(sE (zwv_6_1_9 ws xs k w) (callOb Try.prog 37 (ye30 ws xs k w) [(ye27 ws k w)] none false (ye41 ws k w)))∧True)∧((sE (zwv_6_1_8 ws xs k w) (True))∧(sE (zwv_6_1_10 ws xs k w) (callOb Try.prog 37 (ye30 ws xs k w) [(ye27 ws k w)] none false (ye41 ws k w)))∧True)∧((sE (zwv_6_1_9 ws xs k w) (True))∧(sE (zwv_6_1_10 ws xs k w) (True))∧True)∧((sE (zwv_6_1_11 ws xs k w) (callOb Try.prog 37 (ye30 ws xs k w) [(ye27 ws k w)] none false (ye41 ws k w)))∧True)∧((sE (zwv_6_1_11 ws xs k w) (True))∧(sE (zwv_6_1_12 ws xs k w) (True))∧True)∧((sE (zwv_6_1_11 ws xs k w) (True))∧True)∧((sE (zwv_6_1_13 ws xs k w) (True))∧True)∧((sE (zwv_6_1_13 ws xs k w) (True))∧True)∧((sE (zwv_6_1_14 ws xs k w) (True))∧True)∧((sE (zwv_6_1_15 ws xs k w) ((True∧(fitsF (wvF 6 ws k w)) = false)))∧True)∧True∧True) (by kernel_rfl) (by kernel_rfl) (by kernel_rfl) (by kernel_rfl) (by kernel_rfl) (by kernel_rfl)
    ⟨⟨⟨rfl,oK,oK⟩,⟨rfl,oK,oK⟩,⟨rfl,oK,oK⟩,oK⟩,⟨⟨rfl,oK,oK⟩,⟨rfl,oK,oK⟩,oK⟩,⟨⟨rfl,oK,oK⟩,⟨rfl,oK,oK⟩,oK⟩,⟨⟨rfl,oK,oK⟩,⟨rfl,oK,oK⟩,⟨rfl,(fits_ok _),oK⟩,oK⟩,⟨⟨rfl,oK,oK⟩,oK⟩,⟨⟨rfl,oK,oK⟩,⟨rfl,(fits_ok _),oK⟩,oK⟩,⟨⟨rfl,oK,oK⟩,⟨rfl,(fits_ok _),oK⟩,oK⟩,⟨⟨rfl,oK,oK⟩,⟨rfl,oK,oK⟩,oK⟩,⟨⟨rfl,(fits_ok _),oK⟩,oK⟩,⟨⟨rfl,oK,oK⟩,⟨rfl,oK,oK⟩,oK⟩,⟨⟨rfl,oK,oK⟩,oK⟩,⟨⟨rfl,oK,oK⟩,oK⟩,⟨⟨rfl,oK,oK⟩,oK⟩,⟨⟨rfl,oK,oK⟩,oK⟩,⟨⟨rfl,⟨oK,(by first | exact h3 | simpa [wvF] using h3)⟩,oK⟩,oK⟩,oK,oK⟩ ?_
  refine Ev.ret ?_
  refine ⟨⟨oK,oK,oK,oK⟩,(?_ : ((2 : Int) = 2∧(ye2 : D) = ye2∧((.fn (.func 47) [] []) : D) = (.fn (.func 47) [] [])∧True)∧(wvF 6 ws k w) = (wvF 6 ws k w)∧false = false∧True),.inl rfl⟩
  exact ⟨⟨rfl,rfl,rfl,oK⟩,rfl,rfl,oK⟩

def zg_7_1_0 (ws xs : List Int) (k w : Int) : St := ⟨[(4,ye5),(7,ye6),(9,(ye28 ws k w))],(ye31 ws xs k w)⟩
def zg_7_1_1 (ws xs : List Int) (k w : Int) : St := ⟨[(4,ye5),(7,ye6),(9,(ye28 ws k w)),(44,ye19)],(ye31 ws xs k w)⟩
def zg_7_1_2 (ws xs : List Int) (k w : Int) : St := ⟨[(4,ye5),(7,ye6),(9,(ye28 ws k w)),(45,(ye28 ws k w))],(ye31 ws xs k w)⟩
def zg_7_1_3 (ws xs : List Int) (k w : Int) : St := ⟨[(4,ye5),(7,ye6),(9,(ye28 ws k w)),(46,(ye28 ws k w))],(ye31 ws xs k w)⟩
def zg_7_1_4 (ws xs : List Int) (k w : Int) : St := ⟨[(4,ye5),(7,ye6),(9,(ye28 ws k w)),(44,ye19),(45,(ye28 ws k w))],(ye31 ws xs k w)⟩
def zg_7_1_5 (ws xs : List Int) (k w : Int) : St := ⟨[(4,ye5),(7,ye6),(9,(ye28 ws k w)),(44,ye19),(46,(ye28 ws k w))],(ye31 ws xs k w)⟩
def zg_7_1_6 (ws xs : List Int) (k w : Int) : St := ⟨[(4,ye5),(7,ye6),(9,(ye28 ws k w)),(45,(ye28 ws k w)),(46,(ye28 ws k w))],(ye31 ws xs k w)⟩
def zg_7_1_7 (ws xs : List Int) (k w : Int) : St := ⟨[(4,ye5),(7,ye6),(9,(ye28 ws k w)),(46,(ye28 ws k w)),(47,(ye42 ws k w))],(ye31 ws xs k w)⟩
def zg_7_1_8 (ws xs : List Int) (k w : Int) : St := ⟨[(4,ye5),(7,ye6),(9,(ye28 ws k w)),(44,ye19),(45,(ye28 ws k w)),(46,(ye28 ws k w))],(ye31 ws xs k w)⟩
def zg_7_1_9 (ws xs : List Int) (k w : Int) : St := ⟨[(4,ye5),(7,ye6),(9,(ye28 ws k w)),(44,ye19),(46,(ye28 ws k w)),(47,(ye42 ws k w))],(ye31 ws xs k w)⟩
def zg_7_1_10 (ws xs : List Int) (k w : Int) : St := ⟨[(4,ye5),(7,ye6),(9,(ye28 ws k w)),(45,(ye28 ws k w)),(46,(ye28 ws k w)),(47,(ye42 ws k w))],(ye31 ws xs k w)⟩
def zg_7_1_11 (ws xs : List Int) (k w : Int) : St := ⟨[(4,ye5),(7,ye6),(9,(ye28 ws k w)),(44,ye19),(45,(ye28 ws k w)),(46,(ye28 ws k w)),(47,(ye42 ws k w))],(ye31 ws xs k w)⟩
def zg_7_1_12 (ws xs : List Int) (k w : Int) : St := ⟨[(4,ye5),(7,ye6),(9,(ye28 ws k w)),(44,ye19),(46,(ye28 ws k w)),(47,(ye42 ws k w))],[(ye1 ws xs k w),ye11,ye11]⟩
def zg_7_1_13 (ws xs : List Int) (k w : Int) : St := ⟨[(4,ye5),(7,ye6),(9,(ye28 ws k w)),(44,ye19),(45,(ye28 ws k w)),(46,(ye28 ws k w)),(47,(ye42 ws k w))],[(ye1 ws xs k w),ye11,ye11]⟩
def zg_7_1_14 (ws xs : List Int) (k w : Int) : St := ⟨[(4,ye5),(5,(ye28 ws k w)),(7,ye6),(9,(ye28 ws k w)),(44,ye19),(45,(ye28 ws k w)),(46,(ye28 ws k w)),(47,(ye42 ws k w))],[(ye1 ws xs k w),ye11,ye11]⟩
def zg_7_1_15 (ws xs : List Int) (k w : Int) : St := ⟨[(4,ye5),(5,(ye28 ws k w)),(6,(dB true))],[(ye1 ws xs k w),ye11,ye11]⟩
set_option maxRecDepth 100000 in
theorem width_good_7 (ws xs : List Int) (k w : Int) (hw : ws.length ≤ 9223372036854775807) (h : okF 7 ws k w = true) : CallOk Try.prog 27 [(i6 7),(ye20 ws xs k w)] [] true (.tup [ye19,(ye28 ws k w),(dB true)]) [] := by
  refine CallOk.of_ev Try.func27 rfl rfl rfl ?_
  rintro ⟨_,W,S0,_,susp,_⟩ rfl rfl rfl
  obtain ⟨h1,h2,h3⟩ := ok_yes h
  have hA : arityF 7 = 2 := by decide
  rw [hA] at h1
  refine Ev.seq ?_
  refine Ev.reg [] [0,3,4] (st' := ⟨[(0,(i6 7)),(3,ye12),(4,ye5)],(ye45 ws xs k w)⟩)
    (p := T4 True) (by kernel_rfl)
    ⟨oK,oK,oK,oK,oK⟩ ?_
  refine Ev.seq ?_
  refine Ev.reg [(0,.call none false (.v (.mp simpleM))),(2,.idx (some 5))] [0,3,4,7,8] (st' := ⟨[(0,(i6 7)),(3,ye12),(4,ye5),(7,ye6),(8,(dB true))],(ye31 ws xs k w)⟩)
    (p := callOb Try.prog 33 (ye45 ws xs k w) [] none false (.v (.mp simpleM))∧True∧((7 : Int) = 7∧∀ e' ∈ simpleM.take 5,(7 : Int) ≠ e'.1)∧True∧True∧True∧True∧True∧True∧True) (by kernel_rfl)
    ⟨simple_ok,oK,(by decide),oK,oK,oK,oK,oK,oK,oK⟩ ?_
  refine Ev.seq ?_
  refine Ev.seq ?_
  refine Ev.reg [] [0,3,4,7,8,17] (st' := ⟨ye52,(ye31 ws xs k w)⟩)
    (p := T2 True) (by kernel_rfl)
    ⟨oK,oK,oK⟩ ?_
  refine Ev.cond false rfl (fun h => (by cases h)) (fun _ => ?_)
  refine Ev.skip ?_
  refine Ev.seq ?_
  refine Ev.seq ?_
  refine Ev.reg [(8,.val (dB false)),(13,.call none false (ye21 ws)),(14,.val (dB false))] [3,4,7,38] (st' := ⟨[(3,ye12),(4,ye5),(7,ye6),(38,(dB false))],(ye31 ws xs k w)⟩)
    (p := T8 ((True∧(((ws.length : Nat) : Int) != 2) = false)∧T4 (callOb Try.prog 35 (ye31 ws xs k w) (ye29 ws) none false (ye21 ws)∧(True∧(!(ws.all fitsF)) = false)∧True))) (by kernel_rfl)
    ⟨oK,oK,oK,oK,oK,oK,oK,oK,⟨oK,(by rw [h1]; rfl)⟩,oK,oK,oK,oK,(contains_ok _ (by first | omega | (simp; first | done | omega))),⟨oK,(by rw [h2]; rfl)⟩,oK⟩ ?_
  refine Ev.cond false rfl (fun h => (by cases h)) (fun _ => ?_)
  refine Ev.skip ?_
  refine Ev.seq ?_
  refine Ev.reg [(3,.call none false (ye53 ws)),(4,.val (ye28 ws k w))] [4,7,9] (st' := ⟨[(4,ye5),(7,ye6),(9,(ye28 ws k w))],(ye31 ws xs k w)⟩)
    (p := T3 (callOb Try.prog 43 (ye31 ws xs k w) [(ye20 ws xs k w)] none false (ye53 ws)∧(True∧(alikeF ws) = (wvF 7 ws k w))∧True)) (by kernel_rfl)
    ⟨oK,oK,oK,(alike_ok _ _ _ _ (by omega) (by assumption)),⟨oK,(by first | rfl | simp [wvF])⟩,oK⟩ ?_
  refine Ev.seq ?_
  refine Ev.any [(3,.call none false (ye42 ws k w)),(6,.val (dB true))] [((bm 7 0),(zg_7_1_0 ws xs k w)),((bm 7 1),(zg_7_1_1 ws xs k w)),((bm 7 2),(zg_7_1_2 ws xs k w)),((bm 7 4),(zg_7_1_3 ws xs k w)),((bm 7 3),(zg_7_1_4 ws xs k w)),((bm 7 5),(zg_7_1_5 ws xs k w)),((bm 7 6),(zg_7_1_6 ws xs k w)),((bm 7 12),(zg_7_1_7 ws xs k w)),((bm 7 7),(zg_7_1_8 ws xs k w)),((bm 7 13),(zg_7_1_9 ws xs k w)),((bm 7 14),(zg_7_1_10 ws xs k w)),((bm 7 15),(zg_7_1_11 ws xs k w)),((bm 7 29),(zg_7_1_12 ws xs k w)),((bm 7 31),(zg_7_1_13 ws xs k w)),((bm 7 63),(zg_7_1_14 ws xs k w)),((bm 7 127),(zg_7_1_15 ws xs k w))] (st0 := (zg_7_1_0 ws xs k w)) (st' := ⟨[(4,ye5),(5,(ye28 ws k w)),(6,(dB true))],[(ye1 ws xs k w),ye11,ye11]⟩)
    (p := ((sE (zg_7_1_1 ws xs k w) (True))∧(sE (zg_7_1_2 ws xs k w) (True))∧(sE (zg_7_1_3 ws xs k w) (True))∧True)∧((sE (zg_7_1_4 ws xs k w) (True))∧(sE (zg_7_1_5 ws xs k w) (True))∧True)∧((sE (zg_7_1_4 ws xs k w) (True))∧(sE (zg_7_1_6 ws xs k w) (True))∧True)∧((sE (zg_7_1_5 ws xs k w) (True))∧(sE (zg_7_1_6 ws xs k w) (True))∧(sE (zg_7_1_7 ws xs k w) (callOb Try.prog 37 (ye31 ws xs k w) [(ye28 ws k w)] none false (ye42 ws k w)))∧True)∧((sE (zg_7_1_8 ws xs k w) (True))∧True)∧((sE (zg_7_1_8 ws xs k w) (True))∧(sE (zg_7_1_9 ws xs k w) (callOb Try.prog 37 (ye31 ws xs k w) [(ye28 ws k w)] none false (ye42 ws k w)))∧True)∧((sE (zg_7_1_8 ws xs k w) (True))∧(sE (zg_7_1_10 ws xs k w) (callOb Try.prog 37 (ye31 ws xs k w) [(ye28 ws k w)] none false (ye42 ws k w)))∧True)∧((sE (zg_7_1_9 ws xs k w) (True))∧(sE (zg_7_1_10 ws xs k w) (True))∧True)∧((sE (zg_7_1_11 ws xs k w) (callOb Try.prog 37 (ye31 ws xs k w) [(ye28 ws k w)] none false (ye42 ws k w)))∧True)∧((sE (zg_7_1_11 ws xs k w) (True))∧(sE (zg_7_1_12 ws xs k w) (True))∧True)∧((sE (zg_7_1_11 ws xs k w) (True))∧True)∧((sE (zg_7_1_13 ws xs k w) (True))∧True)∧((sE (zg_7_1_13 ws xs k w) (True))∧True)∧((sE (zg_7_1_14 ws xs k w) (True))∧True)∧((sE (zg_7_1_15 ws xs k w) ((True∧(fitsF (wvF 7 ws k w)) = true)))∧True)∧True∧True) (by kernel_rfl) (by kernel_rfl) (by kernel_rfl) (by kernel_rfl) (by kernel_rfl) (by kernel_rfl)
    ⟨⟨⟨rfl,oK,oK⟩,⟨rfl,oK,oK⟩,⟨rfl,oK,oK⟩,oK⟩,⟨⟨rfl,oK,oK⟩,⟨rfl,oK,oK⟩,oK⟩,⟨⟨rfl,oK,oK⟩,⟨rfl,oK,oK⟩,oK⟩,⟨⟨rfl,oK,oK⟩,⟨rfl,oK,oK⟩,⟨rfl,(fits_ok _),oK⟩,oK⟩,⟨⟨rfl,oK,oK⟩,oK⟩,⟨⟨rfl,oK,oK⟩,⟨rfl,(fits_ok _),oK⟩,oK⟩,⟨⟨rfl,oK,oK⟩,⟨rfl,(fits_ok _),oK⟩,oK⟩,⟨⟨rfl,oK,oK⟩,⟨rfl,oK,oK⟩,oK⟩,⟨⟨rfl,(fits_ok _),oK⟩,oK⟩,⟨⟨rfl,oK,oK⟩,⟨rfl,oK,oK⟩,oK⟩,⟨⟨rfl,oK,oK⟩,oK⟩,⟨⟨rfl,oK,oK⟩,oK⟩,⟨⟨rfl,oK,oK⟩,oK⟩,⟨⟨rfl,oK,oK⟩,oK⟩,⟨⟨rfl,⟨oK,(by first | exact h3 | simpa [wvF] using h3)⟩,oK⟩,oK⟩,oK,oK⟩ ?_
  refine Ev.ret ?_
  refine ⟨⟨oK,oK,oK,oK⟩,(?_ : ((2 : Int) = 2∧(ye2 : D) = ye2∧((.fn (.func 48) [] []) : D) = (.fn (.func 48) [] [])∧True)∧(wvF 7 ws k w) = (wvF 7 ws k w)∧true = true∧True),.inl rfl⟩
  exact ⟨⟨rfl,rfl,rfl,oK⟩,rfl,rfl,oK⟩

set_option maxRecDepth 100000 in
theorem width_bad_7 (ws xs : List Int) (k w : Int) (hw : ws.length ≤ 9223372036854775807) (h : okB 7 ws = false) : CallOk Try.prog 27 [(i6 7),(ye20 ws xs k w)] [] true ye35 [] := by
  refine CallOk.of_ev Try.func27 rfl rfl rfl ?_
  rintro ⟨_,W,S0,_,susp,_⟩ rfl rfl rfl
  refine Ev.seq ?_
  refine Ev.reg [] [0,3,4] (st' := ⟨[(0,(i6 7)),(3,ye12),(4,ye5)],(ye45 ws xs k w)⟩)
    (p := T4 True) (by kernel_rfl)
    ⟨oK,oK,oK,oK,oK⟩ ?_
  refine Ev.seq ?_
  refine Ev.reg [(0,.call none false (.v (.mp simpleM))),(2,.idx (some 5))] [0,3,4,7,8] (st' := ⟨[(0,(i6 7)),(3,ye12),(4,ye5),(7,ye6),(8,(dB true))],(ye31 ws xs k w)⟩)
    (p := callOb Try.prog 33 (ye45 ws xs k w) [] none false (.v (.mp simpleM))∧True∧((7 : Int) = 7∧∀ e' ∈ simpleM.take 5,(7 : Int) ≠ e'.1)∧True∧True∧True∧True∧True∧True∧True) (by kernel_rfl)
    ⟨simple_ok,oK,(by decide),oK,oK,oK,oK,oK,oK,oK⟩ ?_
  refine Ev.seq ?_
  refine Ev.seq ?_
  refine Ev.reg [] [0,3,4,7,8,17] (st' := ⟨ye52,(ye31 ws xs k w)⟩)
    (p := T2 True) (by kernel_rfl)
    ⟨oK,oK,oK⟩ ?_
  refine Ev.cond false rfl (fun h => (by cases h)) (fun _ => ?_)
  refine Ev.skip ?_
  refine Ev.seq ?_
  refine Ev.seq ?_
  rcases okB_no h with h1 | ⟨h1,h2⟩
  · skip
    have hA : arityF 7 = 2 := by decide
    rw [hA] at h1
    refine Ev.reg [(8,.val (dB true))] [3,4,7,38] (st' := ⟨[(3,ye12),(4,ye5),(7,ye6),(38,(dB true))],(ye31 ws xs k w)⟩)
      (p := T8 ((True∧(((ws.length : Nat) : Int) != 2) = true)∧T6 True)) (by kernel_rfl)
      ⟨oK,oK,oK,oK,oK,oK,oK,oK,⟨oK,(by exact bne_iff_ne.2 (by omega))⟩,oK,oK,oK,oK,oK,oK,oK⟩ ?_
    refine Ev.cond true rfl (fun _ => ?_) (fun h => (by cases h))
    refine Ev.seq ?_
    refine Ev.reg [] [4,5,6] (st' := ⟨[(4,ye5),(5,(i6 0)),(6,(dB false))],(ye31 ws xs k w)⟩)
      (p := T4 True) (by kernel_rfl)
      ⟨oK,oK,oK,oK,oK⟩ ?_
    refine Ev.ret ?_
    refine ⟨⟨oK,oK,oK,oK⟩,(?_ : ((0 : Int) = 0∧True∧True∧True)∧(0 : Int) = 0∧false = false∧True),.inl rfl⟩
    exact ⟨⟨rfl,oK,oK,oK⟩,rfl,rfl,oK⟩
  · skip
    have hA : arityF 7 = 2 := by decide
    rw [hA] at h1
    refine Ev.reg [(8,.val (dB false)),(13,.call none false (ye21 ws)),(14,.val (dB true))] [3,4,7,38] (st' := ⟨[(3,ye12),(4,ye5),(7,ye6),(38,(dB true))],(ye31 ws xs k w)⟩)
      (p := T8 ((True∧(((ws.length : Nat) : Int) != 2) = false)∧T4 (callOb Try.prog 35 (ye31 ws xs k w) (ye29 ws) none false (ye21 ws)∧(True∧(!(ws.all fitsF)) = true)∧True))) (by kernel_rfl)
      ⟨oK,oK,oK,oK,oK,oK,oK,oK,⟨oK,(by rw [h1]; rfl)⟩,oK,oK,oK,oK,(contains_ok _ (by first | omega | (simp; first | done | omega))),⟨oK,(by rw [h2]; rfl)⟩,oK⟩ ?_
    refine Ev.cond true rfl (fun _ => ?_) (fun h => (by cases h))
    refine Ev.seq ?_
    refine Ev.reg [] [4,5,6] (st' := ⟨[(4,ye5),(5,(i6 0)),(6,(dB false))],(ye31 ws xs k w)⟩)
      (p := T4 True) (by kernel_rfl)
      ⟨oK,oK,oK,oK,oK⟩ ?_
    refine Ev.ret ?_
    refine ⟨⟨oK,oK,oK,oK⟩,(?_ : ((0 : Int) = 0∧True∧True∧True)∧(0 : Int) = 0∧false = false∧True),.inl rfl⟩
    exact ⟨⟨rfl,oK,oK,oK⟩,rfl,rfl,oK⟩

def zwv_7_1_0 (ws xs : List Int) (k w : Int) : St := ⟨[(4,ye5),(7,ye6),(9,(ye28 ws k w))],(ye31 ws xs k w)⟩
def zwv_7_1_1 (ws xs : List Int) (k w : Int) : St := ⟨[(4,ye5),(7,ye6),(9,(ye28 ws k w)),(44,ye19)],(ye31 ws xs k w)⟩
def zwv_7_1_2 (ws xs : List Int) (k w : Int) : St := ⟨[(4,ye5),(7,ye6),(9,(ye28 ws k w)),(45,(ye28 ws k w))],(ye31 ws xs k w)⟩
def zwv_7_1_3 (ws xs : List Int) (k w : Int) : St := ⟨[(4,ye5),(7,ye6),(9,(ye28 ws k w)),(46,(ye28 ws k w))],(ye31 ws xs k w)⟩
def zwv_7_1_4 (ws xs : List Int) (k w : Int) : St := ⟨[(4,ye5),(7,ye6),(9,(ye28 ws k w)),(44,ye19),(45,(ye28 ws k w))],(ye31 ws xs k w)⟩
def zwv_7_1_5 (ws xs : List Int) (k w : Int) : St := ⟨[(4,ye5),(7,ye6),(9,(ye28 ws k w)),(44,ye19),(46,(ye28 ws k w))],(ye31 ws xs k w)⟩
def zwv_7_1_6 (ws xs : List Int) (k w : Int) : St := ⟨[(4,ye5),(7,ye6),(9,(ye28 ws k w)),(45,(ye28 ws k w)),(46,(ye28 ws k w))],(ye31 ws xs k w)⟩
def zwv_7_1_7 (ws xs : List Int) (k w : Int) : St := ⟨[(4,ye5),(7,ye6),(9,(ye28 ws k w)),(46,(ye28 ws k w)),(47,(ye42 ws k w))],(ye31 ws xs k w)⟩
def zwv_7_1_8 (ws xs : List Int) (k w : Int) : St := ⟨[(4,ye5),(7,ye6),(9,(ye28 ws k w)),(44,ye19),(45,(ye28 ws k w)),(46,(ye28 ws k w))],(ye31 ws xs k w)⟩
def zwv_7_1_9 (ws xs : List Int) (k w : Int) : St := ⟨[(4,ye5),(7,ye6),(9,(ye28 ws k w)),(44,ye19),(46,(ye28 ws k w)),(47,(ye42 ws k w))],(ye31 ws xs k w)⟩
def zwv_7_1_10 (ws xs : List Int) (k w : Int) : St := ⟨[(4,ye5),(7,ye6),(9,(ye28 ws k w)),(45,(ye28 ws k w)),(46,(ye28 ws k w)),(47,(ye42 ws k w))],(ye31 ws xs k w)⟩
def zwv_7_1_11 (ws xs : List Int) (k w : Int) : St := ⟨[(4,ye5),(7,ye6),(9,(ye28 ws k w)),(44,ye19),(45,(ye28 ws k w)),(46,(ye28 ws k w)),(47,(ye42 ws k w))],(ye31 ws xs k w)⟩
def zwv_7_1_12 (ws xs : List Int) (k w : Int) : St := ⟨[(4,ye5),(7,ye6),(9,(ye28 ws k w)),(44,ye19),(46,(ye28 ws k w)),(47,(ye42 ws k w))],[(ye1 ws xs k w),ye11,ye11]⟩
def zwv_7_1_13 (ws xs : List Int) (k w : Int) : St := ⟨[(4,ye5),(7,ye6),(9,(ye28 ws k w)),(44,ye19),(45,(ye28 ws k w)),(46,(ye28 ws k w)),(47,(ye42 ws k w))],[(ye1 ws xs k w),ye11,ye11]⟩
def zwv_7_1_14 (ws xs : List Int) (k w : Int) : St := ⟨[(4,ye5),(5,(ye28 ws k w)),(7,ye6),(9,(ye28 ws k w)),(44,ye19),(45,(ye28 ws k w)),(46,(ye28 ws k w)),(47,(ye42 ws k w))],[(ye1 ws xs k w),ye11,ye11]⟩
def zwv_7_1_15 (ws xs : List Int) (k w : Int) : St := ⟨[(4,ye5),(5,(ye28 ws k w)),(6,(dB false))],[(ye1 ws xs k w),ye11,ye11]⟩
set_option maxRecDepth 100000 in
theorem width_wv_7 (ws xs : List Int) (k w : Int) (hw : ws.length ≤ 9223372036854775807) (h : okB 7 ws = true) (h3 : fitsF (wvF 7 ws k w) = false) : CallOk Try.prog 27 [(i6 7),(ye20 ws xs k w)] [] true (.tup [ye19,(ye28 ws k w),(dB false)]) [] := by
  refine CallOk.of_ev Try.func27 rfl rfl rfl ?_
  rintro ⟨_,W,S0,_,susp,_⟩ rfl rfl rfl
  obtain ⟨h1,h2⟩ := okB_yes h
  have hA : arityF 7 = 2 := by decide
  rw [hA] at h1
  refine Ev.seq ?_
  refine Ev.reg [] [0,3,4] (st' := ⟨[(0,(i6 7)),(3,ye12),(4,ye5)],(ye45 ws xs k w)⟩)
    (p := T4 True) (by kernel_rfl)
    ⟨oK,oK,oK,oK,oK⟩ ?_
  refine Ev.seq ?_
  refine Ev.reg [(0,.call none false (.v (.mp simpleM))),(2,.idx (some 5))] [0,3,4,7,8] (st' := ⟨[(0,(i6 7)),(3,ye12),(4,ye5),(7,ye6),(8,(dB true))],(ye31 ws xs k w)⟩)
    (p := callOb Try.prog 33 (ye45 ws xs k w) [] none false (.v (.mp simpleM))∧True∧((7 : Int) = 7∧∀ e' ∈ simpleM.take 5,(7 : Int) ≠ e'.1)∧True∧True∧True∧True∧True∧True∧True) (by kernel_rfl)
    ⟨simple_ok,oK,(by decide),oK,oK,oK,oK,oK,oK,oK⟩ ?_
  refine Ev.seq ?_
  refine Ev.seq ?_
  refine Ev.reg [] [0,3,4,7,8,17] (st' := ⟨ye52,(ye31 ws xs k w)⟩)
    (p := T2 True) (by kernel_rfl)
    ⟨oK,oK,oK⟩ ?_
  refine Ev.cond false rfl (fun h => (by cases h)) (fun _ => ?_)
  refine Ev.skip ?_
  refine Ev.seq ?_
  refine Ev.seq ?_
  refine Ev.reg [(8,.val (dB false)),(13,.call none false (ye21 ws)),(14,.val (dB false))] [3,4,7,38] (st' := ⟨[(3,ye12),(4,ye5),(7,ye6),(38,(dB false))],(ye31 ws xs k w)⟩)
    (p := T8 ((True∧(((ws.length : Nat) : Int) != 2) = false)∧T4 (callOb Try.prog 35 (ye31 ws xs k w) (ye29 ws) none false (ye21 ws)∧(True∧(!(ws.all fitsF)) = false)∧True))) (by kernel_rfl)
    ⟨oK,oK,oK,oK,oK,oK,oK,oK,⟨oK,(by rw [h1]; rfl)⟩,oK,oK,oK,oK,(contains_ok _ (by first | omega | (simp; first | done | omega))),⟨oK,(by rw [h2]; rfl)⟩,oK⟩ ?_
  refine Ev.cond false rfl (fun h => (by cases h)) (fun _ => ?_)
  refine Ev.skip ?_
  refine Ev.seq ?_
  refine Ev.reg [(3,.call none false (ye53 ws)),(4,.val (ye28 ws k w))] [4,7,9] (st' := ⟨[(4,ye5),(7,ye6),(9,(ye28 ws k w))],(ye31 ws xs k w)⟩)
    (p := T3 (callOb Try.prog 43 (ye31 ws xs k w) [(ye20 ws xs k w)] none false (ye53 ws)∧(True∧(alikeF ws) = (wvF 7 ws k w))∧True)) (by kernel_rfl)
    ⟨oK,oK,oK,(alike_ok _ _ _ _ (by omega) (by assumption)),⟨oK,(by first | rfl | simp [wvF])⟩,oK⟩ ?_
  refine Ev.seq ?_
  refine Ev.any [(3,.call none false (ye42 ws k w)),(6,.val (dB false))] [((bm 7 0),(zwv_7_1_0 ws xs k w)),((bm 7 1),(zwv_7_1_1 ws xs k w)),((bm 7 2),(zwv_7_1_2 ws xs k w)),((bm 7 4),(zwv_7_1_3 ws xs k w)),((bm 7 3),(zwv_7_1_4 ws xs k w)),((bm 7 5),(zwv_7_1_5 ws xs k w)),((bm 7 6),(zwv_7_1_6 ws xs k w)),((bm 7 12),(zwv_7_1_7 ws xs k w)),((bm 7 7),(zwv_7_1_8 ws xs k w)),((bm 7 13),(zwv_7_1_9 ws xs k w)),((bm 7 14),(zwv_7_1_10 ws xs k w)),((bm 7 15),(zwv_7_1_11 ws xs k w)),((bm 7 29),(zwv_7_1_12 ws xs k w)),((bm 7 31),(zwv_7_1_13 ws xs k w)),((bm 7 63),(zwv_7_1_14 ws xs k w)),((bm 7 127),(zwv_7_1_15 ws xs k w))] (st0 := (zwv_7_1_0 ws xs k w)) (st' := ⟨[(4,ye5),(5,(ye28 ws k w)),(6,(dB false))],[(ye1 ws xs k w),ye11,ye11]⟩)
    (p := ((sE (zwv_7_1_1 ws xs k w) (True))∧(sE (zwv_7_1_2 ws xs k w) (True))∧(sE (zwv_7_1_3 ws xs k w) (True))∧True)∧((sE (zwv_7_1_4 ws xs k w) (True))∧(sE (zwv_7_1_5 ws xs k w) (True))∧True)∧((sE (zwv_7_1_4 ws xs k w) (True))∧(sE (zwv_7_1_6 ws xs k w) (True))∧True)∧((sE (zwv_7_1_5 ws xs k w) (True))∧(sE (zwv_7_1_6 ws xs k w) (True))∧(sE (zwv_7_1_7 ws xs k w) (callOb Try.prog 37 (ye31 ws xs k w) [(ye28 ws k w)] none false (ye42 ws k w)))∧True)∧((sE (zwv_7_1_8 ws xs k w) (True))∧True)∧((sE (zwv_7_1_8 ws xs k w) (True))∧(sE (zwv_7_1_9 ws xs k w) (callOb Try.prog 37 (ye31 ws xs k w) [(ye28 ws k w)] none false (ye42 ws k w)))∧True)∧((sE (zwv_7_1_8 ws xs k w) (True))∧(sE (zwv_7_1_10 ws xs k w) (callOb Try.prog 37 (ye31 ws xs k w) [(ye28 ws k w)] none false (ye42 ws k w)))∧True)∧((sE (zwv_7_1_9 ws xs k w) (True))∧(sE (zwv_7_1_10 ws xs k w) (True))∧True)∧((sE (zwv_7_1_11 ws xs k w) (callOb Try.prog 37 (ye31 ws xs k w) [(ye28 ws k w)] none false (ye42 ws k w)))∧True)∧((sE (zwv_7_1_11 ws xs k w) (True))∧(sE (zwv_7_1_12 ws xs k w) (True))∧True)∧((sE (zwv_7_1_11 ws xs k w) (True))∧True)∧((sE (zwv_7_1_13 ws xs k w) (True))∧True)∧((sE (zwv_7_1_13 ws xs k w) (True))∧True)∧((sE (zwv_7_1_14 ws xs k w) (True))∧True)∧((sE (zwv_7_1_15 ws xs k w) ((True∧(fitsF (wvF 7 ws k w)) = false)))∧True)∧True∧True) (by kernel_rfl) (by kernel_rfl) (by kernel_rfl) (by kernel_rfl) (by kernel_rfl) (by kernel_rfl)
    ⟨⟨⟨rfl,oK,oK⟩,⟨rfl,oK,oK⟩,⟨rfl,oK,oK⟩,oK⟩,⟨⟨rfl,oK,oK⟩,⟨rfl,oK,oK⟩,oK⟩,⟨⟨rfl,oK,oK⟩,⟨rfl,oK,oK⟩,oK⟩,⟨⟨rfl,oK,oK⟩,⟨rfl,oK,oK⟩,⟨rfl,(fits_ok _),oK⟩,oK⟩,⟨⟨rfl,oK,oK⟩,oK⟩,⟨⟨rfl,oK,oK⟩,⟨rfl,(fits_ok _),oK⟩,oK⟩,⟨⟨rfl,oK,oK⟩,⟨rfl,(fits_ok _),oK⟩,oK⟩,⟨⟨rfl,oK,oK⟩,⟨rfl,oK,oK⟩,oK⟩,⟨⟨rfl,(fits_ok _),oK⟩,oK⟩,⟨⟨rfl,oK,oK⟩,⟨rfl,oK,oK⟩,oK⟩,⟨⟨rfl,oK,oK⟩,oK⟩,⟨⟨rfl,oK,oK⟩,oK⟩,⟨⟨rfl,oK,oK⟩,oK⟩,⟨⟨rfl,oK,oK⟩,oK⟩,⟨⟨rfl,⟨oK,(by first | exact h3 | simpa [wvF] using h3)⟩,oK⟩,oK⟩,oK,oK⟩ ?_
  refine Ev.ret ?_
  refine ⟨⟨oK,oK,oK,oK⟩,(?_ : ((2 : Int) = 2∧(ye2 : D) = ye2∧((.fn (.func 48) [] []) : D) = (.fn (.func 48) [] [])∧True)∧(wvF 7 ws k w) = (wvF 7 ws k w)∧false = false∧True),.inl rfl⟩
  exact ⟨⟨rfl,rfl,rfl,oK⟩,rfl,rfl,oK⟩

end Go.Proofs.Ytaghhicmnalmmaa
