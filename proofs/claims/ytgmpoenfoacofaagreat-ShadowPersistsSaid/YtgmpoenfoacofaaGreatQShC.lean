/-
  Package shadow: outputs, feeding, runs.
-/
import Derived.Test.YtgmpoenfoacofaaGreatQShB
namespace Go.Proofs.YtgmpoenfoacofaaGreat
open Go.RowKit
set_option linter.unusedVariables false
set_option linter.unusedSimpArgs false
abbrev Dv (c : Ci) (s : Ns) (z : Sm) (d : Ci) (t : Ns) : aC := (.var 134 [(dL 2 aY ba (((aF c s (aQ c.chans z.name) z.words).1).procs)),(dL 1 ac [] (((aF c s (aQ c.chans z.name) z.words).1).chans)),(dL 2 aY ba (((aF d t (aQ d.chans z.name) z.words).1).procs)),(dL 1 ac [] (((aF d t (aQ d.chans z.name) z.words).1).chans))])
abbrev lC (c : Ci) (s : Ns) (z : Sm) : List D := [(dL 2 aY ba (((aF c s (aQ c.chans z.name) z.words).1).procs)),(dL 1 ac [] (((aF c s (aQ c.chans z.name) z.words).1).chans))]
abbrev qF (d : Ci) (t : Ns) (z : Sm) : List D := [(dL 2 aY ba (((aF d t (aQ d.chans z.name) z.words).1).procs)),(dL 1 ac [] (((aF d t (aQ d.chans z.name) z.words).1).chans))]
abbrev yN (c : Ci) : List D := [(dL 6 ep ax c.procs),(dL 5 ez aX c.chans)]
abbrev ke (c : Ci) : aC := (.var 38 (yN c))
abbrev lD (d : Ci) : aC := (.var 38 [(dL 6 ep ax d.procs),(dL 5 ez aX d.chans)])
abbrev sO (s : Ns) : List D := [(dL 2 aY ba s.procs),(dL 1 ac [] s.chans)]
abbrev r8 (t : Ns) : List D := [(dL 2 aY ba t.procs),(dL 1 ac [] t.chans)]
abbrev Dw (c d : Ci) : aC := (.var 133 [(dL 6 ep ax c.procs),(dL 5 ez aX c.chans),(dL 6 ep ax d.procs),(dL 5 ez aX d.chans)])
abbrev yO (c : Ci) (z : Sm) (d : Ci) : aC := (.var 135 [(i6 (aQ c.chans z.name)),(i6 (aQ d.chans z.name))])
abbrev qG (c d : Ci) (s t : Ns) (z : Sm) : List aC := [(ke c),(lD d),(.var 42 (sO s)),(.var 42 (r8 t)),.dead,(.var 42 [.nils,.nils]),(.var 42 [.nils,.nils]),.dead,.dead,.dead,.dead,.dead,.dead,(Dw c d),(Dv c s z d t),.dead,(yO c z d),(ke c),(lD d),(ke c),.dead,.dead,.dead,.dead,.dead,.dead,.dead,.dead,.dead,.dead,.dead,.dead,.dead,(.var 42 (lC c s z)),.dead,.dead,(lD d),.dead,.dead,.dead,.dead,.dead,.dead,.dead,.dead,.dead,.dead,.dead,.dead,.dead,(.var 42 (qF d t z)),.dead,.dead]
abbrev Hc (c d : Ci) (s t : Ns) (z : Sm) : List aC := [(ke c),(lD d),(.var 42 (sO s)),(.var 42 (r8 t)),.dead,(.var 42 (lC c s z)),(.var 42 [.nils,.nils]),.dead,.dead,.dead,.dead,.dead,.dead,(Dw c d),(Dv c s z d t),.dead,(yO c z d),(ke c),(lD d),(ke c),.dead,.dead,.dead,.dead,.dead,.dead,.dead,.dead,.dead,.dead,.dead,.dead,.dead,(.var 42 (lC c s z)),.dead,.dead,(lD d),.dead,.dead,.dead,.dead,.dead,.dead,.dead,.dead,.dead,.dead,.dead,.dead,.dead,(.var 42 (qF d t z)),.dead,.dead]
abbrev dF : D := (.ptr 14 0 0 0)
abbrev He (c : Ci) (s : Ns) (z : Sm) (d : Ci) (t : Ns) : List (Nat × D) := [(10,(.ptr 5 0 0 0)),(11,(.ptr 6 0 0 0)),(14,dF),(76,dF),(77,(.agg (lC c s z))),(78,(.ptr 14 0 0 2)),(79,(.agg (qF d t z)))]
set_option maxRecDepth 100000
abbrev LU (l : List Int) : Ct := ⟨33,[(LI l)],true,(LI l)⟩
theorem BR (l : List Int) (h : l ≠ []) (hl : l.length ≤ 137438953472) : CC (LU l) := by
 refine af.vc (V := TT 2 (l ≠ []∧an [] (([] : List Int).map (ae .i64))∧TT 1 ((([] : List Int).length + (l.map (ae .i64)).length ≤ 137438953472∧([] : List Int).map (ae .i64) ++ l.map (ae .i64) = l.map (ae .i64))∧TT 2 (l.map (ae .i64) = l.map (ae .i64))))) (.w 3 [(0,.box 3 1 (ae .i64) 0 ([] : List Int)),(2,.box 3 1 (ae .i64) 0 l)] <| .e) Tryz.func33 rfl rfl rfl (by kernel_rfl) ?_
 exact tt ⟨(by exact h),⟨oK,tt ⟨⟨by simp only [List.length_map,List.length_nil]; omega,by simp⟩,tt rfl⟩⟩⟩
abbrev LV : Ct := ⟨33,[.nils],true,(LI ([] : List Int))⟩
theorem BS  : CC LV := by
 refine af.vc (V := TT 5 (([] : List Int) = [])) (.e) Tryz.func33 rfl rfl rfl (by kernel_rfl) ?_
 refine tt ?_
 rfl
abbrev LW : Ct := ⟨33,[(.v .esl)],true,(LI ([] : List Int))⟩
theorem BT  : CC LW := by
 refine af.vc (V := TT 3 (an [] (([] : List Int).map (ae .i64))∧TT 1 ((([] : List Int).length + (([] : List (List V))).length ≤ 137438953472∧([] : List Int).map (ae .i64) ++ ([] : List (List V)) = ([] : List Int).map (ae .i64))∧TT 2 (([] : List Int).map (ae .i64) = ([] : List Int).map (ae .i64))))) (.w 3 [(0,.box 3 1 (ae .i64) 0 ([] : List Int)),(2,.box 3 1 (ae .i64) 0 ([] : List Int))] <| .e) Tryz.func33 rfl rfl rfl (by kernel_rfl) ?_
 exact tt ⟨oK,tt ⟨⟨by simp,by simp⟩,tt rfl⟩⟩
abbrev Ky (l : List Int) : Ct := ⟨33,[(LI l)],true,(LI l)⟩
theorem E3 (l : List Int) (hl : l.length ≤ 137438953472) : CC (Ky l) :=
  af.nilcases (fun h => BR l h hl) (fun h => by subst h; exact BS) (fun h => by subst h; exact BT)
abbrev An (c : Ci) (s : Ns) : Ct := ⟨11,[(.agg (yN c)),(.agg (sO s))],true,(dL 2 ey aG (aj c s))⟩
abbrev gD (c : Ci) (s : Ns) : Lp (Nat × List Sm) := we [3,5,9,10,11] 3 (fun (i : Nat) (o : List Sm) => ⟨[(3,(.ptr 1 0 0 0)),(5,(.own 2)),(9,(dL 5 ez aX c.chans)),(10,(i6 (c.chans.length : Int))),(11,(i6 (i : Int)))],[(ke c),(.var 42 (sO s)),(.arr 30 2 ey aG o)]⟩) (fun (i : Nat) (o : List Sm) => i ≤ c.chans.length∧o = qz c s i) (fun (i : Nat) (o : List Sm) => c.chans.length - i)
theorem dy (c : Ci) (s : Ns) (hc : bo c) (hs : bG c s) (hsm : ga s 4294967296) : CC (An c s) := by
 have hnl := hc.nl
 have hcl := hc.cl
 have hl2 := hs.cl
 refine af.vc (V := TT 8 (GO (gD c s) (0,([] : List Sm)) (∀ i o,(gD c s).inv (i,o) → TT 1 (CD ((i : Int) < (c.chans.length : Int)) (TT 1 (IX (i : Int) c.chans.length∧TT 7 (CD (((c.chans.getD i aX).dst) = (-1)) (TT 6 (IX (i : Int) s.chans.length∧TT 1 (CC (Ky (s.chans.getD i []))∧TT 1 (an [[(dS ((c.chans.getD i aX).name)),(LI (s.chans.getD i []))]] ([(⟨(c.chans.getD i aX).name,(s.chans.getD i [])⟩ : Sm)].map ey)∧(o.length + ([(⟨(c.chans.getD i aX).name,(s.chans.getD i [])⟩ : Sm)].map ey).length ≤ 137438953472∧o.map ey ++ [(⟨(c.chans.getD i aX).name,(s.chans.getD i [])⟩ : Sm)].map ey = (o ++ [(⟨(c.chans.getD i aX).name,(s.chans.getD i [])⟩ : Sm)]).map ey)∧TT 1 (W6 ((i + 1 : Nat) : Int)∧TT 1 (AG (gD c s) (i,o) (i + 1,o ++ [(⟨(c.chans.getD i aX).name,(s.chans.getD i [])⟩ : Sm)]))))))) (W6 ((i + 1 : Nat) : Int)∧TT 1 (AG (gD c s) (i,o) (i + 1,o)))))) (TT 3 (o.map ey = (aj c s).map ey)))))) (.gs 2 5 30 2 ey aG <| .l (gD c s) (0,([] : List Sm)) (fun ⟨i,o⟩ => .b 12 (.b 18 (.w 6 [(8,(Ky (s.chans.getD i [])).O),(10,.box 30 2 ey aG [(⟨(c.chans.getD i aX).name,(s.chans.getD i [])⟩ : Sm)]),(11,.box 30 2 ey aG (o ++ [(⟨(c.chans.getD i aX).name,(s.chans.getD i [])⟩ : Sm)]))] <| .w 7 [(0,.val (i6 ((i + 1 : Nat) : Int)))] <| .e) (.w 7 [(0,.val (i6 ((i + 1 : Nat) : Int)))] <| .e)) (.e))) Tryz.func11 rfl rfl rfl (by kernel_rfl) ?_
 refine tt ⟨rfl,⟨by omega,rfl⟩,?_⟩
 intro i o hinv
 obtain ⟨hi,ho⟩ := hinv
 refine tt (cd (fun hc12 => ?_) (fun hc12 => ?_))
 · refine tt ⟨ix,tt (cd (fun hc18 => ?_) (fun hc18 => ?_))⟩
   · have hwl : (s.chans.getD i []).length ≤ 4294967296 := hsm i
     refine tt ⟨ix,tt ⟨(E3 (s.chans.getD i []) (by omega)),tt ⟨⟨⟨rfl,rfl,oK⟩,oK⟩,⟨⟨by simp only [List.length_map,List.length_cons,List.length_nil]; have := qA (c := c) (s := s) i; rw [ho]; omega,by simp only [List.map_append,List.map_nil,List.append_nil]⟩,tt ⟨w6,tt ⟨(i + 1,o ++ [(⟨(c.chans.getD i aX).name,(s.chans.getD i [])⟩ : Sm)]),rfl,?_,(?_ : c.chans.length - (i + 1) < c.chans.length - i)⟩⟩⟩⟩⟩⟩
     · exact ⟨by omega,by rw [ho]; first | exact (tC hc18).symm | exact (yL hc18).symm⟩
     · omega
   · refine ⟨w6,tt ⟨(i + 1,o),rfl,?_,(?_ : c.chans.length - (i + 1) < c.chans.length - i)⟩⟩
     · exact ⟨by omega,by rw [ho]; first | exact (tC hc18).symm | exact (yL hc18).symm⟩
     · omega
 · refine tt (congrArg _ (?_ : o = (aj c s)))
   rw [ho,show i = c.chans.length by omega]; rfl
abbrev Nn (c d : Ci) (s t : Ns) (z : Sm) : Ct := ⟨35,[(.agg (yN c)),(.agg [(dL 6 ep ax d.procs),(dL 5 ez aX d.chans)]),(.agg (sO s)),(.agg (r8 t)),(.agg [(dS z.name),(LI z.words)])],true,(.tup [(.agg [(dL 2 aY ba (((ai c d s t z.name z.words).1).procs)),(dL 1 ac [] (((ai c d s t z.name z.words).1).chans))]),(.agg [(dL 2 aY ba (((ai c d s t z.name z.words).2.1).procs)),(dL 1 ac [] (((ai c d s t z.name z.words).2.1).chans))]),(i6 ((ai c d s t z.name z.words).2.2))])⟩
def pj (c : Ci) (d : Ci) (s : Ns) (t : Ns) (z : Sm) : St := ⟨[(10,(.ptr 5 0 0 0)),(11,(.ptr 6 0 0 0)),(14,dF)],(qG c d s t z)⟩
def vt (c : Ci) (d : Ci) (s : Ns) (t : Ns) (z : Sm) : St := ⟨[(10,(.ptr 5 0 0 0)),(11,(.ptr 6 0 0 0)),(14,dF),(76,dF)],(qG c d s t z)⟩
def vu (c : Ci) (d : Ci) (s : Ns) (t : Ns) (z : Sm) : St := ⟨[(10,(.ptr 5 0 0 0)),(11,(.ptr 6 0 0 0)),(14,dF),(78,(.ptr 14 0 0 2))],(qG c d s t z)⟩
def vx (c : Ci) (d : Ci) (s : Ns) (t : Ns) (z : Sm) : St := ⟨[(10,(.ptr 5 0 0 0)),(11,(.ptr 6 0 0 0)),(14,dF),(76,dF),(77,(.agg (lC c s z)))],(qG c d s t z)⟩
def pk (c : Ci) (d : Ci) (s : Ns) (t : Ns) (z : Sm) : St := ⟨[(10,(.ptr 5 0 0 0)),(11,(.ptr 6 0 0 0)),(14,dF),(76,dF),(78,(.ptr 14 0 0 2))],(qG c d s t z)⟩
def vy (c : Ci) (d : Ci) (s : Ns) (t : Ns) (z : Sm) : St := ⟨[(10,(.ptr 5 0 0 0)),(11,(.ptr 6 0 0 0)),(14,dF),(78,(.ptr 14 0 0 2)),(79,(.agg (qF d t z)))],(qG c d s t z)⟩
def pm (c : Ci) (d : Ci) (s : Ns) (t : Ns) (z : Sm) : St := ⟨[(10,(.ptr 5 0 0 0)),(11,(.ptr 6 0 0 0)),(14,dF),(76,dF),(77,(.agg (lC c s z))),(78,(.ptr 14 0 0 2))],(qG c d s t z)⟩
def vz (c : Ci) (d : Ci) (s : Ns) (t : Ns) (z : Sm) : St := ⟨[(10,(.ptr 5 0 0 0)),(11,(.ptr 6 0 0 0)),(14,dF),(76,dF),(77,(.agg (lC c s z)))],(Hc c d s t z)⟩
def pn (c : Ci) (d : Ci) (s : Ns) (t : Ns) (z : Sm) : St := ⟨[(10,(.ptr 5 0 0 0)),(11,(.ptr 6 0 0 0)),(14,dF),(76,dF),(78,(.ptr 14 0 0 2)),(79,(.agg (qF d t z)))],(qG c d s t z)⟩
def po (c : Ci) (d : Ci) (s : Ns) (t : Ns) (z : Sm) : St := ⟨(He c s z d t),(qG c d s t z)⟩
def mm (c : Ci) (d : Ci) (s : Ns) (t : Ns) (z : Sm) : St := ⟨[(10,(.ptr 5 0 0 0)),(11,(.ptr 6 0 0 0)),(14,dF),(76,dF),(77,(.agg (lC c s z))),(78,(.ptr 14 0 0 2))],(Hc c d s t z)⟩
def mq (c : Ci) (d : Ci) (s : Ns) (t : Ns) (z : Sm) : St := ⟨(He c s z d t),(Hc c d s t z)⟩
def sP (c : Ci) (d : Ci) (s : Ns) (t : Ns) (z : Sm) : St := ⟨(He c s z d t),[(ke c),(lD d),(.var 42 (sO s)),(.var 42 (r8 t)),.dead,(.var 42 (lC c s z)),(.var 42 (qF d t z)),.dead,.dead,.dead,.dead,.dead,.dead,(Dw c d),(Dv c s z d t),.dead,(yO c z d),(ke c),(lD d),(ke c),.dead,.dead,.dead,.dead,.dead,.dead,.dead,.dead,.dead,.dead,.dead,.dead,.dead,(.var 42 (lC c s z)),.dead,.dead,(lD d),.dead,.dead,.dead,.dead,.dead,.dead,.dead,.dead,.dead,.dead,.dead,.dead,.dead,(.var 42 (qF d t z)),.dead,.dead]⟩
def sQ (c : Ci) (d : Ci) (s : Ns) (t : Ns) (z : Sm) : St := ⟨[(10,(.ptr 5 0 0 0)),(11,(.ptr 6 0 0 0)),(12,(i6 0))],[(ke c),(lD d),(.var 42 (sO s)),(.var 42 (r8 t)),.dead,(.var 42 (lC c s z)),(.var 42 (qF d t z)),.dead,.dead,.dead,.dead,.dead,.dead,(Dw c d),(Dv c s z d t),.dead,(yO c z d),(ke c),(lD d),(ke c),.dead,.dead,.dead,.dead,.dead,.dead,.dead,.dead,.dead,.dead,.dead,.dead,.dead,(.var 42 (lC c s z)),.dead,.dead,(lD d),.dead,.dead,.dead,.dead,.dead,.dead,.dead,.dead,.dead,.dead,.dead,.dead,.dead,(.var 42 (qF d t z)),.dead,.dead]⟩
theorem Hf (c d : Ci) (s t : Ns) (z : Sm) (hc : bo c) (hd : bo d) (hs : bG c s) (ht : bG d t) (hsm : ga s 4294967296) (htm : ga t 4294967296) (hw : z.words.length ≤ 4294967296) : CC (Nn c d s t z) := by
 have hnl := hc.nl
 have hcl := hc.cl
 have hl2 := hs.cl
 have hdl := hd.cl
 have hl3 := ht.cl
 refine af.vc (V := TT 23 (((0 ≤ (0 : Int)∧0 < (2 : Int))∧True)∧TT 7 (CC (Ha c.chans z)∧TT 3 (((0 ≤ (0 : Int)∧0 < (2 : Int))∧True)∧TT 2 (((0 ≤ (0 : Int)∧0 < (2 : Int))∧True)∧TT 2 (CD ((aQ c.chans z.name) < 0) (TT 8 (((((ai c d s t z.name z.words).1).procs) = []∧(((ai c d s t z.name z.words).1).chans) = []∧True)∧((((ai c d s t z.name z.words).2.1).procs) = []∧(((ai c d s t z.name z.words).2.1).chans) = []∧True)∧(4 : Int) = ((ai c d s t z.name z.words).2.2)∧True)) (TT 4 (((0 ≤ (1 : Int)∧1 < (2 : Int))∧True)∧TT 7 (CC (Ha d.chans z)∧TT 3 (((0 ≤ (1 : Int)∧1 < (2 : Int))∧True)∧TT 2 (((0 ≤ (1 : Int)∧1 < (2 : Int))∧True)∧TT 2 (CD ((aQ d.chans z.name) < 0) (TT 8 (((((ai c d s t z.name z.words).1).procs) = []∧(((ai c d s t z.name z.words).1).chans) = []∧True)∧((((ai c d s t z.name z.words).2.1).procs) = []∧(((ai c d s t z.name z.words).2.1).chans) = []∧True)∧(4 : Int) = ((ai c d s t z.name z.words).2.2)∧True)) (TT 7 (((0 ≤ (0 : Int)∧0 < (2 : Int))∧True)∧TT 5 (((0 ≤ (0 : Int)∧0 < (2 : Int))∧True)∧TT 2 (((0 ≤ (0 : Int)∧0 < (2 : Int))∧True)∧TT 3 (CC (LQ c s (aQ c.chans z.name) z.words)∧TT 8 (CN (((aF c s (aQ c.chans z.name) z.words).2) = 0) (TT 9 (((((ai c d s t z.name z.words).1).procs) = []∧(((ai c d s t z.name z.words).1).chans) = []∧True)∧((((ai c d s t z.name z.words).2.1).procs) = []∧(((ai c d s t z.name z.words).2.1).chans) = []∧True)∧((aF c s (aQ c.chans z.name) z.words).2) = ((ai c d s t z.name z.words).2.2)∧True)) (TT 2 (((0 ≤ (0 : Int)∧0 < (2 : Int))∧True)∧TT 5 (((0 ≤ (1 : Int)∧1 < (2 : Int))∧True)∧TT 5 (((0 ≤ (1 : Int)∧1 < (2 : Int))∧True)∧TT 2 (((0 ≤ (1 : Int)∧1 < (2 : Int))∧True)∧TT 3 (CC (LQ d t (aQ d.chans z.name) z.words)∧TT 8 (CN (((aF d t (aQ d.chans z.name) z.words).2) = 0) (TT 9 (((((ai c d s t z.name z.words).1).procs) = []∧(((ai c d s t z.name z.words).1).chans) = []∧True)∧((((ai c d s t z.name z.words).2.1).procs) = []∧(((ai c d s t z.name z.words).2.1).chans) = []∧True)∧((aF d t (aQ d.chans z.name) z.words).2) = ((ai c d s t z.name z.words).2.2)∧True)) (TT 2 (((0 ≤ (1 : Int)∧1 < (2 : Int))∧True)∧TT 4 ((pj c d s t z) = (pj c d s t z)∧(((sE (vt c d s t z) ((0 ≤ (0 : Int)∧0 < (2 : Int))∧True))∧(sE (vu c d s t z) ((0 ≤ (1 : Int)∧1 < (2 : Int))∧True))∧True)∧((sE (vx c d s t z) (True))∧(sE (pk c d s t z) ((0 ≤ (1 : Int)∧1 < (2 : Int))∧True))∧True)∧((sE (pk c d s t z) ((0 ≤ (0 : Int)∧0 < (2 : Int))∧True))∧(sE (vy c d s t z) (True))∧True)∧((sE (pm c d s t z) ((0 ≤ (1 : Int)∧1 < (2 : Int))∧True))∧(sE (vz c d s t z) (True))∧True)∧((sE (pm c d s t z) (True))∧(sE (pn c d s t z) (True))∧True)∧((sE (pn c d s t z) ((0 ≤ (0 : Int)∧0 < (2 : Int))∧True))∧True)∧((sE (po c d s t z) (True))∧(sE (mm c d s t z) (True))∧True)∧((sE (mm c d s t z) ((0 ≤ (1 : Int)∧1 < (2 : Int))∧True))∧True)∧((sE (po c d s t z) (True))∧True)∧((sE (mq c d s t z) (True))∧True)∧((sE (mq c d s t z) (True))∧True)∧((sE (sP c d s t z) (True))∧True)∧((sE (sQ c d s t z) (True))∧True)∧True∧True)∧TT 3 (((((aF c s (aQ c.chans z.name) z.words).1).procs).map aY = (((ai c d s t z.name z.words).1).procs).map aY∧(((aF c s (aQ c.chans z.name) z.words).1).chans).map ac = (((ai c d s t z.name z.words).1).chans).map ac∧True)∧((((aF d t (aQ d.chans z.name) z.words).1).procs).map aY = (((ai c d s t z.name z.words).2.1).procs).map aY∧(((aF d t (aQ d.chans z.name) z.words).1).chans).map ac = (((ai c d s t z.name z.words).2.1).chans).map ac∧True)∧(0 : Int) = ((ai c d s t z.name z.words).2.2)∧True))))))))))))))))))))))))))))) (.f 1 4 <| .w 1 [(8,.val .junk)] <| .r 3 (.w 6 [(4,(Ha c.chans z).O)] <| .b 45 (.e) (.w 6 [(4,(Ha d.chans z).O)] <| .b 45 (.e) (.r 3 (.w 13 [(9,(LQ c s (aQ c.chans z.name) z.words).O),(14,.val .junk)] <| .b 68 (.e) (.w 13 [(9,(LQ d t (aQ d.chans z.name) z.words).O),(14,.val .junk)] <| .b 68 (.e) (.y 18 [] [((bm 7 0),(pj c d s t z)),((bm 7 1),(vt c d s t z)),((bm 7 4),(vu c d s t z)),((bm 7 3),(vx c d s t z)),((bm 7 5),(pk c d s t z)),((bm 7 12),(vy c d s t z)),((bm 7 7),(pm c d s t z)),((bm 7 19),(vz c d s t z)),((bm 7 13),(pn c d s t z)),((bm 7 15),(po c d s t z)),((bm 7 23),(mm c d s t z)),((bm 7 31),(mq c d s t z)),((bm 7 63),(sP c d s t z)),((bm 7 127),(sQ c d s t z))] <| .e))))))) Tryz.func35 rfl rfl rfl (by kernel_rfl) ?_
 refine tt ⟨⟨by omega,oK⟩,tt ⟨(Dt c.chans z (by omega)),tt ⟨⟨by omega,oK⟩,tt ⟨⟨by omega,oK⟩,tt (cd (fun hc45 => ?_) (fun hc45 => ?_))⟩⟩⟩⟩
 · refine tt ⟨⟨?_,?_,oK⟩,⟨?_,?_,oK⟩,?_,oK⟩
   all_goals (all_goals (first | rfl | (rw [dP (by omega)]; done) | (rw [cM (by omega) (by omega) (by omega)]; done) | (rw [bx (by omega) (by omega)]; done) | (rw [bx (by omega) (by omega)]; exact jH.resolve_left (by omega))))
 · refine tt ⟨⟨by omega,oK⟩,tt ⟨(Dt d.chans z (by omega)),tt ⟨⟨by omega,oK⟩,tt ⟨⟨by omega,oK⟩,tt (cd (fun hc45 => ?_) (fun hc45 => ?_))⟩⟩⟩⟩
   · refine tt ⟨⟨?_,?_,oK⟩,⟨?_,?_,oK⟩,?_,oK⟩
     all_goals (all_goals (first | rfl | (rw [dP (by omega)]; done) | (rw [cM (by omega) (by omega) (by omega)]; done) | (rw [bx (by omega) (by omega)]; done) | (rw [bx (by omega) (by omega)]; exact jH.resolve_left (by omega))))
   · refine tt ⟨⟨by omega,oK⟩,tt ⟨⟨by omega,oK⟩,tt ⟨⟨by omega,oK⟩,tt ⟨(Aj c s (aQ c.chans z.name) z.words hc hs hsm hw),tt (cn (fun hc68 => ?_) (fun hc68 => ?_))⟩⟩⟩⟩
     · refine tt ⟨⟨?_,?_,oK⟩,⟨?_,?_,oK⟩,?_,oK⟩
       all_goals (all_goals (first | rfl | (rw [dP (by omega)]; done) | (rw [cM (by omega) (by omega) (by omega)]; done) | (rw [bx (by omega) (by omega)]; done) | (rw [bx (by omega) (by omega)]; exact jH.resolve_left (by omega))))
     · refine tt ⟨⟨by omega,oK⟩,tt ⟨⟨by omega,oK⟩,tt ⟨⟨by omega,oK⟩,tt ⟨⟨by omega,oK⟩,tt ⟨(Aj d t (aQ d.chans z.name) z.words hd ht htm hw),tt (cn (fun hc68 => ?_) (fun hc68 => ?_))⟩⟩⟩⟩⟩
       · refine tt ⟨⟨?_,?_,oK⟩,⟨?_,?_,oK⟩,?_,oK⟩
         all_goals (all_goals (first | rfl | (rw [dP (by omega)]; done) | (rw [cM (by omega) (by omega) (by omega)]; done) | (rw [bx (by omega) (by omega)]; done) | (rw [bx (by omega) (by omega)]; exact jH.resolve_left (by omega))))
       · refine tt ⟨⟨by omega,oK⟩,tt ⟨rfl,⟨⟨⟨⟨rfl,⟨by omega,oK⟩,oK⟩,⟨rfl,⟨by omega,oK⟩,oK⟩,oK⟩,⟨⟨rfl,oK,oK⟩,⟨rfl,⟨by omega,oK⟩,oK⟩,oK⟩,⟨⟨rfl,⟨by omega,oK⟩,oK⟩,⟨rfl,oK,oK⟩,oK⟩,⟨⟨rfl,⟨by omega,oK⟩,oK⟩,⟨rfl,oK,oK⟩,oK⟩,⟨⟨rfl,oK,oK⟩,⟨rfl,oK,oK⟩,oK⟩,⟨⟨rfl,⟨by omega,oK⟩,oK⟩,oK⟩,⟨⟨rfl,oK,oK⟩,⟨rfl,oK,oK⟩,oK⟩,⟨⟨rfl,⟨by omega,oK⟩,oK⟩,oK⟩,⟨⟨rfl,oK,oK⟩,oK⟩,⟨⟨rfl,oK,oK⟩,oK⟩,⟨⟨rfl,oK,oK⟩,oK⟩,⟨⟨rfl,oK,oK⟩,oK⟩,⟨⟨rfl,oK,oK⟩,oK⟩,oK,oK⟩,tt ⟨⟨(congrArg _ (?_ : (((aF c s (aQ c.chans z.name) z.words).1).procs) = (((ai c d s t z.name z.words).1).procs))),(congrArg _ (?_ : (((aF c s (aQ c.chans z.name) z.words).1).chans) = (((ai c d s t z.name z.words).1).chans))),oK⟩,⟨(congrArg _ (?_ : (((aF d t (aQ d.chans z.name) z.words).1).procs) = (((ai c d s t z.name z.words).2.1).procs))),(congrArg _ (?_ : (((aF d t (aQ d.chans z.name) z.words).1).chans) = (((ai c d s t z.name z.words).2.1).chans))),oK⟩,?_,oK⟩⟩⟩⟩
         all_goals (all_goals (first | rfl | (rw [dP (by omega)]; done) | (rw [cM (by omega) (by omega) (by omega)]; done) | (rw [bx (by omega) (by omega)]; done) | (rw [bx (by omega) (by omega)]; exact jH.resolve_left (by omega))))
abbrev No (c d : Ci) (s t : Ns) (l : List ByteArray) : Ct := ⟨38,[(.agg (yN c)),(.agg [(dL 6 ep ax d.procs),(dL 5 ez aX d.chans)]),(.agg (sO s)),(.agg (r8 t)),(dL 1 eE .empty l)],true,(.tup [(.agg [(dL 2 aY ba ((aB c s l).procs)),(dL 1 ac [] ((aB c s l).chans))]),(.agg [(dL 2 aY ba ((aB d t l).procs)),(dL 1 ac [] ((aB d t l).chans))])])⟩
theorem IM (c d : Ci) (s t : Ns) (l : List ByteArray) (hc : bo c) (hd : bo d) (hs : bG c s) (ht : bG d t) (hsm : ga s 1000000000) (htm : ga t 1000000000) (hl : l.length ≤ 1000000) : CC (No c d s t l) := by
 refine af.vc (V := TT 9 (CC (LP c s l)∧TT 3 (CC (LP d t l)∧TT 4 ((((aB c s l).procs).map aY = ((aB c s l).procs).map aY∧((aB c s l).chans).map ac = ((aB c s l).chans).map ac∧True)∧(((aB d t l).procs).map aY = ((aB d t l).procs).map aY∧((aB d t l).chans).map ac = ((aB d t l).chans).map ac∧True)∧True)))) (.w 1 [(3,(LP c s l).O),(7,(LP d t l).O)] <| .e) Tryz.func38 rfl rfl rfl (by kernel_rfl) ?_
 exact tt ⟨(Dn c s l hc hs hsm hl),tt ⟨(Dn d t l hd ht htm hl),tt ⟨⟨rfl,rfl,oK⟩,⟨rfl,rfl,oK⟩,oK⟩⟩⟩
end Go.Proofs.YtgmpoenfoacofaaGreat
