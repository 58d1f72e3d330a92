/-
  Package shadow: outputs, feeding, runs.
-/
import Derived.Test.YtgmpoenfoacofaaQShB
namespace Go.Proofs.Ytgmpoenfoacofaa
open Go.RowKit
set_option linter.unusedVariables false
set_option linter.unusedSimpArgs false
abbrev rO (c : Ci) (s : Ns) (z : Sm) (d : Ci) (t : Ns) : am := (.var 115 [(dL 2 b5 e8 (((aD c s (aK c.chans z.name) z.words).1).procs)),(dL 1 ax [] (((aD c s (aK c.chans z.name) z.words).1).chans)),(dL 2 b5 e8 (((aD d t (aK d.chans z.name) z.words).1).procs)),(dL 1 ax [] (((aD d t (aK d.chans z.name) z.words).1).chans))])
abbrev e9 (c : Ci) (s : Ns) (z : Sm) : List D := [(dL 2 b5 e8 (((aD c s (aK c.chans z.name) z.words).1).procs)),(dL 1 ax [] (((aD c s (aK c.chans z.name) z.words).1).chans))]
abbrev ir (d : Ci) (t : Ns) (z : Sm) : List D := [(dL 2 b5 e8 (((aD d t (aK d.chans z.name) z.words).1).procs)),(dL 1 ax [] (((aD d t (aK d.chans z.name) z.words).1).chans))]
abbrev ep (c : Ci) : am := (.var 42 [(dL 6 gb ew c.procs),(dL 5 dy bO c.chans)])
abbrev fa (d : Ci) : am := (.var 42 [(dL 6 gb ew d.procs),(dL 5 dy bO d.chans)])
abbrev lq (s : Ns) : List D := [(dL 2 b5 e8 s.procs),(dL 1 ax [] s.chans)]
abbrev lr (t : Ns) : List D := [(dL 2 b5 e8 t.procs),(dL 1 ax [] t.chans)]
abbrev rP (c d : Ci) : am := (.var 114 [(dL 6 gb ew c.procs),(dL 5 dy bO c.chans),(dL 6 gb ew d.procs),(dL 5 dy bO d.chans)])
abbrev nA (c : Ci) (z : Sm) (d : Ci) : am := (.var 116 [(i6 (aK c.chans z.name)),(i6 (aK d.chans z.name))])
abbrev it (c d : Ci) (s t : Ns) (z : Sm) : List am := [(ep c),(fa d),(.var 46 (lq s)),(.var 46 (lr t)),.dead,(.var 46 [.nils,.nils]),(.var 46 [.nils,.nils]),.dead,.dead,.dead,.dead,.dead,.dead,(rP c d),(rO c s z d t),.dead,(nA c z d),(ep c),(fa d),(ep c),.dead,.dead,.dead,.dead,.dead,.dead,.dead,.dead,.dead,.dead,.dead,.dead,.dead,(.var 46 (e9 c s z)),.dead,.dead,(fa d),.dead,.dead,.dead,.dead,.dead,.dead,.dead,.dead,.dead,.dead,.dead,.dead,.dead,(.var 46 (ir d t z)),.dead,.dead]
abbrev uB (c d : Ci) (s t : Ns) (z : Sm) : List am := [(ep c),(fa d),(.var 46 (lq s)),(.var 46 (lr t)),.dead,(.var 46 (e9 c s z)),(.var 46 [.nils,.nils]),.dead,.dead,.dead,.dead,.dead,.dead,(rP c d),(rO c s z d t),.dead,(nA c z d),(ep c),(fa d),(ep c),.dead,.dead,.dead,.dead,.dead,.dead,.dead,.dead,.dead,.dead,.dead,.dead,.dead,(.var 46 (e9 c s z)),.dead,.dead,(fa d),.dead,.dead,.dead,.dead,.dead,.dead,.dead,.dead,.dead,.dead,.dead,.dead,.dead,(.var 46 (ir d t z)),.dead,.dead]
abbrev bv : D := (.ptr 14 0 0 0)
abbrev uC (c : Ci) (s : Ns) (z : Sm) (d : Ci) (t : Ns) : List (Nat × D) := [(10,(.ptr 5 0 0 0)),(11,(.ptr 6 0 0 0)),(14,bv),(76,bv),(77,(.agg (e9 c s z))),(78,(.ptr 14 0 0 2)),(79,(.agg (ir d t z)))]
set_option maxRecDepth 100000
abbrev x6 (l : List Int) : Ct := ⟨36,[(LI l)],true,(LI l)⟩
theorem qL (l : List Int) (h : l ≠ []) (hl : l.length ≤ 137438953472) : CC (x6 l) := by
 refine ai.vc (V := TT 2 (l ≠ []∧ak [] (([] : List Int).map (af .i64))∧TT 1 ((([] : List Int).length + (l.map (af .i64)).length ≤ 137438953472∧([] : List Int).map (af .i64) ++ l.map (af .i64) = l.map (af .i64))∧TT 2 (l.map (af .i64) = l.map (af .i64))))) (.w 3 [(0,.box 3 1 (af .i64) 0 ([] : List Int)),(2,.box 3 1 (af .i64) 0 l)] <| .e) Try.func36 rfl rfl rfl (by kernel_rfl) ?_
 exact tt ⟨(by exact h),⟨oK,tt ⟨⟨by simp only [List.length_map,List.length_nil]; omega,by simp⟩,tt rfl⟩⟩⟩
abbrev x7 : Ct := ⟨36,[.nils],true,(LI ([] : List Int))⟩
theorem qM  : CC x7 := by
 refine ai.vc (V := TT 5 (([] : List Int) = [])) (.e) Try.func36 rfl rfl rfl (by kernel_rfl) ?_
 refine tt ?_
 rfl
abbrev x8 : Ct := ⟨36,[(.v .esl)],true,(LI ([] : List Int))⟩
theorem qN  : CC x8 := by
 refine ai.vc (V := TT 3 (ak [] (([] : List Int).map (af .i64))∧TT 1 ((([] : List Int).length + (([] : List (List V))).length ≤ 137438953472∧([] : List Int).map (af .i64) ++ ([] : List (List V)) = ([] : List Int).map (af .i64))∧TT 2 (([] : List Int).map (af .i64) = ([] : List Int).map (af .i64))))) (.w 3 [(0,.box 3 1 (af .i64) 0 ([] : List Int)),(2,.box 3 1 (af .i64) 0 ([] : List Int))] <| .e) Try.func36 rfl rfl rfl (by kernel_rfl) ?_
 exact tt ⟨oK,tt ⟨⟨by simp,by simp⟩,tt rfl⟩⟩
abbrev wZ (l : List Int) : Ct := ⟨36,[(LI l)],true,(LI l)⟩
theorem sR (l : List Int) (hl : l.length ≤ 137438953472) : CC (wZ l) :=
  ai.nilcases (fun h => qL l h hl) (fun h => by subst h; exact qM) (fun h => by subst h; exact qN)
abbrev y7 (c : Ci) (s : Ns) : Ct := ⟨20,[(.agg [(dL 6 gb ew c.procs),(dL 5 dy bO c.chans)]),(.agg (lq s))],true,(dL 2 b6 aB (vD c s))⟩
abbrev cK (c : Ci) (s : Ns) : Lp (Nat × List Sm) := xf [3,5,9,10,11] 3 (fun (i : Nat) (o : List Sm) => ⟨[(3,(.ptr 1 0 0 0)),(5,(.own 2)),(9,(dL 5 dy bO c.chans)),(10,(i6 (c.chans.length : Int))),(11,(i6 (i : Int)))],[(ep c),(.var 46 (lq s)),(.arr 57 2 b6 aB o)]⟩) (fun (i : Nat) (o : List Sm) => i ≤ c.chans.length∧o = lj c s i) (fun (i : Nat) (o : List Sm) => c.chans.length - i)
theorem px (c : Ci) (s : Ns) (hc : kV c) (hs : pj c s) (hsm : wR s 4294967296) : CC (y7 c s) := by
 have hnl := hc.nl
 have hcl := hc.cl
 have hl2 := hs.cl
 refine ai.vc (V := TT 8 (GO (cK c s) (0,([] : List Sm)) (∀ i o,(cK c s).inv (i,o) → TT 1 (CD ((i : Int) < (c.chans.length : Int)) (TT 1 (IX (i : Int) c.chans.length∧TT 7 (CD (((c.chans.getD i bO).dst) = (-1)) (TT 6 (IX (i : Int) s.chans.length∧TT 1 (CC (wZ (s.chans.getD i []))∧TT 1 (ak [[(dS ((c.chans.getD i bO).name)),(LI (s.chans.getD i []))]] ([(⟨(c.chans.getD i bO).name,(s.chans.getD i [])⟩ : Sm)].map b6)∧(o.length + ([(⟨(c.chans.getD i bO).name,(s.chans.getD i [])⟩ : Sm)].map b6).length ≤ 137438953472∧o.map b6 ++ [(⟨(c.chans.getD i bO).name,(s.chans.getD i [])⟩ : Sm)].map b6 = (o ++ [(⟨(c.chans.getD i bO).name,(s.chans.getD i [])⟩ : Sm)]).map b6)∧TT 1 (W6 ((i + 1 : Nat) : Int)∧TT 1 (AG (cK c s) (i,o) (i + 1,o ++ [(⟨(c.chans.getD i bO).name,(s.chans.getD i [])⟩ : Sm)]))))))) (W6 ((i + 1 : Nat) : Int)∧TT 1 (AG (cK c s) (i,o) (i + 1,o)))))) (TT 3 (o.map b6 = (vD c s).map b6)))))) (.gs 2 5 57 2 b6 aB <| .l (cK c s) (0,([] : List Sm)) (fun ⟨i,o⟩ => .b 12 (.b 18 (.w 6 [(8,(wZ (s.chans.getD i [])).O),(10,.box 57 2 b6 aB [(⟨(c.chans.getD i bO).name,(s.chans.getD i [])⟩ : Sm)]),(11,.box 57 2 b6 aB (o ++ [(⟨(c.chans.getD i bO).name,(s.chans.getD i [])⟩ : Sm)]))] <| .w 7 [(0,.val (i6 ((i + 1 : Nat) : Int)))] <| .e) (.w 7 [(0,.val (i6 ((i + 1 : Nat) : Int)))] <| .e)) (.e))) Try.func20 rfl rfl rfl (by kernel_rfl) ?_
 refine tt ⟨rfl,⟨by omega,rfl⟩,?_⟩
 intro i o hinv
 obtain ⟨hi,ho⟩ := hinv
 refine tt (cd (fun hc12 => ?_) (fun hc12 => ?_))
 · refine tt ⟨ix,tt (cd (fun hc18 => ?_) (fun hc18 => ?_))⟩
   · have hwl : (s.chans.getD i []).length ≤ 4294967296 := hsm i
     refine tt ⟨ix,tt ⟨(sR (s.chans.getD i []) (by omega)),tt ⟨⟨⟨rfl,rfl,oK⟩,oK⟩,⟨⟨by simp only [List.length_map,List.length_cons,List.length_nil]; have := pn (c := c) (s := s) i; rw [ho]; omega,by simp only [List.map_append,List.map_nil,List.append_nil]⟩,tt ⟨w6,tt ⟨(i + 1,o ++ [(⟨(c.chans.getD i bO).name,(s.chans.getD i [])⟩ : Sm)]),rfl,?_,(?_ : c.chans.length - (i + 1) < c.chans.length - i)⟩⟩⟩⟩⟩⟩
     · exact ⟨by omega,by rw [ho]; first | exact (rJ hc18).symm | exact (uq hc18).symm⟩
     · omega
   · refine ⟨w6,tt ⟨(i + 1,o),rfl,?_,(?_ : c.chans.length - (i + 1) < c.chans.length - i)⟩⟩
     · exact ⟨by omega,by rw [ho]; first | exact (rJ hc18).symm | exact (uq hc18).symm⟩
     · omega
 · refine tt (congrArg _ (?_ : o = (vD c s)))
   rw [ho,show i = c.chans.length by omega]; rfl
abbrev y8 (c d : Ci) (s t : Ns) (z : Sm) : Ct := ⟨26,[(.agg [(dL 6 gb ew c.procs),(dL 5 dy bO c.chans)]),(.agg [(dL 6 gb ew d.procs),(dL 5 dy bO d.chans)]),(.agg (lq s)),(.agg (lr t)),(.agg [(dS z.name),(LI z.words)])],true,(.tup [(.agg [(dL 2 b5 e8 (((ao c d s t z.name z.words).1).procs)),(dL 1 ax [] (((ao c d s t z.name z.words).1).chans))]),(.agg [(dL 2 b5 e8 (((ao c d s t z.name z.words).2.1).procs)),(dL 1 ax [] (((ao c d s t z.name z.words).2.1).chans))]),(i6 ((ao c d s t z.name z.words).2.2))])⟩
def gJ (c : Ci) (d : Ci) (s : Ns) (t : Ns) (z : Sm) : St := ⟨[(10,(.ptr 5 0 0 0)),(11,(.ptr 6 0 0 0)),(14,bv)],(it c d s t z)⟩
def lu (c : Ci) (d : Ci) (s : Ns) (t : Ns) (z : Sm) : St := ⟨[(10,(.ptr 5 0 0 0)),(11,(.ptr 6 0 0 0)),(14,bv),(76,bv)],(it c d s t z)⟩
def lv (c : Ci) (d : Ci) (s : Ns) (t : Ns) (z : Sm) : St := ⟨[(10,(.ptr 5 0 0 0)),(11,(.ptr 6 0 0 0)),(14,bv),(78,(.ptr 14 0 0 2))],(it c d s t z)⟩
def lw (c : Ci) (d : Ci) (s : Ns) (t : Ns) (z : Sm) : St := ⟨[(10,(.ptr 5 0 0 0)),(11,(.ptr 6 0 0 0)),(14,bv),(76,bv),(77,(.agg (e9 c s z)))],(it c d s t z)⟩
def gK (c : Ci) (d : Ci) (s : Ns) (t : Ns) (z : Sm) : St := ⟨[(10,(.ptr 5 0 0 0)),(11,(.ptr 6 0 0 0)),(14,bv),(76,bv),(78,(.ptr 14 0 0 2))],(it c d s t z)⟩
def lx (c : Ci) (d : Ci) (s : Ns) (t : Ns) (z : Sm) : St := ⟨[(10,(.ptr 5 0 0 0)),(11,(.ptr 6 0 0 0)),(14,bv),(78,(.ptr 14 0 0 2)),(79,(.agg (ir d t z)))],(it c d s t z)⟩
def gL (c : Ci) (d : Ci) (s : Ns) (t : Ns) (z : Sm) : St := ⟨[(10,(.ptr 5 0 0 0)),(11,(.ptr 6 0 0 0)),(14,bv),(76,bv),(77,(.agg (e9 c s z))),(78,(.ptr 14 0 0 2))],(it c d s t z)⟩
def ly (c : Ci) (d : Ci) (s : Ns) (t : Ns) (z : Sm) : St := ⟨[(10,(.ptr 5 0 0 0)),(11,(.ptr 6 0 0 0)),(14,bv),(76,bv),(77,(.agg (e9 c s z)))],(uB c d s t z)⟩
def gM (c : Ci) (d : Ci) (s : Ns) (t : Ns) (z : Sm) : St := ⟨[(10,(.ptr 5 0 0 0)),(11,(.ptr 6 0 0 0)),(14,bv),(76,bv),(78,(.ptr 14 0 0 2)),(79,(.agg (ir d t z)))],(it c d s t z)⟩
def gN (c : Ci) (d : Ci) (s : Ns) (t : Ns) (z : Sm) : St := ⟨(uC c s z d t),(it c d s t z)⟩
def fA (c : Ci) (d : Ci) (s : Ns) (t : Ns) (z : Sm) : St := ⟨[(10,(.ptr 5 0 0 0)),(11,(.ptr 6 0 0 0)),(14,bv),(76,bv),(77,(.agg (e9 c s z))),(78,(.ptr 14 0 0 2))],(uB c d s t z)⟩
def fB (c : Ci) (d : Ci) (s : Ns) (t : Ns) (z : Sm) : St := ⟨(uC c s z d t),(uB c d s t z)⟩
def jv (c : Ci) (d : Ci) (s : Ns) (t : Ns) (z : Sm) : St := ⟨(uC c s z d t),[(ep c),(fa d),(.var 46 (lq s)),(.var 46 (lr t)),.dead,(.var 46 (e9 c s z)),(.var 46 (ir d t z)),.dead,.dead,.dead,.dead,.dead,.dead,(rP c d),(rO c s z d t),.dead,(nA c z d),(ep c),(fa d),(ep c),.dead,.dead,.dead,.dead,.dead,.dead,.dead,.dead,.dead,.dead,.dead,.dead,.dead,(.var 46 (e9 c s z)),.dead,.dead,(fa d),.dead,.dead,.dead,.dead,.dead,.dead,.dead,.dead,.dead,.dead,.dead,.dead,.dead,(.var 46 (ir d t z)),.dead,.dead]⟩
def jw (c : Ci) (d : Ci) (s : Ns) (t : Ns) (z : Sm) : St := ⟨[(10,(.ptr 5 0 0 0)),(11,(.ptr 6 0 0 0)),(12,(i6 0))],[(ep c),(fa d),(.var 46 (lq s)),(.var 46 (lr t)),.dead,(.var 46 (e9 c s z)),(.var 46 (ir d t z)),.dead,.dead,.dead,.dead,.dead,.dead,(rP c d),(rO c s z d t),.dead,(nA c z d),(ep c),(fa d),(ep c),.dead,.dead,.dead,.dead,.dead,.dead,.dead,.dead,.dead,.dead,.dead,.dead,.dead,(.var 46 (e9 c s z)),.dead,.dead,(fa d),.dead,.dead,.dead,.dead,.dead,.dead,.dead,.dead,.dead,.dead,.dead,.dead,.dead,(.var 46 (ir d t z)),.dead,.dead]⟩
theorem uD (c d : Ci) (s t : Ns) (z : Sm) (hc : kV c) (hd : kV d) (hs : pj c s) (ht : pj d t) (hsm : wR s 4294967296) (htm : wR t 4294967296) (hw : z.words.length ≤ 4294967296) : CC (y8 c d s t z) := by
 have hnl := hc.nl
 have hcl := hc.cl
 have hl2 := hs.cl
 have hdl := hd.cl
 have hl3 := ht.cl
 refine ai.vc (V := TT 23 (((0 ≤ (0 : Int)∧0 < (2 : Int))∧True)∧TT 7 (CC (uw c.chans z)∧TT 3 (((0 ≤ (0 : Int)∧0 < (2 : Int))∧True)∧TT 2 (((0 ≤ (0 : Int)∧0 < (2 : Int))∧True)∧TT 2 (CD ((aK c.chans z.name) < 0) (TT 8 (((((ao c d s t z.name z.words).1).procs) = []∧(((ao c d s t z.name z.words).1).chans) = []∧True)∧((((ao c d s t z.name z.words).2.1).procs) = []∧(((ao c d s t z.name z.words).2.1).chans) = []∧True)∧(4 : Int) = ((ao c d s t z.name z.words).2.2)∧True)) (TT 4 (((0 ≤ (1 : Int)∧1 < (2 : Int))∧True)∧TT 7 (CC (uw d.chans z)∧TT 3 (((0 ≤ (1 : Int)∧1 < (2 : Int))∧True)∧TT 2 (((0 ≤ (1 : Int)∧1 < (2 : Int))∧True)∧TT 2 (CD ((aK d.chans z.name) < 0) (TT 8 (((((ao c d s t z.name z.words).1).procs) = []∧(((ao c d s t z.name z.words).1).chans) = []∧True)∧((((ao c d s t z.name z.words).2.1).procs) = []∧(((ao c d s t z.name z.words).2.1).chans) = []∧True)∧(4 : Int) = ((ao c d s t z.name z.words).2.2)∧True)) (TT 7 (((0 ≤ (0 : Int)∧0 < (2 : Int))∧True)∧TT 5 (((0 ≤ (0 : Int)∧0 < (2 : Int))∧True)∧TT 2 (((0 ≤ (0 : Int)∧0 < (2 : Int))∧True)∧TT 3 (CC (x4 c s (aK c.chans z.name) z.words)∧TT 8 (CN (((aD c s (aK c.chans z.name) z.words).2) = 0) (TT 9 (((((ao c d s t z.name z.words).1).procs) = []∧(((ao c d s t z.name z.words).1).chans) = []∧True)∧((((ao c d s t z.name z.words).2.1).procs) = []∧(((ao c d s t z.name z.words).2.1).chans) = []∧True)∧((aD c s (aK c.chans z.name) z.words).2) = ((ao c d s t z.name z.words).2.2)∧True)) (TT 2 (((0 ≤ (0 : Int)∧0 < (2 : Int))∧True)∧TT 5 (((0 ≤ (1 : Int)∧1 < (2 : Int))∧True)∧TT 5 (((0 ≤ (1 : Int)∧1 < (2 : Int))∧True)∧TT 2 (((0 ≤ (1 : Int)∧1 < (2 : Int))∧True)∧TT 3 (CC (x4 d t (aK d.chans z.name) z.words)∧TT 8 (CN (((aD d t (aK d.chans z.name) z.words).2) = 0) (TT 9 (((((ao c d s t z.name z.words).1).procs) = []∧(((ao c d s t z.name z.words).1).chans) = []∧True)∧((((ao c d s t z.name z.words).2.1).procs) = []∧(((ao c d s t z.name z.words).2.1).chans) = []∧True)∧((aD d t (aK d.chans z.name) z.words).2) = ((ao c d s t z.name z.words).2.2)∧True)) (TT 2 (((0 ≤ (1 : Int)∧1 < (2 : Int))∧True)∧TT 4 ((gJ c d s t z) = (gJ c d s t z)∧(((sE (lu c d s t z) ((0 ≤ (0 : Int)∧0 < (2 : Int))∧True))∧(sE (lv c d s t z) ((0 ≤ (1 : Int)∧1 < (2 : Int))∧True))∧True)∧((sE (lw c d s t z) (True))∧(sE (gK c d s t z) ((0 ≤ (1 : Int)∧1 < (2 : Int))∧True))∧True)∧((sE (gK c d s t z) ((0 ≤ (0 : Int)∧0 < (2 : Int))∧True))∧(sE (lx c d s t z) (True))∧True)∧((sE (gL c d s t z) ((0 ≤ (1 : Int)∧1 < (2 : Int))∧True))∧(sE (ly c d s t z) (True))∧True)∧((sE (gL c d s t z) (True))∧(sE (gM c d s t z) (True))∧True)∧((sE (gM c d s t z) ((0 ≤ (0 : Int)∧0 < (2 : Int))∧True))∧True)∧((sE (gN c d s t z) (True))∧(sE (fA c d s t z) (True))∧True)∧((sE (fA c d s t z) ((0 ≤ (1 : Int)∧1 < (2 : Int))∧True))∧True)∧((sE (gN c d s t z) (True))∧True)∧((sE (fB c d s t z) (True))∧True)∧((sE (fB c d s t z) (True))∧True)∧((sE (jv c d s t z) (True))∧True)∧((sE (jw c d s t z) (True))∧True)∧True∧True)∧TT 3 (((((aD c s (aK c.chans z.name) z.words).1).procs).map b5 = (((ao c d s t z.name z.words).1).procs).map b5∧(((aD c s (aK c.chans z.name) z.words).1).chans).map ax = (((ao c d s t z.name z.words).1).chans).map ax∧True)∧((((aD d t (aK d.chans z.name) z.words).1).procs).map b5 = (((ao c d s t z.name z.words).2.1).procs).map b5∧(((aD d t (aK d.chans z.name) z.words).1).chans).map ax = (((ao c d s t z.name z.words).2.1).chans).map ax∧True)∧(0 : Int) = ((ao c d s t z.name z.words).2.2)∧True))))))))))))))))))))))))))))) (.f 1 4 <| .w 1 [(8,.val .junk)] <| .r 3 (.w 6 [(4,(uw c.chans z).O)] <| .b 45 (.e) (.w 6 [(4,(uw d.chans z).O)] <| .b 45 (.e) (.r 3 (.w 13 [(9,(x4 c s (aK c.chans z.name) z.words).O),(14,.val .junk)] <| .b 68 (.e) (.w 13 [(9,(x4 d t (aK d.chans z.name) z.words).O),(14,.val .junk)] <| .b 68 (.e) (.y 18 [] [((bm 7 0),(gJ c d s t z)),((bm 7 1),(lu c d s t z)),((bm 7 4),(lv c d s t z)),((bm 7 3),(lw c d s t z)),((bm 7 5),(gK c d s t z)),((bm 7 12),(lx c d s t z)),((bm 7 7),(gL c d s t z)),((bm 7 19),(ly c d s t z)),((bm 7 13),(gM c d s t z)),((bm 7 15),(gN c d s t z)),((bm 7 23),(fA c d s t z)),((bm 7 31),(fB c d s t z)),((bm 7 63),(jv c d s t z)),((bm 7 127),(jw c d s t z))] <| .e))))))) Try.func26 rfl rfl rfl (by kernel_rfl) ?_
 refine tt ⟨⟨by omega,oK⟩,tt ⟨(rM c.chans z (by omega)),tt ⟨⟨by omega,oK⟩,tt ⟨⟨by omega,oK⟩,tt (cd (fun hc45 => ?_) (fun hc45 => ?_))⟩⟩⟩⟩
 · refine tt ⟨⟨?_,?_,oK⟩,⟨?_,?_,oK⟩,?_,oK⟩
   all_goals (all_goals (first | rfl | (rw [eo (by omega)]; done) | (rw [df (by omega) (by omega) (by omega)]; done) | (rw [bo (by omega) (by omega)]; done) | (rw [bo (by omega) (by omega)]; exact lm.resolve_left (by omega))))
 · refine tt ⟨⟨by omega,oK⟩,tt ⟨(rM d.chans z (by omega)),tt ⟨⟨by omega,oK⟩,tt ⟨⟨by omega,oK⟩,tt (cd (fun hc45 => ?_) (fun hc45 => ?_))⟩⟩⟩⟩
   · refine tt ⟨⟨?_,?_,oK⟩,⟨?_,?_,oK⟩,?_,oK⟩
     all_goals (all_goals (first | rfl | (rw [eo (by omega)]; done) | (rw [df (by omega) (by omega) (by omega)]; done) | (rw [bo (by omega) (by omega)]; done) | (rw [bo (by omega) (by omega)]; exact lm.resolve_left (by omega))))
   · refine tt ⟨⟨by omega,oK⟩,tt ⟨⟨by omega,oK⟩,tt ⟨⟨by omega,oK⟩,tt ⟨(pm c s (aK c.chans z.name) z.words hc hs hsm hw),tt (cn (fun hc68 => ?_) (fun hc68 => ?_))⟩⟩⟩⟩
     · refine tt ⟨⟨?_,?_,oK⟩,⟨?_,?_,oK⟩,?_,oK⟩
       all_goals (all_goals (first | rfl | (rw [eo (by omega)]; done) | (rw [df (by omega) (by omega) (by omega)]; done) | (rw [bo (by omega) (by omega)]; done) | (rw [bo (by omega) (by omega)]; exact lm.resolve_left (by omega))))
     · refine tt ⟨⟨by omega,oK⟩,tt ⟨⟨by omega,oK⟩,tt ⟨⟨by omega,oK⟩,tt ⟨⟨by omega,oK⟩,tt ⟨(pm d t (aK d.chans z.name) z.words hd ht htm hw),tt (cn (fun hc68 => ?_) (fun hc68 => ?_))⟩⟩⟩⟩⟩
       · refine tt ⟨⟨?_,?_,oK⟩,⟨?_,?_,oK⟩,?_,oK⟩
         all_goals (all_goals (first | rfl | (rw [eo (by omega)]; done) | (rw [df (by omega) (by omega) (by omega)]; done) | (rw [bo (by omega) (by omega)]; done) | (rw [bo (by omega) (by omega)]; exact lm.resolve_left (by omega))))
       · refine tt ⟨⟨by omega,oK⟩,tt ⟨rfl,⟨⟨⟨⟨rfl,⟨by omega,oK⟩,oK⟩,⟨rfl,⟨by omega,oK⟩,oK⟩,oK⟩,⟨⟨rfl,oK,oK⟩,⟨rfl,⟨by omega,oK⟩,oK⟩,oK⟩,⟨⟨rfl,⟨by omega,oK⟩,oK⟩,⟨rfl,oK,oK⟩,oK⟩,⟨⟨rfl,⟨by omega,oK⟩,oK⟩,⟨rfl,oK,oK⟩,oK⟩,⟨⟨rfl,oK,oK⟩,⟨rfl,oK,oK⟩,oK⟩,⟨⟨rfl,⟨by omega,oK⟩,oK⟩,oK⟩,⟨⟨rfl,oK,oK⟩,⟨rfl,oK,oK⟩,oK⟩,⟨⟨rfl,⟨by omega,oK⟩,oK⟩,oK⟩,⟨⟨rfl,oK,oK⟩,oK⟩,⟨⟨rfl,oK,oK⟩,oK⟩,⟨⟨rfl,oK,oK⟩,oK⟩,⟨⟨rfl,oK,oK⟩,oK⟩,⟨⟨rfl,oK,oK⟩,oK⟩,oK,oK⟩,tt ⟨⟨(congrArg _ (?_ : (((aD c s (aK c.chans z.name) z.words).1).procs) = (((ao c d s t z.name z.words).1).procs))),(congrArg _ (?_ : (((aD c s (aK c.chans z.name) z.words).1).chans) = (((ao c d s t z.name z.words).1).chans))),oK⟩,⟨(congrArg _ (?_ : (((aD d t (aK d.chans z.name) z.words).1).procs) = (((ao c d s t z.name z.words).2.1).procs))),(congrArg _ (?_ : (((aD d t (aK d.chans z.name) z.words).1).chans) = (((ao c d s t z.name z.words).2.1).chans))),oK⟩,?_,oK⟩⟩⟩⟩
         all_goals (all_goals (first | rfl | (rw [eo (by omega)]; done) | (rw [df (by omega) (by omega) (by omega)]; done) | (rw [bo (by omega) (by omega)]; done) | (rw [bo (by omega) (by omega)]; exact lm.resolve_left (by omega))))
end Go.Proofs.Ytgmpoenfoacofaa
