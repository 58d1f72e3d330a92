/-
  Package shadow: outputs, feeding, runs.
-/
import Derived.Test.YtgmpoenfoacofaaGreatQShB
namespace Go.Proofs.YtgmpoenfoacofaaGreat
open Go.RowKit
set_option linter.unusedVariables false
set_option linter.unusedSimpArgs false
abbrev BN (c : Ci) (s : Ns) (z : Sm) (d : Ci) (t : Ns) : az := (.var 134 [(dL 2 aV a7 (((aA c s (aR c.chans z.name) z.words).1).procs)),(dL 1 ac [] (((aA c s (aR c.chans z.name) z.words).1).chans)),(dL 2 aV a7 (((aA d t (aR d.chans z.name) z.words).1).procs)),(dL 1 ac [] (((aA d t (aR d.chans z.name) z.words).1).chans))])
abbrev kt (c : Ci) (s : Ns) (z : Sm) : List D := [(dL 2 aV a7 (((aA c s (aR c.chans z.name) z.words).1).procs)),(dL 1 ac [] (((aA c s (aR c.chans z.name) z.words).1).chans))]
abbrev py (d : Ci) (t : Ns) (z : Sm) : List D := [(dL 2 aV a7 (((aA d t (aR d.chans z.name) z.words).1).procs)),(dL 1 ac [] (((aA d t (aR d.chans z.name) z.words).1).chans))]
abbrev xu (c : Ci) : List D := [(dL 6 eu au c.procs),(dL 5 eB bi c.chans)]
abbrev jr (c : Ci) : az := (.var 38 (xu c))
abbrev ku (d : Ci) : az := (.var 38 [(dL 6 eu au d.procs),(dL 5 eB bi d.chans)])
abbrev rq (s : Ns) : List D := [(dL 2 aV a7 s.procs),(dL 1 ac [] s.chans)]
abbrev qG (t : Ns) : List D := [(dL 2 aV a7 t.procs),(dL 1 ac [] t.chans)]
abbrev BO (c d : Ci) : az := (.var 133 [(dL 6 eu au c.procs),(dL 5 eB bi c.chans),(dL 6 eu au d.procs),(dL 5 eB bi d.chans)])
abbrev xv (c : Ci) (z : Sm) (d : Ci) : az := (.var 135 [(i6 (aR c.chans z.name)),(i6 (aR d.chans z.name))])
abbrev pz (c d : Ci) (s t : Ns) (z : Sm) : List az := [(jr c),(ku d),(.var 42 (rq s)),(.var 42 (qG t)),.dead,(.var 42 [.nils,.nils]),(.var 42 [.nils,.nils]),.dead,.dead,.dead,.dead,.dead,.dead,(BO c d),(BN c s z d t),.dead,(xv c z d),(jr c),(ku d),(jr c),.dead,.dead,.dead,.dead,.dead,.dead,.dead,.dead,.dead,.dead,.dead,.dead,.dead,(.var 42 (kt c s z)),.dead,.dead,(ku d),.dead,.dead,.dead,.dead,.dead,.dead,.dead,.dead,.dead,.dead,.dead,.dead,.dead,(.var 42 (py d t z)),.dead,.dead]
abbrev Fj (c d : Ci) (s t : Ns) (z : Sm) : List az := [(jr c),(ku d),(.var 42 (rq s)),(.var 42 (qG t)),.dead,(.var 42 (kt c s z)),(.var 42 [.nils,.nils]),.dead,.dead,.dead,.dead,.dead,.dead,(BO c d),(BN c s z d t),.dead,(xv c z d),(jr c),(ku d),(jr c),.dead,.dead,.dead,.dead,.dead,.dead,.dead,.dead,.dead,.dead,.dead,.dead,.dead,(.var 42 (kt c s z)),.dead,.dead,(ku d),.dead,.dead,.dead,.dead,.dead,.dead,.dead,.dead,.dead,.dead,.dead,.dead,.dead,(.var 42 (py d t z)),.dead,.dead]
abbrev de : D := (.ptr 14 0 0 0)
abbrev Fk (c : Ci) (s : Ns) (z : Sm) (d : Ci) (t : Ns) : List (Nat × D) := [(10,(.ptr 5 0 0 0)),(11,(.ptr 6 0 0 0)),(14,de),(76,de),(77,(.agg (kt c s z))),(78,(.ptr 14 0 0 2)),(79,(.agg (py d t z)))]
set_option maxRecDepth 100000
abbrev JQ (l : List Int) : Ct := ⟨33,[(LI l)],true,(LI l)⟩
theorem Aj (l : List Int) (h : l ≠ []) (hl : l.length ≤ 137438953472) : CC (JQ l) := by
 refine af.vc (V := TT 2 (l ≠ []∧am [] (([] : List Int).map (ae .i64))∧TT 1 ((([] : List Int).length + (l.map (ae .i64)).length ≤ 137438953472∧([] : List Int).map (ae .i64) ++ l.map (ae .i64) = l.map (ae .i64))∧TT 2 (l.map (ae .i64) = l.map (ae .i64))))) (.w 3 [(0,.box 3 1 (ae .i64) 0 ([] : List Int)),(2,.box 3 1 (ae .i64) 0 l)] <| .e) Tryz.func33 rfl rfl rfl (by kernel_rfl) ?_
 exact tt ⟨(by exact h),⟨oK,tt ⟨⟨by simp only [List.length_map,List.length_nil]; omega,by simp⟩,tt rfl⟩⟩⟩
abbrev JR : Ct := ⟨33,[.nils],true,(LI ([] : List Int))⟩
theorem Ak  : CC JR := by
 refine af.vc (V := TT 5 (([] : List Int) = [])) (.e) Tryz.func33 rfl rfl rfl (by kernel_rfl) ?_
 refine tt ?_
 rfl
abbrev JS : Ct := ⟨33,[(.v .esl)],true,(LI ([] : List Int))⟩
theorem Al  : CC JS := by
 refine af.vc (V := TT 3 (am [] (([] : List Int).map (ae .i64))∧TT 1 ((([] : List Int).length + (([] : List (List V))).length ≤ 137438953472∧([] : List Int).map (ae .i64) ++ ([] : List (List V)) = ([] : List Int).map (ae .i64))∧TT 2 (([] : List Int).map (ae .i64) = ([] : List Int).map (ae .i64))))) (.w 3 [(0,.box 3 1 (ae .i64) 0 ([] : List Int)),(2,.box 3 1 (ae .i64) 0 ([] : List Int))] <| .e) Tryz.func33 rfl rfl rfl (by kernel_rfl) ?_
 exact tt ⟨oK,tt ⟨⟨by simp,by simp⟩,tt rfl⟩⟩
abbrev IA (l : List Int) : Ct := ⟨33,[(LI l)],true,(LI l)⟩
theorem Db (l : List Int) (hl : l.length ≤ 137438953472) : CC (IA l) :=
  af.nilcases (fun h => Aj l h hl) (fun h => by subst h; exact Ak) (fun h => by subst h; exact Al)
abbrev JT (c : Ci) (s : Ns) : Ct := ⟨11,[(.agg (xu c)),(.agg (rq s))],true,(dL 2 dZ aG (br c s))⟩
abbrev fT (c : Ci) (s : Ns) : Lp (Nat × List Sm) := uN [3,5,9,10,11] 3 (fun (i : Nat) (o : List Sm) => ⟨[(3,(.ptr 1 0 0 0)),(5,(.own 2)),(9,(dL 5 eB bi c.chans)),(10,(i6 (c.chans.length : Int))),(11,(i6 (i : Int)))],[(jr c),(.var 42 (rq s)),(.arr 30 2 dZ aG o)]⟩) (fun (i : Nat) (o : List Sm) => i ≤ c.chans.length∧o = pk c s i) (fun (i : Nat) (o : List Sm) => c.chans.length - i)
theorem rt (c : Ci) (s : Ns) (hc : bC c) (hs : b8 c s) (hsm : gw s 4294967296) : CC (JT c s) := by
 have hnl := hc.nl
 have hcl := hc.cl
 have hl2 := hs.cl
 refine af.vc (V := TT 8 (GO (fT c s) (0,([] : List Sm)) (∀ i o,(fT c s).inv (i,o) → TT 1 (CD ((i : Int) < (c.chans.length : Int)) (TT 1 (IX (i : Int) c.chans.length∧TT 7 (CD (((c.chans.getD i bi).dst) = (-1)) (TT 6 (IX (i : Int) s.chans.length∧TT 1 (CC (IA (s.chans.getD i []))∧TT 1 (am [[(dS ((c.chans.getD i bi).name)),(LI (s.chans.getD i []))]] ([(⟨(c.chans.getD i bi).name,(s.chans.getD i [])⟩ : Sm)].map dZ)∧(o.length + ([(⟨(c.chans.getD i bi).name,(s.chans.getD i [])⟩ : Sm)].map dZ).length ≤ 137438953472∧o.map dZ ++ [(⟨(c.chans.getD i bi).name,(s.chans.getD i [])⟩ : Sm)].map dZ = (o ++ [(⟨(c.chans.getD i bi).name,(s.chans.getD i [])⟩ : Sm)]).map dZ)∧TT 1 (W6 ((i + 1 : Nat) : Int)∧TT 1 (AG (fT c s) (i,o) (i + 1,o ++ [(⟨(c.chans.getD i bi).name,(s.chans.getD i [])⟩ : Sm)]))))))) (W6 ((i + 1 : Nat) : Int)∧TT 1 (AG (fT c s) (i,o) (i + 1,o)))))) (TT 3 (o.map dZ = (br c s).map dZ)))))) (.gs 2 5 30 2 dZ aG <| .l (fT c s) (0,([] : List Sm)) (fun ⟨i,o⟩ => .b 12 (.b 18 (.w 6 [(8,(IA (s.chans.getD i [])).O),(10,.box 30 2 dZ aG [(⟨(c.chans.getD i bi).name,(s.chans.getD i [])⟩ : Sm)]),(11,.box 30 2 dZ aG (o ++ [(⟨(c.chans.getD i bi).name,(s.chans.getD i [])⟩ : Sm)]))] <| .w 7 [(0,.val (i6 ((i + 1 : Nat) : Int)))] <| .e) (.w 7 [(0,.val (i6 ((i + 1 : Nat) : Int)))] <| .e)) (.e))) Tryz.func11 rfl rfl rfl (by kernel_rfl) ?_
 refine tt ⟨rfl,⟨by omega,rfl⟩,?_⟩
 intro i o hinv
 obtain ⟨hi,ho⟩ := hinv
 refine tt (cd (fun hc12 => ?_) (fun hc12 => ?_))
 · refine tt ⟨ix,tt (cd (fun hc18 => ?_) (fun hc18 => ?_))⟩
   · have hwl : (s.chans.getD i []).length ≤ 4294967296 := hsm i
     refine tt ⟨ix,tt ⟨(Db (s.chans.getD i []) (by omega)),tt ⟨⟨⟨rfl,rfl,oK⟩,oK⟩,⟨⟨by simp only [List.length_map,List.length_cons,List.length_nil]; have := pm (c := c) (s := s) i; rw [ho]; omega,by simp only [List.map_append,List.map_nil,List.append_nil]⟩,tt ⟨w6,tt ⟨(i + 1,o ++ [(⟨(c.chans.getD i bi).name,(s.chans.getD i [])⟩ : Sm)]),rfl,?_,(?_ : c.chans.length - (i + 1) < c.chans.length - i)⟩⟩⟩⟩⟩⟩
     · exact ⟨by omega,by rw [ho]; first | exact (sd hc18).symm | exact (xt hc18).symm⟩
     · omega
   · refine ⟨w6,tt ⟨(i + 1,o),rfl,?_,(?_ : c.chans.length - (i + 1) < c.chans.length - i)⟩⟩
     · exact ⟨by omega,by rw [ho]; first | exact (sd hc18).symm | exact (xt hc18).symm⟩
     · omega
 · refine tt (congrArg _ (?_ : o = (br c s)))
   rw [ho,show i = c.chans.length by omega]; rfl
abbrev Lj (c d : Ci) (s t : Ns) (z : Sm) : Ct := ⟨35,[(.agg (xu c)),(.agg [(dL 6 eu au d.procs),(dL 5 eB bi d.chans)]),(.agg (rq s)),(.agg (qG t)),(.agg [(dS z.name),(LI z.words)])],true,(.tup [(.agg [(dL 2 aV a7 (((ai c d s t z.name z.words).1).procs)),(dL 1 ac [] (((ai c d s t z.name z.words).1).chans))]),(.agg [(dL 2 aV a7 (((ai c d s t z.name z.words).2.1).procs)),(dL 1 ac [] (((ai c d s t z.name z.words).2.1).chans))]),(i6 ((ai c d s t z.name z.words).2.2))])⟩
def ny (c : Ci) (d : Ci) (s : Ns) (t : Ns) (z : Sm) : St := ⟨[(10,(.ptr 5 0 0 0)),(11,(.ptr 6 0 0 0)),(14,de)],(pz c d s t z)⟩
def tW (c : Ci) (d : Ci) (s : Ns) (t : Ns) (z : Sm) : St := ⟨[(10,(.ptr 5 0 0 0)),(11,(.ptr 6 0 0 0)),(14,de),(76,de)],(pz c d s t z)⟩
def tX (c : Ci) (d : Ci) (s : Ns) (t : Ns) (z : Sm) : St := ⟨[(10,(.ptr 5 0 0 0)),(11,(.ptr 6 0 0 0)),(14,de),(78,(.ptr 14 0 0 2))],(pz c d s t z)⟩
def tY (c : Ci) (d : Ci) (s : Ns) (t : Ns) (z : Sm) : St := ⟨[(10,(.ptr 5 0 0 0)),(11,(.ptr 6 0 0 0)),(14,de),(76,de),(77,(.agg (kt c s z)))],(pz c d s t z)⟩
def nz (c : Ci) (d : Ci) (s : Ns) (t : Ns) (z : Sm) : St := ⟨[(10,(.ptr 5 0 0 0)),(11,(.ptr 6 0 0 0)),(14,de),(76,de),(78,(.ptr 14 0 0 2))],(pz c d s t z)⟩
def tZ (c : Ci) (d : Ci) (s : Ns) (t : Ns) (z : Sm) : St := ⟨[(10,(.ptr 5 0 0 0)),(11,(.ptr 6 0 0 0)),(14,de),(78,(.ptr 14 0 0 2)),(79,(.agg (py d t z)))],(pz c d s t z)⟩
def nA (c : Ci) (d : Ci) (s : Ns) (t : Ns) (z : Sm) : St := ⟨[(10,(.ptr 5 0 0 0)),(11,(.ptr 6 0 0 0)),(14,de),(76,de),(77,(.agg (kt c s z))),(78,(.ptr 14 0 0 2))],(pz c d s t z)⟩
def t0 (c : Ci) (d : Ci) (s : Ns) (t : Ns) (z : Sm) : St := ⟨[(10,(.ptr 5 0 0 0)),(11,(.ptr 6 0 0 0)),(14,de),(76,de),(77,(.agg (kt c s z)))],(Fj c d s t z)⟩
def nC (c : Ci) (d : Ci) (s : Ns) (t : Ns) (z : Sm) : St := ⟨[(10,(.ptr 5 0 0 0)),(11,(.ptr 6 0 0 0)),(14,de),(76,de),(78,(.ptr 14 0 0 2)),(79,(.agg (py d t z)))],(pz c d s t z)⟩
def nG (c : Ci) (d : Ci) (s : Ns) (t : Ns) (z : Sm) : St := ⟨(Fk c s z d t),(pz c d s t z)⟩
def lg (c : Ci) (d : Ci) (s : Ns) (t : Ns) (z : Sm) : St := ⟨[(10,(.ptr 5 0 0 0)),(11,(.ptr 6 0 0 0)),(14,de),(76,de),(77,(.agg (kt c s z))),(78,(.ptr 14 0 0 2))],(Fj c d s t z)⟩
def lh (c : Ci) (d : Ci) (s : Ns) (t : Ns) (z : Sm) : St := ⟨(Fk c s z d t),(Fj c d s t z)⟩
def ru (c : Ci) (d : Ci) (s : Ns) (t : Ns) (z : Sm) : St := ⟨(Fk c s z d t),[(jr c),(ku d),(.var 42 (rq s)),(.var 42 (qG t)),.dead,(.var 42 (kt c s z)),(.var 42 (py d t z)),.dead,.dead,.dead,.dead,.dead,.dead,(BO c d),(BN c s z d t),.dead,(xv c z d),(jr c),(ku d),(jr c),.dead,.dead,.dead,.dead,.dead,.dead,.dead,.dead,.dead,.dead,.dead,.dead,.dead,(.var 42 (kt c s z)),.dead,.dead,(ku d),.dead,.dead,.dead,.dead,.dead,.dead,.dead,.dead,.dead,.dead,.dead,.dead,.dead,(.var 42 (py d t z)),.dead,.dead]⟩
def rx (c : Ci) (d : Ci) (s : Ns) (t : Ns) (z : Sm) : St := ⟨[(10,(.ptr 5 0 0 0)),(11,(.ptr 6 0 0 0)),(12,(i6 0))],[(jr c),(ku d),(.var 42 (rq s)),(.var 42 (qG t)),.dead,(.var 42 (kt c s z)),(.var 42 (py d t z)),.dead,.dead,.dead,.dead,.dead,.dead,(BO c d),(BN c s z d t),.dead,(xv c z d),(jr c),(ku d),(jr c),.dead,.dead,.dead,.dead,.dead,.dead,.dead,.dead,.dead,.dead,.dead,.dead,.dead,(.var 42 (kt c s z)),.dead,.dead,(ku d),.dead,.dead,.dead,.dead,.dead,.dead,.dead,.dead,.dead,.dead,.dead,.dead,.dead,(.var 42 (py d t z)),.dead,.dead]⟩
theorem Fl (c d : Ci) (s t : Ns) (z : Sm) (hc : bC c) (hd : bC d) (hs : b8 c s) (ht : b8 d t) (hsm : gw s 4294967296) (htm : gw t 4294967296) (hw : z.words.length ≤ 4294967296) : CC (Lj c d s t z) := by
 have hnl := hc.nl
 have hcl := hc.cl
 have hl2 := hs.cl
 have hdl := hd.cl
 have hl3 := ht.cl
 refine af.vc (V := TT 23 (((0 ≤ (0 : Int)∧0 < (2 : Int))∧True)∧TT 7 (CC (Fg c.chans z)∧TT 3 (((0 ≤ (0 : Int)∧0 < (2 : Int))∧True)∧TT 2 (((0 ≤ (0 : Int)∧0 < (2 : Int))∧True)∧TT 2 (CD ((aR c.chans z.name) < 0) (TT 8 (((((ai c d s t z.name z.words).1).procs) = []∧(((ai c d s t z.name z.words).1).chans) = []∧True)∧((((ai c d s t z.name z.words).2.1).procs) = []∧(((ai c d s t z.name z.words).2.1).chans) = []∧True)∧(4 : Int) = ((ai c d s t z.name z.words).2.2)∧True)) (TT 4 (((0 ≤ (1 : Int)∧1 < (2 : Int))∧True)∧TT 7 (CC (Fg d.chans z)∧TT 3 (((0 ≤ (1 : Int)∧1 < (2 : Int))∧True)∧TT 2 (((0 ≤ (1 : Int)∧1 < (2 : Int))∧True)∧TT 2 (CD ((aR d.chans z.name) < 0) (TT 8 (((((ai c d s t z.name z.words).1).procs) = []∧(((ai c d s t z.name z.words).1).chans) = []∧True)∧((((ai c d s t z.name z.words).2.1).procs) = []∧(((ai c d s t z.name z.words).2.1).chans) = []∧True)∧(4 : Int) = ((ai c d s t z.name z.words).2.2)∧True)) (TT 7 (((0 ≤ (0 : Int)∧0 < (2 : Int))∧True)∧TT 5 (((0 ≤ (0 : Int)∧0 < (2 : Int))∧True)∧TT 2 (((0 ≤ (0 : Int)∧0 < (2 : Int))∧True)∧TT 3 (CC (JM c s (aR c.chans z.name) z.words)∧TT 8 (CN (((aA c s (aR c.chans z.name) z.words).2) = 0) (TT 9 (((((ai c d s t z.name z.words).1).procs) = []∧(((ai c d s t z.name z.words).1).chans) = []∧True)∧((((ai c d s t z.name z.words).2.1).procs) = []∧(((ai c d s t z.name z.words).2.1).chans) = []∧True)∧((aA c s (aR c.chans z.name) z.words).2) = ((ai c d s t z.name z.words).2.2)∧True)) (TT 2 (((0 ≤ (0 : Int)∧0 < (2 : Int))∧True)∧TT 5 (((0 ≤ (1 : Int)∧1 < (2 : Int))∧True)∧TT 5 (((0 ≤ (1 : Int)∧1 < (2 : Int))∧True)∧TT 2 (((0 ≤ (1 : Int)∧1 < (2 : Int))∧True)∧TT 3 (CC (JM d t (aR d.chans z.name) z.words)∧TT 8 (CN (((aA d t (aR d.chans z.name) z.words).2) = 0) (TT 9 (((((ai c d s t z.name z.words).1).procs) = []∧(((ai c d s t z.name z.words).1).chans) = []∧True)∧((((ai c d s t z.name z.words).2.1).procs) = []∧(((ai c d s t z.name z.words).2.1).chans) = []∧True)∧((aA d t (aR d.chans z.name) z.words).2) = ((ai c d s t z.name z.words).2.2)∧True)) (TT 2 (((0 ≤ (1 : Int)∧1 < (2 : Int))∧True)∧TT 4 ((ny c d s t z) = (ny c d s t z)∧(((sE (tW c d s t z) ((0 ≤ (0 : Int)∧0 < (2 : Int))∧True))∧(sE (tX c d s t z) ((0 ≤ (1 : Int)∧1 < (2 : Int))∧True))∧True)∧((sE (tY c d s t z) (True))∧(sE (nz c d s t z) ((0 ≤ (1 : Int)∧1 < (2 : Int))∧True))∧True)∧((sE (nz c d s t z) ((0 ≤ (0 : Int)∧0 < (2 : Int))∧True))∧(sE (tZ c d s t z) (True))∧True)∧((sE (nA c d s t z) ((0 ≤ (1 : Int)∧1 < (2 : Int))∧True))∧(sE (t0 c d s t z) (True))∧True)∧((sE (nA c d s t z) (True))∧(sE (nC c d s t z) (True))∧True)∧((sE (nC c d s t z) ((0 ≤ (0 : Int)∧0 < (2 : Int))∧True))∧True)∧((sE (nG c d s t z) (True))∧(sE (lg c d s t z) (True))∧True)∧((sE (lg c d s t z) ((0 ≤ (1 : Int)∧1 < (2 : Int))∧True))∧True)∧((sE (nG c d s t z) (True))∧True)∧((sE (lh c d s t z) (True))∧True)∧((sE (lh c d s t z) (True))∧True)∧((sE (ru c d s t z) (True))∧True)∧((sE (rx c d s t z) (True))∧True)∧True∧True)∧TT 3 (((((aA c s (aR c.chans z.name) z.words).1).procs).map aV = (((ai c d s t z.name z.words).1).procs).map aV∧(((aA c s (aR c.chans z.name) z.words).1).chans).map ac = (((ai c d s t z.name z.words).1).chans).map ac∧True)∧((((aA d t (aR d.chans z.name) z.words).1).procs).map aV = (((ai c d s t z.name z.words).2.1).procs).map aV∧(((aA d t (aR d.chans z.name) z.words).1).chans).map ac = (((ai c d s t z.name z.words).2.1).chans).map ac∧True)∧(0 : Int) = ((ai c d s t z.name z.words).2.2)∧True))))))))))))))))))))))))))))) (.f 1 4 <| .w 1 [(8,.val .junk)] <| .r 3 (.w 6 [(4,(Fg c.chans z).O)] <| .b 45 (.e) (.w 6 [(4,(Fg d.chans z).O)] <| .b 45 (.e) (.r 3 (.w 13 [(9,(JM c s (aR c.chans z.name) z.words).O),(14,.val .junk)] <| .b 68 (.e) (.w 13 [(9,(JM d t (aR d.chans z.name) z.words).O),(14,.val .junk)] <| .b 68 (.e) (.y 18 [] [((bm 7 0),(ny c d s t z)),((bm 7 1),(tW c d s t z)),((bm 7 4),(tX c d s t z)),((bm 7 3),(tY c d s t z)),((bm 7 5),(nz c d s t z)),((bm 7 12),(tZ c d s t z)),((bm 7 7),(nA c d s t z)),((bm 7 19),(t0 c d s t z)),((bm 7 13),(nC c d s t z)),((bm 7 15),(nG c d s t z)),((bm 7 23),(lg c d s t z)),((bm 7 31),(lh c d s t z)),((bm 7 63),(ru c d s t z)),((bm 7 127),(rx c d s t z))] <| .e))))))) Tryz.func35 rfl rfl rfl (by kernel_rfl) ?_
 refine tt ⟨⟨by omega,oK⟩,tt ⟨(BL c.chans z (by omega)),tt ⟨⟨by omega,oK⟩,tt ⟨⟨by omega,oK⟩,tt (cd (fun hc45 => ?_) (fun hc45 => ?_))⟩⟩⟩⟩
 · refine tt ⟨⟨?_,?_,oK⟩,⟨?_,?_,oK⟩,?_,oK⟩
   all_goals (all_goals (first | rfl | (rw [dY (by omega)]; done) | (rw [cU (by omega) (by omega) (by omega)]; done) | (rw [bn (by omega) (by omega)]; done) | (rw [bn (by omega) (by omega)]; exact i4.resolve_left (by omega))))
 · refine tt ⟨⟨by omega,oK⟩,tt ⟨(BL d.chans z (by omega)),tt ⟨⟨by omega,oK⟩,tt ⟨⟨by omega,oK⟩,tt (cd (fun hc45 => ?_) (fun hc45 => ?_))⟩⟩⟩⟩
   · refine tt ⟨⟨?_,?_,oK⟩,⟨?_,?_,oK⟩,?_,oK⟩
     all_goals (all_goals (first | rfl | (rw [dY (by omega)]; done) | (rw [cU (by omega) (by omega) (by omega)]; done) | (rw [bn (by omega) (by omega)]; done) | (rw [bn (by omega) (by omega)]; exact i4.resolve_left (by omega))))
   · refine tt ⟨⟨by omega,oK⟩,tt ⟨⟨by omega,oK⟩,tt ⟨⟨by omega,oK⟩,tt ⟨(yQ c s (aR c.chans z.name) z.words hc hs hsm hw),tt (cn (fun hc68 => ?_) (fun hc68 => ?_))⟩⟩⟩⟩
     · refine tt ⟨⟨?_,?_,oK⟩,⟨?_,?_,oK⟩,?_,oK⟩
       all_goals (all_goals (first | rfl | (rw [dY (by omega)]; done) | (rw [cU (by omega) (by omega) (by omega)]; done) | (rw [bn (by omega) (by omega)]; done) | (rw [bn (by omega) (by omega)]; exact i4.resolve_left (by omega))))
     · refine tt ⟨⟨by omega,oK⟩,tt ⟨⟨by omega,oK⟩,tt ⟨⟨by omega,oK⟩,tt ⟨⟨by omega,oK⟩,tt ⟨(yQ d t (aR d.chans z.name) z.words hd ht htm hw),tt (cn (fun hc68 => ?_) (fun hc68 => ?_))⟩⟩⟩⟩⟩
       · refine tt ⟨⟨?_,?_,oK⟩,⟨?_,?_,oK⟩,?_,oK⟩
         all_goals (all_goals (first | rfl | (rw [dY (by omega)]; done) | (rw [cU (by omega) (by omega) (by omega)]; done) | (rw [bn (by omega) (by omega)]; done) | (rw [bn (by omega) (by omega)]; exact i4.resolve_left (by omega))))
       · refine tt ⟨⟨by omega,oK⟩,tt ⟨rfl,⟨⟨⟨⟨rfl,⟨by omega,oK⟩,oK⟩,⟨rfl,⟨by omega,oK⟩,oK⟩,oK⟩,⟨⟨rfl,oK,oK⟩,⟨rfl,⟨by omega,oK⟩,oK⟩,oK⟩,⟨⟨rfl,⟨by omega,oK⟩,oK⟩,⟨rfl,oK,oK⟩,oK⟩,⟨⟨rfl,⟨by omega,oK⟩,oK⟩,⟨rfl,oK,oK⟩,oK⟩,⟨⟨rfl,oK,oK⟩,⟨rfl,oK,oK⟩,oK⟩,⟨⟨rfl,⟨by omega,oK⟩,oK⟩,oK⟩,⟨⟨rfl,oK,oK⟩,⟨rfl,oK,oK⟩,oK⟩,⟨⟨rfl,⟨by omega,oK⟩,oK⟩,oK⟩,⟨⟨rfl,oK,oK⟩,oK⟩,⟨⟨rfl,oK,oK⟩,oK⟩,⟨⟨rfl,oK,oK⟩,oK⟩,⟨⟨rfl,oK,oK⟩,oK⟩,⟨⟨rfl,oK,oK⟩,oK⟩,oK,oK⟩,tt ⟨⟨(congrArg _ (?_ : (((aA c s (aR c.chans z.name) z.words).1).procs) = (((ai c d s t z.name z.words).1).procs))),(congrArg _ (?_ : (((aA c s (aR c.chans z.name) z.words).1).chans) = (((ai c d s t z.name z.words).1).chans))),oK⟩,⟨(congrArg _ (?_ : (((aA d t (aR d.chans z.name) z.words).1).procs) = (((ai c d s t z.name z.words).2.1).procs))),(congrArg _ (?_ : (((aA d t (aR d.chans z.name) z.words).1).chans) = (((ai c d s t z.name z.words).2.1).chans))),oK⟩,?_,oK⟩⟩⟩⟩
         all_goals (all_goals (first | rfl | (rw [dY (by omega)]; done) | (rw [cU (by omega) (by omega) (by omega)]; done) | (rw [bn (by omega) (by omega)]; done) | (rw [bn (by omega) (by omega)]; exact i4.resolve_left (by omega))))
abbrev Lk (c d : Ci) (s t : Ns) (l : List ByteArray) : Ct := ⟨38,[(.agg (xu c)),(.agg [(dL 6 eu au d.procs),(dL 5 eB bi d.chans)]),(.agg (rq s)),(.agg (qG t)),(dL 1 er .empty l)],true,(.tup [(.agg [(dL 2 aV a7 ((bu c s l).procs)),(dL 1 ac [] ((bu c s l).chans))]),(.agg [(dL 2 aV a7 ((bu d t l).procs)),(dL 1 ac [] ((bu d t l).chans))])])⟩
theorem GR (c d : Ci) (s t : Ns) (l : List ByteArray) (hc : bC c) (hd : bC d) (hs : b8 c s) (ht : b8 d t) (hsm : gw s 1000000000) (htm : gw t 1000000000) (hl : l.length ≤ 1000000) : CC (Lk c d s t l) := by
 refine af.vc (V := TT 9 (CC (JL c s l)∧TT 3 (CC (JL d t l)∧TT 4 ((((bu c s l).procs).map aV = ((bu c s l).procs).map aV∧((bu c s l).chans).map ac = ((bu c s l).chans).map ac∧True)∧(((bu d t l).procs).map aV = ((bu d t l).procs).map aV∧((bu d t l).chans).map ac = ((bu d t l).chans).map ac∧True)∧True)))) (.w 1 [(3,(JL c s l).O),(7,(JL d t l).O)] <| .e) Tryz.func38 rfl rfl rfl (by kernel_rfl) ?_
 exact tt ⟨(BH c s l hc hs hsm hl),tt ⟨(BH d t l hd ht htm hl),tt ⟨⟨rfl,rfl,oK⟩,⟨rfl,rfl,oK⟩,oK⟩⟩⟩
end Go.Proofs.YtgmpoenfoacofaaGreat
