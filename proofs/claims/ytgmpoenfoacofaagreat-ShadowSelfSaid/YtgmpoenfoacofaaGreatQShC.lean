/-
  Package shadow: outputs, feeding, runs.
-/
import Derived.Test.YtgmpoenfoacofaaGreatQShB
namespace Go.Proofs.YtgmpoenfoacofaaGreat
open Go.RowKit
set_option linter.unusedVariables false
set_option linter.unusedSimpArgs false
abbrev Cr (c : Ci) (s : Ns) (z : Sm) (d : Ci) (t : Ns) : aA := (.var 134 [(dL 2 bf bw (((aW c s (bi c.chans z.name) z.words).1).procs)),(dL 1 ac [] (((aW c s (bi c.chans z.name) z.words).1).chans)),(dL 2 bf bw (((aW d t (bi d.chans z.name) z.words).1).procs)),(dL 1 ac [] (((aW d t (bi d.chans z.name) z.words).1).chans))])
abbrev kK (c : Ci) (s : Ns) (z : Sm) : List D := [(dL 2 bf bw (((aW c s (bi c.chans z.name) z.words).1).procs)),(dL 1 ac [] (((aW c s (bi c.chans z.name) z.words).1).chans))]
abbrev pL (d : Ci) (t : Ns) (z : Sm) : List D := [(dL 2 bf bw (((aW d t (bi d.chans z.name) z.words).1).procs)),(dL 1 ac [] (((aW d t (bi d.chans z.name) z.words).1).chans))]
abbrev xR (c : Ci) : List D := [(dL 6 eO av c.procs),(dL 5 eY ba c.chans)]
abbrev jE (c : Ci) : aA := (.var 38 (xR c))
abbrev kL (d : Ci) : aA := (.var 38 [(dL 6 eO av d.procs),(dL 5 eY ba d.chans)])
abbrev rO (s : Ns) : List D := [(dL 2 bf bw s.procs),(dL 1 ac [] s.chans)]
abbrev ra (t : Ns) : List D := [(dL 2 bf bw t.procs),(dL 1 ac [] t.chans)]
abbrev Cs (c d : Ci) : aA := (.var 133 [(dL 6 eO av c.procs),(dL 5 eY ba c.chans),(dL 6 eO av d.procs),(dL 5 eY ba d.chans)])
abbrev xS (c : Ci) (z : Sm) (d : Ci) : aA := (.var 135 [(i6 (bi c.chans z.name)),(i6 (bi d.chans z.name))])
abbrev pM (c d : Ci) (s t : Ns) (z : Sm) : List aA := [(jE c),(kL d),(.var 42 (rO s)),(.var 42 (ra t)),.dead,(.var 42 [.nils,.nils]),(.var 42 [.nils,.nils]),.dead,.dead,.dead,.dead,.dead,.dead,(Cs c d),(Cr c s z d t),.dead,(xS c z d),(jE c),(kL d),(jE c),.dead,.dead,.dead,.dead,.dead,.dead,.dead,.dead,.dead,.dead,.dead,.dead,.dead,(.var 42 (kK c s z)),.dead,.dead,(kL d),.dead,.dead,.dead,.dead,.dead,.dead,.dead,.dead,.dead,.dead,.dead,.dead,.dead,(.var 42 (pL d t z)),.dead,.dead]
abbrev Gb (c d : Ci) (s t : Ns) (z : Sm) : List aA := [(jE c),(kL d),(.var 42 (rO s)),(.var 42 (ra t)),.dead,(.var 42 (kK c s z)),(.var 42 [.nils,.nils]),.dead,.dead,.dead,.dead,.dead,.dead,(Cs c d),(Cr c s z d t),.dead,(xS c z d),(jE c),(kL d),(jE c),.dead,.dead,.dead,.dead,.dead,.dead,.dead,.dead,.dead,.dead,.dead,.dead,.dead,(.var 42 (kK c s z)),.dead,.dead,(kL d),.dead,.dead,.dead,.dead,.dead,.dead,.dead,.dead,.dead,.dead,.dead,.dead,.dead,(.var 42 (pL d t z)),.dead,.dead]
abbrev dJ : D := (.ptr 14 0 0 0)
abbrev Gc (c : Ci) (s : Ns) (z : Sm) (d : Ci) (t : Ns) : List (Nat × D) := [(10,(.ptr 5 0 0 0)),(11,(.ptr 6 0 0 0)),(14,dJ),(76,dJ),(77,(.agg (kK c s z))),(78,(.ptr 14 0 0 2)),(79,(.agg (pL d t z)))]
set_option maxRecDepth 100000
abbrev KG (l : List Int) : Ct := ⟨33,[(LI l)],true,(LI l)⟩
theorem AX (l : List Int) (h : l ≠ []) (hl : l.length ≤ 137438953472) : CC (KG l) := by
 refine ah.vc (V := TT 2 (l ≠ []∧an [] (([] : List Int).map (ae .i64))∧TT 1 ((([] : List Int).length + (l.map (ae .i64)).length ≤ 137438953472∧([] : List Int).map (ae .i64) ++ l.map (ae .i64) = l.map (ae .i64))∧TT 2 (l.map (ae .i64) = l.map (ae .i64))))) (.w 3 [(0,.box 3 1 (ae .i64) 0 ([] : List Int)),(2,.box 3 1 (ae .i64) 0 l)] <| .e) Tryz.func33 rfl rfl rfl (by kernel_rfl) ?_
 exact tt ⟨(by exact h),⟨oK,tt ⟨⟨by simp only [List.length_map,List.length_nil]; omega,by simp⟩,tt rfl⟩⟩⟩
abbrev KH : Ct := ⟨33,[.nils],true,(LI ([] : List Int))⟩
theorem AY  : CC KH := by
 refine ah.vc (V := TT 5 (([] : List Int) = [])) (.e) Tryz.func33 rfl rfl rfl (by kernel_rfl) ?_
 refine tt ?_
 rfl
abbrev KI : Ct := ⟨33,[(.v .esl)],true,(LI ([] : List Int))⟩
theorem AZ  : CC KI := by
 refine ah.vc (V := TT 3 (an [] (([] : List Int).map (ae .i64))∧TT 1 ((([] : List Int).length + (([] : List (List V))).length ≤ 137438953472∧([] : List Int).map (ae .i64) ++ ([] : List (List V)) = ([] : List Int).map (ae .i64))∧TT 2 (([] : List Int).map (ae .i64) = ([] : List Int).map (ae .i64))))) (.w 3 [(0,.box 3 1 (ae .i64) 0 ([] : List Int)),(2,.box 3 1 (ae .i64) 0 ([] : List Int))] <| .e) Tryz.func33 rfl rfl rfl (by kernel_rfl) ?_
 exact tt ⟨oK,tt ⟨⟨by simp,by simp⟩,tt rfl⟩⟩
abbrev Jx (l : List Int) : Ct := ⟨33,[(LI l)],true,(LI l)⟩
theorem DY (l : List Int) (hl : l.length ≤ 137438953472) : CC (Jx l) :=
  ah.nilcases (fun h => AX l h hl) (fun h => by subst h; exact AY) (fun h => by subst h; exact AZ)
abbrev xT (c : Ci) (s : Ns) : Ct := ⟨11,[(.agg (xR c)),(.agg (rO s))],true,(dL 2 mr b8 (aO c s))⟩
abbrev f8 (c : Ci) (s : Ns) : Lp (Nat × List Sm) := vX [3,5,9,10,11] 3 (fun (i : Nat) (o : List Sm) => ⟨[(3,(.ptr 1 0 0 0)),(5,(.own 2)),(9,(dL 5 eY ba c.chans)),(10,(i6 (c.chans.length : Int))),(11,(i6 (i : Int)))],[(jE c),(.var 42 (rO s)),(.arr 30 2 mr b8 o)]⟩) (fun (i : Nat) (o : List Sm) => i ≤ c.chans.length∧o = qZ c s i) (fun (i : Nat) (o : List Sm) => c.chans.length - i)
theorem db (c : Ci) (s : Ns) (hc : a8 c) (hs : bG c s) (hsm : ir s 4294967296) : CC (xT c s) := by
 have hnl := hc.nl
 have hcl := hc.cl
 have hl2 := hs.cl
 refine ah.vc (V := TT 8 (GO (f8 c s) (0,([] : List Sm)) (∀ i o,(f8 c s).inv (i,o) → TT 1 (CD ((i : Int) < (c.chans.length : Int)) (TT 1 (IX (i : Int) c.chans.length∧TT 7 (CD (((c.chans.getD i ba).dst) = (-1)) (TT 6 (IX (i : Int) s.chans.length∧TT 1 (CC (Jx (s.chans.getD i []))∧TT 1 (an [[(dS ((c.chans.getD i ba).name)),(LI (s.chans.getD i []))]] ([(⟨(c.chans.getD i ba).name,(s.chans.getD i [])⟩ : Sm)].map mr)∧(o.length + ([(⟨(c.chans.getD i ba).name,(s.chans.getD i [])⟩ : Sm)].map mr).length ≤ 137438953472∧o.map mr ++ [(⟨(c.chans.getD i ba).name,(s.chans.getD i [])⟩ : Sm)].map mr = (o ++ [(⟨(c.chans.getD i ba).name,(s.chans.getD i [])⟩ : Sm)]).map mr)∧TT 1 (W6 ((i + 1 : Nat) : Int)∧TT 1 (AG (f8 c s) (i,o) (i + 1,o ++ [(⟨(c.chans.getD i ba).name,(s.chans.getD i [])⟩ : Sm)]))))))) (W6 ((i + 1 : Nat) : Int)∧TT 1 (AG (f8 c s) (i,o) (i + 1,o)))))) (TT 3 (o.map mr = (aO c s).map mr)))))) (.gs 2 5 30 2 mr b8 <| .l (f8 c s) (0,([] : List Sm)) (fun ⟨i,o⟩ => .b 12 (.b 18 (.w 6 [(8,(Jx (s.chans.getD i [])).O),(10,.box 30 2 mr b8 [(⟨(c.chans.getD i ba).name,(s.chans.getD i [])⟩ : Sm)]),(11,.box 30 2 mr b8 (o ++ [(⟨(c.chans.getD i ba).name,(s.chans.getD i [])⟩ : Sm)]))] <| .w 7 [(0,.val (i6 ((i + 1 : Nat) : Int)))] <| .e) (.w 7 [(0,.val (i6 ((i + 1 : Nat) : Int)))] <| .e)) (.e))) Tryz.func11 rfl rfl rfl (by kernel_rfl) ?_
 refine tt ⟨rfl,⟨by omega,rfl⟩,?_⟩
 intro i o hinv
 obtain ⟨hi,ho⟩ := hinv
 refine tt (cd (fun hc12 => ?_) (fun hc12 => ?_))
 · refine tt ⟨ix,tt (cd (fun hc18 => ?_) (fun hc18 => ?_))⟩
   · have hwl : (s.chans.getD i []).length ≤ 4294967296 := hsm i
     refine tt ⟨ix,tt ⟨(DY (s.chans.getD i []) (by omega)),tt ⟨⟨⟨rfl,rfl,oK⟩,oK⟩,⟨⟨by simp only [List.length_map,List.length_cons,List.length_nil]; have := uq (c := c) (s := s) i; rw [ho]; omega,by simp only [List.map_append,List.map_nil,List.append_nil]⟩,tt ⟨w6,tt ⟨(i + 1,o ++ [(⟨(c.chans.getD i ba).name,(s.chans.getD i [])⟩ : Sm)]),rfl,?_,(?_ : c.chans.length - (i + 1) < c.chans.length - i)⟩⟩⟩⟩⟩⟩
     · exact ⟨by omega,by rw [ho]; first | exact (Cj hc18).symm | exact (F2 hc18).symm⟩
     · omega
   · refine ⟨w6,tt ⟨(i + 1,o),rfl,?_,(?_ : c.chans.length - (i + 1) < c.chans.length - i)⟩⟩
     · exact ⟨by omega,by rw [ho]; first | exact (Cj hc18).symm | exact (F2 hc18).symm⟩
     · omega
 · refine tt (congrArg _ (?_ : o = (aO c s)))
   rw [ho,show i = c.chans.length by omega]; rfl
abbrev L8 (c d : Ci) (s t : Ns) (z : Sm) : Ct := ⟨35,[(.agg (xR c)),(.agg [(dL 6 eO av d.procs),(dL 5 eY ba d.chans)]),(.agg (rO s)),(.agg (ra t)),(.agg [(dS z.name),(LI z.words)])],true,(.tup [(.agg [(dL 2 bf bw (((aB c d s t z.name z.words).1).procs)),(dL 1 ac [] (((aB c d s t z.name z.words).1).chans))]),(.agg [(dL 2 bf bw (((aB c d s t z.name z.words).2.1).procs)),(dL 1 ac [] (((aB c d s t z.name z.words).2.1).chans))]),(i6 ((aB c d s t z.name z.words).2.2))])⟩
def nZ (c : Ci) (d : Ci) (s : Ns) (t : Ns) (z : Sm) : St := ⟨[(10,(.ptr 5 0 0 0)),(11,(.ptr 6 0 0 0)),(14,dJ)],(pM c d s t z)⟩
def uu (c : Ci) (d : Ci) (s : Ns) (t : Ns) (z : Sm) : St := ⟨[(10,(.ptr 5 0 0 0)),(11,(.ptr 6 0 0 0)),(14,dJ),(76,dJ)],(pM c d s t z)⟩
def uv (c : Ci) (d : Ci) (s : Ns) (t : Ns) (z : Sm) : St := ⟨[(10,(.ptr 5 0 0 0)),(11,(.ptr 6 0 0 0)),(14,dJ),(78,(.ptr 14 0 0 2))],(pM c d s t z)⟩
def uw (c : Ci) (d : Ci) (s : Ns) (t : Ns) (z : Sm) : St := ⟨[(10,(.ptr 5 0 0 0)),(11,(.ptr 6 0 0 0)),(14,dJ),(76,dJ),(77,(.agg (kK c s z)))],(pM c d s t z)⟩
def n9 (c : Ci) (d : Ci) (s : Ns) (t : Ns) (z : Sm) : St := ⟨[(10,(.ptr 5 0 0 0)),(11,(.ptr 6 0 0 0)),(14,dJ),(76,dJ),(78,(.ptr 14 0 0 2))],(pM c d s t z)⟩
def uz (c : Ci) (d : Ci) (s : Ns) (t : Ns) (z : Sm) : St := ⟨[(10,(.ptr 5 0 0 0)),(11,(.ptr 6 0 0 0)),(14,dJ),(78,(.ptr 14 0 0 2)),(79,(.agg (pL d t z)))],(pM c d s t z)⟩
def oa (c : Ci) (d : Ci) (s : Ns) (t : Ns) (z : Sm) : St := ⟨[(10,(.ptr 5 0 0 0)),(11,(.ptr 6 0 0 0)),(14,dJ),(76,dJ),(77,(.agg (kK c s z))),(78,(.ptr 14 0 0 2))],(pM c d s t z)⟩
def uA (c : Ci) (d : Ci) (s : Ns) (t : Ns) (z : Sm) : St := ⟨[(10,(.ptr 5 0 0 0)),(11,(.ptr 6 0 0 0)),(14,dJ),(76,dJ),(77,(.agg (kK c s z)))],(Gb c d s t z)⟩
def ob (c : Ci) (d : Ci) (s : Ns) (t : Ns) (z : Sm) : St := ⟨[(10,(.ptr 5 0 0 0)),(11,(.ptr 6 0 0 0)),(14,dJ),(76,dJ),(78,(.ptr 14 0 0 2)),(79,(.agg (pL d t z)))],(pM c d s t z)⟩
def oc (c : Ci) (d : Ci) (s : Ns) (t : Ns) (z : Sm) : St := ⟨(Gc c s z d t),(pM c d s t z)⟩
def lC (c : Ci) (d : Ci) (s : Ns) (t : Ns) (z : Sm) : St := ⟨[(10,(.ptr 5 0 0 0)),(11,(.ptr 6 0 0 0)),(14,dJ),(76,dJ),(77,(.agg (kK c s z))),(78,(.ptr 14 0 0 2))],(Gb c d s t z)⟩
def lD (c : Ci) (d : Ci) (s : Ns) (t : Ns) (z : Sm) : St := ⟨(Gc c s z d t),(Gb c d s t z)⟩
def rP (c : Ci) (d : Ci) (s : Ns) (t : Ns) (z : Sm) : St := ⟨(Gc c s z d t),[(jE c),(kL d),(.var 42 (rO s)),(.var 42 (ra t)),.dead,(.var 42 (kK c s z)),(.var 42 (pL d t z)),.dead,.dead,.dead,.dead,.dead,.dead,(Cs c d),(Cr c s z d t),.dead,(xS c z d),(jE c),(kL d),(jE c),.dead,.dead,.dead,.dead,.dead,.dead,.dead,.dead,.dead,.dead,.dead,.dead,.dead,(.var 42 (kK c s z)),.dead,.dead,(kL d),.dead,.dead,.dead,.dead,.dead,.dead,.dead,.dead,.dead,.dead,.dead,.dead,.dead,(.var 42 (pL d t z)),.dead,.dead]⟩
def rQ (c : Ci) (d : Ci) (s : Ns) (t : Ns) (z : Sm) : St := ⟨[(10,(.ptr 5 0 0 0)),(11,(.ptr 6 0 0 0)),(12,(i6 0))],[(jE c),(kL d),(.var 42 (rO s)),(.var 42 (ra t)),.dead,(.var 42 (kK c s z)),(.var 42 (pL d t z)),.dead,.dead,.dead,.dead,.dead,.dead,(Cs c d),(Cr c s z d t),.dead,(xS c z d),(jE c),(kL d),(jE c),.dead,.dead,.dead,.dead,.dead,.dead,.dead,.dead,.dead,.dead,.dead,.dead,.dead,(.var 42 (kK c s z)),.dead,.dead,(kL d),.dead,.dead,.dead,.dead,.dead,.dead,.dead,.dead,.dead,.dead,.dead,.dead,.dead,(.var 42 (pL d t z)),.dead,.dead]⟩
theorem Gd (c d : Ci) (s t : Ns) (z : Sm) (hc : a8 c) (hd : a8 d) (hs : bG c s) (ht : bG d t) (hsm : ir s 4294967296) (htm : ir t 4294967296) (hw : z.words.length ≤ 4294967296) : CC (L8 c d s t z) := by
 have hnl := hc.nl
 have hcl := hc.cl
 have hl2 := hs.cl
 have hdl := hd.cl
 have hl3 := ht.cl
 refine ah.vc (V := TT 23 (((0 ≤ (0 : Int)∧0 < (2 : Int))∧True)∧TT 7 (CC (F8 c.chans z)∧TT 3 (((0 ≤ (0 : Int)∧0 < (2 : Int))∧True)∧TT 2 (((0 ≤ (0 : Int)∧0 < (2 : Int))∧True)∧TT 2 (CD ((bi c.chans z.name) < 0) (TT 8 (((((aB c d s t z.name z.words).1).procs) = []∧(((aB c d s t z.name z.words).1).chans) = []∧True)∧((((aB c d s t z.name z.words).2.1).procs) = []∧(((aB c d s t z.name z.words).2.1).chans) = []∧True)∧(4 : Int) = ((aB c d s t z.name z.words).2.2)∧True)) (TT 4 (((0 ≤ (1 : Int)∧1 < (2 : Int))∧True)∧TT 7 (CC (F8 d.chans z)∧TT 3 (((0 ≤ (1 : Int)∧1 < (2 : Int))∧True)∧TT 2 (((0 ≤ (1 : Int)∧1 < (2 : Int))∧True)∧TT 2 (CD ((bi d.chans z.name) < 0) (TT 8 (((((aB c d s t z.name z.words).1).procs) = []∧(((aB c d s t z.name z.words).1).chans) = []∧True)∧((((aB c d s t z.name z.words).2.1).procs) = []∧(((aB c d s t z.name z.words).2.1).chans) = []∧True)∧(4 : Int) = ((aB c d s t z.name z.words).2.2)∧True)) (TT 7 (((0 ≤ (0 : Int)∧0 < (2 : Int))∧True)∧TT 5 (((0 ≤ (0 : Int)∧0 < (2 : Int))∧True)∧TT 2 (((0 ≤ (0 : Int)∧0 < (2 : Int))∧True)∧TT 3 (CC (KC c s (bi c.chans z.name) z.words)∧TT 8 (CN (((aW c s (bi c.chans z.name) z.words).2) = 0) (TT 9 (((((aB c d s t z.name z.words).1).procs) = []∧(((aB c d s t z.name z.words).1).chans) = []∧True)∧((((aB c d s t z.name z.words).2.1).procs) = []∧(((aB c d s t z.name z.words).2.1).chans) = []∧True)∧((aW c s (bi c.chans z.name) z.words).2) = ((aB c d s t z.name z.words).2.2)∧True)) (TT 2 (((0 ≤ (0 : Int)∧0 < (2 : Int))∧True)∧TT 5 (((0 ≤ (1 : Int)∧1 < (2 : Int))∧True)∧TT 5 (((0 ≤ (1 : Int)∧1 < (2 : Int))∧True)∧TT 2 (((0 ≤ (1 : Int)∧1 < (2 : Int))∧True)∧TT 3 (CC (KC d t (bi d.chans z.name) z.words)∧TT 8 (CN (((aW d t (bi d.chans z.name) z.words).2) = 0) (TT 9 (((((aB c d s t z.name z.words).1).procs) = []∧(((aB c d s t z.name z.words).1).chans) = []∧True)∧((((aB c d s t z.name z.words).2.1).procs) = []∧(((aB c d s t z.name z.words).2.1).chans) = []∧True)∧((aW d t (bi d.chans z.name) z.words).2) = ((aB c d s t z.name z.words).2.2)∧True)) (TT 2 (((0 ≤ (1 : Int)∧1 < (2 : Int))∧True)∧TT 4 ((nZ c d s t z) = (nZ c d s t z)∧(((sE (uu c d s t z) ((0 ≤ (0 : Int)∧0 < (2 : Int))∧True))∧(sE (uv c d s t z) ((0 ≤ (1 : Int)∧1 < (2 : Int))∧True))∧True)∧((sE (uw c d s t z) (True))∧(sE (n9 c d s t z) ((0 ≤ (1 : Int)∧1 < (2 : Int))∧True))∧True)∧((sE (n9 c d s t z) ((0 ≤ (0 : Int)∧0 < (2 : Int))∧True))∧(sE (uz c d s t z) (True))∧True)∧((sE (oa c d s t z) ((0 ≤ (1 : Int)∧1 < (2 : Int))∧True))∧(sE (uA c d s t z) (True))∧True)∧((sE (oa c d s t z) (True))∧(sE (ob c d s t z) (True))∧True)∧((sE (ob c d s t z) ((0 ≤ (0 : Int)∧0 < (2 : Int))∧True))∧True)∧((sE (oc c d s t z) (True))∧(sE (lC c d s t z) (True))∧True)∧((sE (lC c d s t z) ((0 ≤ (1 : Int)∧1 < (2 : Int))∧True))∧True)∧((sE (oc c d s t z) (True))∧True)∧((sE (lD c d s t z) (True))∧True)∧((sE (lD c d s t z) (True))∧True)∧((sE (rP c d s t z) (True))∧True)∧((sE (rQ c d s t z) (True))∧True)∧True∧True)∧TT 3 (((((aW c s (bi c.chans z.name) z.words).1).procs).map bf = (((aB c d s t z.name z.words).1).procs).map bf∧(((aW c s (bi c.chans z.name) z.words).1).chans).map ac = (((aB c d s t z.name z.words).1).chans).map ac∧True)∧((((aW d t (bi d.chans z.name) z.words).1).procs).map bf = (((aB c d s t z.name z.words).2.1).procs).map bf∧(((aW d t (bi d.chans z.name) z.words).1).chans).map ac = (((aB c d s t z.name z.words).2.1).chans).map ac∧True)∧(0 : Int) = ((aB c d s t z.name z.words).2.2)∧True))))))))))))))))))))))))))))) (.f 1 4 <| .w 1 [(8,.val .junk)] <| .r 3 (.w 6 [(4,(F8 c.chans z).O)] <| .b 45 (.e) (.w 6 [(4,(F8 d.chans z).O)] <| .b 45 (.e) (.r 3 (.w 13 [(9,(KC c s (bi c.chans z.name) z.words).O),(14,.val .junk)] <| .b 68 (.e) (.w 13 [(9,(KC d t (bi d.chans z.name) z.words).O),(14,.val .junk)] <| .b 68 (.e) (.y 18 [] [((bm 7 0),(nZ c d s t z)),((bm 7 1),(uu c d s t z)),((bm 7 4),(uv c d s t z)),((bm 7 3),(uw c d s t z)),((bm 7 5),(n9 c d s t z)),((bm 7 12),(uz c d s t z)),((bm 7 7),(oa c d s t z)),((bm 7 19),(uA c d s t z)),((bm 7 13),(ob c d s t z)),((bm 7 15),(oc c d s t z)),((bm 7 23),(lC c d s t z)),((bm 7 31),(lD c d s t z)),((bm 7 63),(rP c d s t z)),((bm 7 127),(rQ c d s t z))] <| .e))))))) Tryz.func35 rfl rfl rfl (by kernel_rfl) ?_
 refine tt ⟨⟨by omega,oK⟩,tt ⟨(Cp c.chans z (by omega)),tt ⟨⟨by omega,oK⟩,tt ⟨⟨by omega,oK⟩,tt (cd (fun hc45 => ?_) (fun hc45 => ?_))⟩⟩⟩⟩
 · refine tt ⟨⟨?_,?_,oK⟩,⟨?_,?_,oK⟩,?_,oK⟩
   all_goals (all_goals (first | rfl | (rw [jD (by omega)]; done) | (rw [fB (by omega) (by omega) (by omega)]; done) | (rw [dq (by omega) (by omega)]; done) | (rw [dq (by omega) (by omega)]; exact ut.resolve_left (by omega))))
 · refine tt ⟨⟨by omega,oK⟩,tt ⟨(Cp d.chans z (by omega)),tt ⟨⟨by omega,oK⟩,tt ⟨⟨by omega,oK⟩,tt (cd (fun hc45 => ?_) (fun hc45 => ?_))⟩⟩⟩⟩
   · refine tt ⟨⟨?_,?_,oK⟩,⟨?_,?_,oK⟩,?_,oK⟩
     all_goals (all_goals (first | rfl | (rw [jD (by omega)]; done) | (rw [fB (by omega) (by omega) (by omega)]; done) | (rw [dq (by omega) (by omega)]; done) | (rw [dq (by omega) (by omega)]; exact ut.resolve_left (by omega))))
   · refine tt ⟨⟨by omega,oK⟩,tt ⟨⟨by omega,oK⟩,tt ⟨⟨by omega,oK⟩,tt ⟨(zm c s (bi c.chans z.name) z.words hc hs hsm hw),tt (cn (fun hc68 => ?_) (fun hc68 => ?_))⟩⟩⟩⟩
     · refine tt ⟨⟨?_,?_,oK⟩,⟨?_,?_,oK⟩,?_,oK⟩
       all_goals (all_goals (first | rfl | (rw [jD (by omega)]; done) | (rw [fB (by omega) (by omega) (by omega)]; done) | (rw [dq (by omega) (by omega)]; done) | (rw [dq (by omega) (by omega)]; exact ut.resolve_left (by omega))))
     · refine tt ⟨⟨by omega,oK⟩,tt ⟨⟨by omega,oK⟩,tt ⟨⟨by omega,oK⟩,tt ⟨⟨by omega,oK⟩,tt ⟨(zm d t (bi d.chans z.name) z.words hd ht htm hw),tt (cn (fun hc68 => ?_) (fun hc68 => ?_))⟩⟩⟩⟩⟩
       · refine tt ⟨⟨?_,?_,oK⟩,⟨?_,?_,oK⟩,?_,oK⟩
         all_goals (all_goals (first | rfl | (rw [jD (by omega)]; done) | (rw [fB (by omega) (by omega) (by omega)]; done) | (rw [dq (by omega) (by omega)]; done) | (rw [dq (by omega) (by omega)]; exact ut.resolve_left (by omega))))
       · refine tt ⟨⟨by omega,oK⟩,tt ⟨rfl,⟨⟨⟨⟨rfl,⟨by omega,oK⟩,oK⟩,⟨rfl,⟨by omega,oK⟩,oK⟩,oK⟩,⟨⟨rfl,oK,oK⟩,⟨rfl,⟨by omega,oK⟩,oK⟩,oK⟩,⟨⟨rfl,⟨by omega,oK⟩,oK⟩,⟨rfl,oK,oK⟩,oK⟩,⟨⟨rfl,⟨by omega,oK⟩,oK⟩,⟨rfl,oK,oK⟩,oK⟩,⟨⟨rfl,oK,oK⟩,⟨rfl,oK,oK⟩,oK⟩,⟨⟨rfl,⟨by omega,oK⟩,oK⟩,oK⟩,⟨⟨rfl,oK,oK⟩,⟨rfl,oK,oK⟩,oK⟩,⟨⟨rfl,⟨by omega,oK⟩,oK⟩,oK⟩,⟨⟨rfl,oK,oK⟩,oK⟩,⟨⟨rfl,oK,oK⟩,oK⟩,⟨⟨rfl,oK,oK⟩,oK⟩,⟨⟨rfl,oK,oK⟩,oK⟩,⟨⟨rfl,oK,oK⟩,oK⟩,oK,oK⟩,tt ⟨⟨(congrArg _ (?_ : (((aW c s (bi c.chans z.name) z.words).1).procs) = (((aB c d s t z.name z.words).1).procs))),(congrArg _ (?_ : (((aW c s (bi c.chans z.name) z.words).1).chans) = (((aB c d s t z.name z.words).1).chans))),oK⟩,⟨(congrArg _ (?_ : (((aW d t (bi d.chans z.name) z.words).1).procs) = (((aB c d s t z.name z.words).2.1).procs))),(congrArg _ (?_ : (((aW d t (bi d.chans z.name) z.words).1).chans) = (((aB c d s t z.name z.words).2.1).chans))),oK⟩,?_,oK⟩⟩⟩⟩
         all_goals (all_goals (first | rfl | (rw [jD (by omega)]; done) | (rw [fB (by omega) (by omega) (by omega)]; done) | (rw [dq (by omega) (by omega)]; done) | (rw [dq (by omega) (by omega)]; exact ut.resolve_left (by omega))))
abbrev L9 (c d : Ci) (s t : Ns) (l : List ByteArray) : Ct := ⟨38,[(.agg (xR c)),(.agg [(dL 6 eO av d.procs),(dL 5 eY ba d.chans)]),(.agg (rO s)),(.agg (ra t)),(dL 1 dj .empty l)],true,(.tup [(.agg [(dL 2 bf bw ((aq c s l).procs)),(dL 1 ac [] ((aq c s l).chans))]),(.agg [(dL 2 bf bw ((aq d t l).procs)),(dL 1 ac [] ((aq d t l).chans))])])⟩
theorem HF (c d : Ci) (s t : Ns) (l : List ByteArray) (hc : a8 c) (hd : a8 d) (hs : bG c s) (ht : bG d t) (hsm : ir s 1000000000) (htm : ir t 1000000000) (hl : l.length ≤ 1000000) : CC (L9 c d s t l) := by
 refine ah.vc (V := TT 9 (CC (KB c s l)∧TT 3 (CC (KB d t l)∧TT 4 ((((aq c s l).procs).map bf = ((aq c s l).procs).map bf∧((aq c s l).chans).map ac = ((aq c s l).chans).map ac∧True)∧(((aq d t l).procs).map bf = ((aq d t l).procs).map bf∧((aq d t l).chans).map ac = ((aq d t l).chans).map ac∧True)∧True)))) (.w 1 [(3,(KB c s l).O),(7,(KB d t l).O)] <| .e) Tryz.func38 rfl rfl rfl (by kernel_rfl) ?_
 exact tt ⟨(Cg c s l hc hs hsm hl),tt ⟨(Cg d t l hd ht htm hl),tt ⟨⟨rfl,rfl,oK⟩,⟨rfl,rfl,oK⟩,oK⟩⟩⟩
end Go.Proofs.YtgmpoenfoacofaaGreat
