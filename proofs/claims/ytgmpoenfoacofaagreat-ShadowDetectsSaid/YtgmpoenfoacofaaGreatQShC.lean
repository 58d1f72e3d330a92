/-
  Package shadow: outputs, feeding, runs.
-/
import Derived.Test.YtgmpoenfoacofaaGreatQShB
namespace Go.Proofs.YtgmpoenfoacofaaGreat
open Go.RowKit
set_option linter.unusedVariables false
set_option linter.unusedSimpArgs false
abbrev y8 (c : Ci) (s : Ns) (z : Sm) (d : Ci) (t : Ns) : au := (.var 134 [(dL 2 bA b4 (((aU c s (bg c.chans z.name) z.words).1).procs)),(dL 1 ac [] (((aU c s (bg c.chans z.name) z.words).1).chans)),(dL 2 bA b4 (((aU d t (bg d.chans z.name) z.words).1).procs)),(dL 1 ac [] (((aU d t (bg d.chans z.name) z.words).1).chans))])
abbrev ju (c : Ci) (s : Ns) (z : Sm) : List D := [(dL 2 bA b4 (((aU c s (bg c.chans z.name) z.words).1).procs)),(dL 1 ac [] (((aU c s (bg c.chans z.name) z.words).1).chans))]
abbrev nn (d : Ci) (t : Ns) (z : Sm) : List D := [(dL 2 bA b4 (((aU d t (bg d.chans z.name) z.words).1).procs)),(dL 1 ac [] (((aU d t (bg d.chans z.name) z.words).1).chans))]
abbrev uY (c : Ci) : List D := [(dL 6 c9 aB c.procs),(dL 5 d7 be c.chans)]
abbrev iA (c : Ci) : au := (.var 38 (uY c))
abbrev jv (d : Ci) : au := (.var 38 [(dL 6 c9 aB d.procs),(dL 5 d7 be d.chans)])
abbrev pH (s : Ns) : List D := [(dL 2 bA b4 s.procs),(dL 1 ac [] s.chans)]
abbrev oW (t : Ns) : List D := [(dL 2 bA b4 t.procs),(dL 1 ac [] t.chans)]
abbrev y9 (c d : Ci) : au := (.var 133 [(dL 6 c9 aB c.procs),(dL 5 d7 be c.chans),(dL 6 c9 aB d.procs),(dL 5 d7 be d.chans)])
abbrev uZ (c : Ci) (z : Sm) (d : Ci) : au := (.var 135 [(i6 (bg c.chans z.name)),(i6 (bg d.chans z.name))])
abbrev np (c d : Ci) (s t : Ns) (z : Sm) : List au := [(iA c),(jv d),(.var 42 (pH s)),(.var 42 (oW t)),.dead,(.var 42 [.nils,.nils]),(.var 42 [.nils,.nils]),.dead,.dead,.dead,.dead,.dead,.dead,(y9 c d),(y8 c s z d t),.dead,(uZ c z d),(iA c),(jv d),(iA c),.dead,.dead,.dead,.dead,.dead,.dead,.dead,.dead,.dead,.dead,.dead,.dead,.dead,(.var 42 (ju c s z)),.dead,.dead,(jv d),.dead,.dead,.dead,.dead,.dead,.dead,.dead,.dead,.dead,.dead,.dead,.dead,.dead,(.var 42 (nn d t z)),.dead,.dead]
abbrev Cw (c d : Ci) (s t : Ns) (z : Sm) : List au := [(iA c),(jv d),(.var 42 (pH s)),(.var 42 (oW t)),.dead,(.var 42 (ju c s z)),(.var 42 [.nils,.nils]),.dead,.dead,.dead,.dead,.dead,.dead,(y9 c d),(y8 c s z d t),.dead,(uZ c z d),(iA c),(jv d),(iA c),.dead,.dead,.dead,.dead,.dead,.dead,.dead,.dead,.dead,.dead,.dead,.dead,.dead,(.var 42 (ju c s z)),.dead,.dead,(jv d),.dead,.dead,.dead,.dead,.dead,.dead,.dead,.dead,.dead,.dead,.dead,.dead,.dead,(.var 42 (nn d t z)),.dead,.dead]
abbrev cK : D := (.ptr 14 0 0 0)
abbrev Cx (c : Ci) (s : Ns) (z : Sm) (d : Ci) (t : Ns) : List (Nat × D) := [(10,(.ptr 5 0 0 0)),(11,(.ptr 6 0 0 0)),(14,cK),(76,cK),(77,(.agg (ju c s z))),(78,(.ptr 14 0 0 2)),(79,(.agg (nn d t z)))]
set_option maxRecDepth 100000
abbrev Hj (l : List Int) : Ct := ⟨33,[(LI l)],true,(LI l)⟩
theorem xQ (l : List Int) (h : l ≠ []) (hl : l.length ≤ 137438953472) : CC (Hj l) := by
 refine af.vc (V := TT 2 (l ≠ []∧an [] (([] : List Int).map (ah .i64))∧TT 1 ((([] : List Int).length + (l.map (ah .i64)).length ≤ 137438953472∧([] : List Int).map (ah .i64) ++ l.map (ah .i64) = l.map (ah .i64))∧TT 2 (l.map (ah .i64) = l.map (ah .i64))))) (.w 3 [(0,.box 3 1 (ah .i64) 0 ([] : List Int)),(2,.box 3 1 (ah .i64) 0 l)] <| .e) Tryz.func33 rfl rfl rfl (by kernel_rfl) ?_
 exact tt ⟨(by exact h),⟨oK,tt ⟨⟨by simp only [List.length_map,List.length_nil]; omega,by simp⟩,tt rfl⟩⟩⟩
abbrev Hk : Ct := ⟨33,[.nils],true,(LI ([] : List Int))⟩
theorem xR  : CC Hk := by
 refine af.vc (V := TT 5 (([] : List Int) = [])) (.e) Tryz.func33 rfl rfl rfl (by kernel_rfl) ?_
 refine tt ?_
 rfl
abbrev Hl : Ct := ⟨33,[(.v .esl)],true,(LI ([] : List Int))⟩
theorem xS  : CC Hl := by
 refine af.vc (V := TT 3 (an [] (([] : List Int).map (ah .i64))∧TT 1 ((([] : List Int).length + (([] : List (List V))).length ≤ 137438953472∧([] : List Int).map (ah .i64) ++ ([] : List (List V)) = ([] : List Int).map (ah .i64))∧TT 2 (([] : List Int).map (ah .i64) = ([] : List Int).map (ah .i64))))) (.w 3 [(0,.box 3 1 (ah .i64) 0 ([] : List Int)),(2,.box 3 1 (ah .i64) 0 ([] : List Int))] <| .e) Tryz.func33 rfl rfl rfl (by kernel_rfl) ?_
 exact tt ⟨oK,tt ⟨⟨by simp,by simp⟩,tt rfl⟩⟩
abbrev F6 (l : List Int) : Ct := ⟨33,[(LI l)],true,(LI l)⟩
theorem Ap (l : List Int) (hl : l.length ≤ 137438953472) : CC (F6 l) :=
  af.nilcases (fun h => xQ l h hl) (fun h => by subst h; exact xR) (fun h => by subst h; exact xS)
abbrev F7 (c : Ci) (s : Ns) : Ct := ⟨11,[(.agg (uY c)),(.agg (pH s))],true,(dL 2 kN bP (cU c s))⟩
abbrev e9 (c : Ci) (s : Ns) : Lp (Nat × List Sm) := Bi [3,5,9,10,11] 3 (fun (i : Nat) (o : List Sm) => ⟨[(3,(.ptr 1 0 0 0)),(5,(.own 2)),(9,(dL 5 d7 be c.chans)),(10,(i6 (c.chans.length : Int))),(11,(i6 (i : Int)))],[(iA c),(.var 42 (pH s)),(.arr 30 2 kN bP o)]⟩) (fun (i : Nat) (o : List Sm) => i ≤ c.chans.length∧o = jA c s i) (fun (i : Nat) (o : List Sm) => c.chans.length - i)
theorem kd (c : Ci) (s : Ns) (hc : b5 c) (hs : cT c s) (hsm : l5 s 4294967296) : CC (F7 c s) := by
 have hnl := hc.nl
 have hcl := hc.cl
 have hl2 := hs.cl
 refine af.vc (V := TT 8 (GO (e9 c s) (0,([] : List Sm)) (∀ i o,(e9 c s).inv (i,o) → TT 1 (CD ((i : Int) < (c.chans.length : Int)) (TT 1 (IX (i : Int) c.chans.length∧TT 7 (CD (((c.chans.getD i be).dst) = (-1)) (TT 6 (IX (i : Int) s.chans.length∧TT 1 (CC (F6 (s.chans.getD i []))∧TT 1 (an [[(dS ((c.chans.getD i be).name)),(LI (s.chans.getD i []))]] ([(⟨(c.chans.getD i be).name,(s.chans.getD i [])⟩ : Sm)].map kN)∧(o.length + ([(⟨(c.chans.getD i be).name,(s.chans.getD i [])⟩ : Sm)].map kN).length ≤ 137438953472∧o.map kN ++ [(⟨(c.chans.getD i be).name,(s.chans.getD i [])⟩ : Sm)].map kN = (o ++ [(⟨(c.chans.getD i be).name,(s.chans.getD i [])⟩ : Sm)]).map kN)∧TT 1 (W6 ((i + 1 : Nat) : Int)∧TT 1 (AG (e9 c s) (i,o) (i + 1,o ++ [(⟨(c.chans.getD i be).name,(s.chans.getD i [])⟩ : Sm)]))))))) (W6 ((i + 1 : Nat) : Int)∧TT 1 (AG (e9 c s) (i,o) (i + 1,o)))))) (TT 3 (o.map kN = (cU c s).map kN)))))) (.gs 2 5 30 2 kN bP <| .l (e9 c s) (0,([] : List Sm)) (fun ⟨i,o⟩ => .b 12 (.b 18 (.w 6 [(8,(F6 (s.chans.getD i [])).O),(10,.box 30 2 kN bP [(⟨(c.chans.getD i be).name,(s.chans.getD i [])⟩ : Sm)]),(11,.box 30 2 kN bP (o ++ [(⟨(c.chans.getD i be).name,(s.chans.getD i [])⟩ : Sm)]))] <| .w 7 [(0,.val (i6 ((i + 1 : Nat) : Int)))] <| .e) (.w 7 [(0,.val (i6 ((i + 1 : Nat) : Int)))] <| .e)) (.e))) Tryz.func11 rfl rfl rfl (by kernel_rfl) ?_
 refine tt ⟨rfl,⟨by omega,rfl⟩,?_⟩
 intro i o hinv
 obtain ⟨hi,ho⟩ := hinv
 refine tt (cd (fun hc12 => ?_) (fun hc12 => ?_))
 · refine tt ⟨ix,tt (cd (fun hc18 => ?_) (fun hc18 => ?_))⟩
   · have hwl : (s.chans.getD i []).length ≤ 4294967296 := hsm i
     refine tt ⟨ix,tt ⟨(Ap (s.chans.getD i []) (by omega)),tt ⟨⟨⟨rfl,rfl,oK⟩,oK⟩,⟨⟨by simp only [List.length_map,List.length_cons,List.length_nil]; have := rK (c := c) (s := s) i; rw [ho]; omega,by simp only [List.map_append,List.map_nil,List.append_nil]⟩,tt ⟨w6,tt ⟨(i + 1,o ++ [(⟨(c.chans.getD i be).name,(s.chans.getD i [])⟩ : Sm)]),rfl,?_,(?_ : c.chans.length - (i + 1) < c.chans.length - i)⟩⟩⟩⟩⟩⟩
     · exact ⟨by omega,by rw [ho]; first | exact (uU hc18).symm | exact (xO hc18).symm⟩
     · omega
   · refine ⟨w6,tt ⟨(i + 1,o),rfl,?_,(?_ : c.chans.length - (i + 1) < c.chans.length - i)⟩⟩
     · exact ⟨by omega,by rw [ho]; first | exact (uU hc18).symm | exact (xO hc18).symm⟩
     · omega
 · refine tt (congrArg _ (?_ : o = (cU c s)))
   rw [ho,show i = c.chans.length by omega]; rfl
abbrev IE (c d : Ci) (s t : Ns) (z : Sm) : Ct := ⟨35,[(.agg (uY c)),(.agg [(dL 6 c9 aB d.procs),(dL 5 d7 be d.chans)]),(.agg (pH s)),(.agg (oW t)),(.agg [(dS z.name),(LI z.words)])],true,(.tup [(.agg [(dL 2 bA b4 (((aE c d s t z.name z.words).1).procs)),(dL 1 ac [] (((aE c d s t z.name z.words).1).chans))]),(.agg [(dL 2 bA b4 (((aE c d s t z.name z.words).2.1).procs)),(dL 1 ac [] (((aE c d s t z.name z.words).2.1).chans))]),(i6 ((aE c d s t z.name z.words).2.2))])⟩
def ma (c : Ci) (d : Ci) (s : Ns) (t : Ns) (z : Sm) : St := ⟨[(10,(.ptr 5 0 0 0)),(11,(.ptr 6 0 0 0)),(14,cK)],(np c d s t z)⟩
def rO (c : Ci) (d : Ci) (s : Ns) (t : Ns) (z : Sm) : St := ⟨[(10,(.ptr 5 0 0 0)),(11,(.ptr 6 0 0 0)),(14,cK),(76,cK)],(np c d s t z)⟩
def rP (c : Ci) (d : Ci) (s : Ns) (t : Ns) (z : Sm) : St := ⟨[(10,(.ptr 5 0 0 0)),(11,(.ptr 6 0 0 0)),(14,cK),(78,(.ptr 14 0 0 2))],(np c d s t z)⟩
def rQ (c : Ci) (d : Ci) (s : Ns) (t : Ns) (z : Sm) : St := ⟨[(10,(.ptr 5 0 0 0)),(11,(.ptr 6 0 0 0)),(14,cK),(76,cK),(77,(.agg (ju c s z)))],(np c d s t z)⟩
def mb (c : Ci) (d : Ci) (s : Ns) (t : Ns) (z : Sm) : St := ⟨[(10,(.ptr 5 0 0 0)),(11,(.ptr 6 0 0 0)),(14,cK),(76,cK),(78,(.ptr 14 0 0 2))],(np c d s t z)⟩
def rR (c : Ci) (d : Ci) (s : Ns) (t : Ns) (z : Sm) : St := ⟨[(10,(.ptr 5 0 0 0)),(11,(.ptr 6 0 0 0)),(14,cK),(78,(.ptr 14 0 0 2)),(79,(.agg (nn d t z)))],(np c d s t z)⟩
def mc (c : Ci) (d : Ci) (s : Ns) (t : Ns) (z : Sm) : St := ⟨[(10,(.ptr 5 0 0 0)),(11,(.ptr 6 0 0 0)),(14,cK),(76,cK),(77,(.agg (ju c s z))),(78,(.ptr 14 0 0 2))],(np c d s t z)⟩
def rS (c : Ci) (d : Ci) (s : Ns) (t : Ns) (z : Sm) : St := ⟨[(10,(.ptr 5 0 0 0)),(11,(.ptr 6 0 0 0)),(14,cK),(76,cK),(77,(.agg (ju c s z)))],(Cw c d s t z)⟩
def md (c : Ci) (d : Ci) (s : Ns) (t : Ns) (z : Sm) : St := ⟨[(10,(.ptr 5 0 0 0)),(11,(.ptr 6 0 0 0)),(14,cK),(76,cK),(78,(.ptr 14 0 0 2)),(79,(.agg (nn d t z)))],(np c d s t z)⟩
def me (c : Ci) (d : Ci) (s : Ns) (t : Ns) (z : Sm) : St := ⟨(Cx c s z d t),(np c d s t z)⟩
def ke (c : Ci) (d : Ci) (s : Ns) (t : Ns) (z : Sm) : St := ⟨[(10,(.ptr 5 0 0 0)),(11,(.ptr 6 0 0 0)),(14,cK),(76,cK),(77,(.agg (ju c s z))),(78,(.ptr 14 0 0 2))],(Cw c d s t z)⟩
def kf (c : Ci) (d : Ci) (s : Ns) (t : Ns) (z : Sm) : St := ⟨(Cx c s z d t),(Cw c d s t z)⟩
def pI (c : Ci) (d : Ci) (s : Ns) (t : Ns) (z : Sm) : St := ⟨(Cx c s z d t),[(iA c),(jv d),(.var 42 (pH s)),(.var 42 (oW t)),.dead,(.var 42 (ju c s z)),(.var 42 (nn d t z)),.dead,.dead,.dead,.dead,.dead,.dead,(y9 c d),(y8 c s z d t),.dead,(uZ c z d),(iA c),(jv d),(iA c),.dead,.dead,.dead,.dead,.dead,.dead,.dead,.dead,.dead,.dead,.dead,.dead,.dead,(.var 42 (ju c s z)),.dead,.dead,(jv d),.dead,.dead,.dead,.dead,.dead,.dead,.dead,.dead,.dead,.dead,.dead,.dead,.dead,(.var 42 (nn d t z)),.dead,.dead]⟩
def pJ (c : Ci) (d : Ci) (s : Ns) (t : Ns) (z : Sm) : St := ⟨[(10,(.ptr 5 0 0 0)),(11,(.ptr 6 0 0 0)),(12,(i6 0))],[(iA c),(jv d),(.var 42 (pH s)),(.var 42 (oW t)),.dead,(.var 42 (ju c s z)),(.var 42 (nn d t z)),.dead,.dead,.dead,.dead,.dead,.dead,(y9 c d),(y8 c s z d t),.dead,(uZ c z d),(iA c),(jv d),(iA c),.dead,.dead,.dead,.dead,.dead,.dead,.dead,.dead,.dead,.dead,.dead,.dead,.dead,(.var 42 (ju c s z)),.dead,.dead,(jv d),.dead,.dead,.dead,.dead,.dead,.dead,.dead,.dead,.dead,.dead,.dead,.dead,.dead,(.var 42 (nn d t z)),.dead,.dead]⟩
theorem Cy (c d : Ci) (s t : Ns) (z : Sm) (hc : b5 c) (hd : b5 d) (hs : cT c s) (ht : cT d t) (hsm : l5 s 4294967296) (htm : l5 t 4294967296) (hw : z.words.length ≤ 4294967296) : CC (IE c d s t z) := by
 have hnl := hc.nl
 have hcl := hc.cl
 have hl2 := hs.cl
 have hdl := hd.cl
 have hl3 := ht.cl
 refine af.vc (V := TT 23 (((0 ≤ (0 : Int)∧0 < (2 : Int))∧True)∧TT 7 (CC (Cu c.chans z)∧TT 3 (((0 ≤ (0 : Int)∧0 < (2 : Int))∧True)∧TT 2 (((0 ≤ (0 : Int)∧0 < (2 : Int))∧True)∧TT 2 (CD ((bg c.chans z.name) < 0) (TT 8 (((((aE c d s t z.name z.words).1).procs) = []∧(((aE c d s t z.name z.words).1).chans) = []∧True)∧((((aE c d s t z.name z.words).2.1).procs) = []∧(((aE c d s t z.name z.words).2.1).chans) = []∧True)∧(4 : Int) = ((aE c d s t z.name z.words).2.2)∧True)) (TT 4 (((0 ≤ (1 : Int)∧1 < (2 : Int))∧True)∧TT 7 (CC (Cu d.chans z)∧TT 3 (((0 ≤ (1 : Int)∧1 < (2 : Int))∧True)∧TT 2 (((0 ≤ (1 : Int)∧1 < (2 : Int))∧True)∧TT 2 (CD ((bg d.chans z.name) < 0) (TT 8 (((((aE c d s t z.name z.words).1).procs) = []∧(((aE c d s t z.name z.words).1).chans) = []∧True)∧((((aE c d s t z.name z.words).2.1).procs) = []∧(((aE c d s t z.name z.words).2.1).chans) = []∧True)∧(4 : Int) = ((aE c d s t z.name z.words).2.2)∧True)) (TT 7 (((0 ≤ (0 : Int)∧0 < (2 : Int))∧True)∧TT 5 (((0 ≤ (0 : Int)∧0 < (2 : Int))∧True)∧TT 2 (((0 ≤ (0 : Int)∧0 < (2 : Int))∧True)∧TT 3 (CC (Hg c s (bg c.chans z.name) z.words)∧TT 8 (CN (((aU c s (bg c.chans z.name) z.words).2) = 0) (TT 9 (((((aE c d s t z.name z.words).1).procs) = []∧(((aE c d s t z.name z.words).1).chans) = []∧True)∧((((aE c d s t z.name z.words).2.1).procs) = []∧(((aE c d s t z.name z.words).2.1).chans) = []∧True)∧((aU c s (bg c.chans z.name) z.words).2) = ((aE c d s t z.name z.words).2.2)∧True)) (TT 2 (((0 ≤ (0 : Int)∧0 < (2 : Int))∧True)∧TT 5 (((0 ≤ (1 : Int)∧1 < (2 : Int))∧True)∧TT 5 (((0 ≤ (1 : Int)∧1 < (2 : Int))∧True)∧TT 2 (((0 ≤ (1 : Int)∧1 < (2 : Int))∧True)∧TT 3 (CC (Hg d t (bg d.chans z.name) z.words)∧TT 8 (CN (((aU d t (bg d.chans z.name) z.words).2) = 0) (TT 9 (((((aE c d s t z.name z.words).1).procs) = []∧(((aE c d s t z.name z.words).1).chans) = []∧True)∧((((aE c d s t z.name z.words).2.1).procs) = []∧(((aE c d s t z.name z.words).2.1).chans) = []∧True)∧((aU d t (bg d.chans z.name) z.words).2) = ((aE c d s t z.name z.words).2.2)∧True)) (TT 2 (((0 ≤ (1 : Int)∧1 < (2 : Int))∧True)∧TT 4 ((ma c d s t z) = (ma c d s t z)∧(((sE (rO c d s t z) ((0 ≤ (0 : Int)∧0 < (2 : Int))∧True))∧(sE (rP c d s t z) ((0 ≤ (1 : Int)∧1 < (2 : Int))∧True))∧True)∧((sE (rQ c d s t z) (True))∧(sE (mb c d s t z) ((0 ≤ (1 : Int)∧1 < (2 : Int))∧True))∧True)∧((sE (mb c d s t z) ((0 ≤ (0 : Int)∧0 < (2 : Int))∧True))∧(sE (rR c d s t z) (True))∧True)∧((sE (mc c d s t z) ((0 ≤ (1 : Int)∧1 < (2 : Int))∧True))∧(sE (rS c d s t z) (True))∧True)∧((sE (mc c d s t z) (True))∧(sE (md c d s t z) (True))∧True)∧((sE (md c d s t z) ((0 ≤ (0 : Int)∧0 < (2 : Int))∧True))∧True)∧((sE (me c d s t z) (True))∧(sE (ke c d s t z) (True))∧True)∧((sE (ke c d s t z) ((0 ≤ (1 : Int)∧1 < (2 : Int))∧True))∧True)∧((sE (me c d s t z) (True))∧True)∧((sE (kf c d s t z) (True))∧True)∧((sE (kf c d s t z) (True))∧True)∧((sE (pI c d s t z) (True))∧True)∧((sE (pJ c d s t z) (True))∧True)∧True∧True)∧TT 3 (((((aU c s (bg c.chans z.name) z.words).1).procs).map bA = (((aE c d s t z.name z.words).1).procs).map bA∧(((aU c s (bg c.chans z.name) z.words).1).chans).map ac = (((aE c d s t z.name z.words).1).chans).map ac∧True)∧((((aU d t (bg d.chans z.name) z.words).1).procs).map bA = (((aE c d s t z.name z.words).2.1).procs).map bA∧(((aU d t (bg d.chans z.name) z.words).1).chans).map ac = (((aE c d s t z.name z.words).2.1).chans).map ac∧True)∧(0 : Int) = ((aE c d s t z.name z.words).2.2)∧True))))))))))))))))))))))))))))) (.f 1 4 <| .w 1 [(8,.val .junk)] <| .r 3 (.w 6 [(4,(Cu c.chans z).O)] <| .b 45 (.e) (.w 6 [(4,(Cu d.chans z).O)] <| .b 45 (.e) (.r 3 (.w 13 [(9,(Hg c s (bg c.chans z.name) z.words).O),(14,.val .junk)] <| .b 68 (.e) (.w 13 [(9,(Hg d t (bg d.chans z.name) z.words).O),(14,.val .junk)] <| .b 68 (.e) (.y 18 [] [((bm 7 0),(ma c d s t z)),((bm 7 1),(rO c d s t z)),((bm 7 4),(rP c d s t z)),((bm 7 3),(rQ c d s t z)),((bm 7 5),(mb c d s t z)),((bm 7 12),(rR c d s t z)),((bm 7 7),(mc c d s t z)),((bm 7 19),(rS c d s t z)),((bm 7 13),(md c d s t z)),((bm 7 15),(me c d s t z)),((bm 7 23),(ke c d s t z)),((bm 7 31),(kf c d s t z)),((bm 7 63),(pI c d s t z)),((bm 7 127),(pJ c d s t z))] <| .e))))))) Tryz.func35 rfl rfl rfl (by kernel_rfl) ?_
 refine tt ⟨⟨by omega,oK⟩,tt ⟨(y6 c.chans z (by omega)),tt ⟨⟨by omega,oK⟩,tt ⟨⟨by omega,oK⟩,tt (cd (fun hc45 => ?_) (fun hc45 => ?_))⟩⟩⟩⟩
 · refine tt ⟨⟨?_,?_,oK⟩,⟨?_,?_,oK⟩,?_,oK⟩
   all_goals (all_goals (first | rfl | (rw [iz (by omega)]; done) | (rw [fN (by omega) (by omega) (by omega)]; done) | (rw [cz (by omega) (by omega)]; done) | (rw [cz (by omega) (by omega)]; exact rM.resolve_left (by omega))))
 · refine tt ⟨⟨by omega,oK⟩,tt ⟨(y6 d.chans z (by omega)),tt ⟨⟨by omega,oK⟩,tt ⟨⟨by omega,oK⟩,tt (cd (fun hc45 => ?_) (fun hc45 => ?_))⟩⟩⟩⟩
   · refine tt ⟨⟨?_,?_,oK⟩,⟨?_,?_,oK⟩,?_,oK⟩
     all_goals (all_goals (first | rfl | (rw [iz (by omega)]; done) | (rw [fN (by omega) (by omega) (by omega)]; done) | (rw [cz (by omega) (by omega)]; done) | (rw [cz (by omega) (by omega)]; exact rM.resolve_left (by omega))))
   · refine tt ⟨⟨by omega,oK⟩,tt ⟨⟨by omega,oK⟩,tt ⟨⟨by omega,oK⟩,tt ⟨(wj c s (bg c.chans z.name) z.words hc hs hsm hw),tt (cn (fun hc68 => ?_) (fun hc68 => ?_))⟩⟩⟩⟩
     · refine tt ⟨⟨?_,?_,oK⟩,⟨?_,?_,oK⟩,?_,oK⟩
       all_goals (all_goals (first | rfl | (rw [iz (by omega)]; done) | (rw [fN (by omega) (by omega) (by omega)]; done) | (rw [cz (by omega) (by omega)]; done) | (rw [cz (by omega) (by omega)]; exact rM.resolve_left (by omega))))
     · refine tt ⟨⟨by omega,oK⟩,tt ⟨⟨by omega,oK⟩,tt ⟨⟨by omega,oK⟩,tt ⟨⟨by omega,oK⟩,tt ⟨(wj d t (bg d.chans z.name) z.words hd ht htm hw),tt (cn (fun hc68 => ?_) (fun hc68 => ?_))⟩⟩⟩⟩⟩
       · refine tt ⟨⟨?_,?_,oK⟩,⟨?_,?_,oK⟩,?_,oK⟩
         all_goals (all_goals (first | rfl | (rw [iz (by omega)]; done) | (rw [fN (by omega) (by omega) (by omega)]; done) | (rw [cz (by omega) (by omega)]; done) | (rw [cz (by omega) (by omega)]; exact rM.resolve_left (by omega))))
       · refine tt ⟨⟨by omega,oK⟩,tt ⟨rfl,⟨⟨⟨⟨rfl,⟨by omega,oK⟩,oK⟩,⟨rfl,⟨by omega,oK⟩,oK⟩,oK⟩,⟨⟨rfl,oK,oK⟩,⟨rfl,⟨by omega,oK⟩,oK⟩,oK⟩,⟨⟨rfl,⟨by omega,oK⟩,oK⟩,⟨rfl,oK,oK⟩,oK⟩,⟨⟨rfl,⟨by omega,oK⟩,oK⟩,⟨rfl,oK,oK⟩,oK⟩,⟨⟨rfl,oK,oK⟩,⟨rfl,oK,oK⟩,oK⟩,⟨⟨rfl,⟨by omega,oK⟩,oK⟩,oK⟩,⟨⟨rfl,oK,oK⟩,⟨rfl,oK,oK⟩,oK⟩,⟨⟨rfl,⟨by omega,oK⟩,oK⟩,oK⟩,⟨⟨rfl,oK,oK⟩,oK⟩,⟨⟨rfl,oK,oK⟩,oK⟩,⟨⟨rfl,oK,oK⟩,oK⟩,⟨⟨rfl,oK,oK⟩,oK⟩,⟨⟨rfl,oK,oK⟩,oK⟩,oK,oK⟩,tt ⟨⟨(congrArg _ (?_ : (((aU c s (bg c.chans z.name) z.words).1).procs) = (((aE c d s t z.name z.words).1).procs))),(congrArg _ (?_ : (((aU c s (bg c.chans z.name) z.words).1).chans) = (((aE c d s t z.name z.words).1).chans))),oK⟩,⟨(congrArg _ (?_ : (((aU d t (bg d.chans z.name) z.words).1).procs) = (((aE c d s t z.name z.words).2.1).procs))),(congrArg _ (?_ : (((aU d t (bg d.chans z.name) z.words).1).chans) = (((aE c d s t z.name z.words).2.1).chans))),oK⟩,?_,oK⟩⟩⟩⟩
         all_goals (all_goals (first | rfl | (rw [iz (by omega)]; done) | (rw [fN (by omega) (by omega) (by omega)]; done) | (rw [cz (by omega) (by omega)]; done) | (rw [cz (by omega) (by omega)]; exact rM.resolve_left (by omega))))
abbrev IG (c d : Ci) (s t : Ns) (l : List ByteArray) : Ct := ⟨38,[(.agg (uY c)),(.agg [(dL 6 c9 aB d.procs),(dL 5 d7 be d.chans)]),(.agg (pH s)),(.agg (oW t)),(dL 1 eI .empty l)],true,(.tup [(.agg [(dL 2 bA b4 ((aR c s l).procs)),(dL 1 ac [] ((aR c s l).chans))]),(.agg [(dL 2 bA b4 ((aR d t l).procs)),(dL 1 ac [] ((aR d t l).chans))])])⟩
theorem Ec (c d : Ci) (s t : Ns) (l : List ByteArray) (hc : b5 c) (hd : b5 d) (hs : cT c s) (ht : cT d t) (hsm : l5 s 1000000000) (htm : l5 t 1000000000) (hl : l.length ≤ 1000000) : CC (IG c d s t l) := by
 refine af.vc (V := TT 9 (CC (Hf c s l)∧TT 3 (CC (Hf d t l)∧TT 4 ((((aR c s l).procs).map bA = ((aR c s l).procs).map bA∧((aR c s l).chans).map ac = ((aR c s l).chans).map ac∧True)∧(((aR d t l).procs).map bA = ((aR d t l).procs).map bA∧((aR d t l).chans).map ac = ((aR d t l).chans).map ac∧True)∧True)))) (.w 1 [(3,(Hf c s l).O),(7,(Hf d t l).O)] <| .e) Tryz.func38 rfl rfl rfl (by kernel_rfl) ?_
 exact tt ⟨(y2 c s l hc hs hsm hl),tt ⟨(y2 d t l hd ht htm hl),tt ⟨⟨rfl,rfl,oK⟩,⟨rfl,rfl,oK⟩,oK⟩⟩⟩
end Go.Proofs.YtgmpoenfoacofaaGreat
