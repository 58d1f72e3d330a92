/-
  Package shadow: outputs, feeding, runs.
-/
import Derived.Test.YtgmpoenfoacofaaGreatQShB
namespace Go.Proofs.YtgmpoenfoacofaaGreat
open Go.RowKit
set_option linter.unusedVariables false
set_option linter.unusedSimpArgs false
abbrev BD (c : Ci) (s : Ns) (z : Sm) (d : Ci) (t : Ns) : aA := (.var 134 [(dL 2 be bx (((aW c s (bg c.chans z.name) z.words).1).procs)),(dL 1 ac [] (((aW c s (bg c.chans z.name) z.words).1).chans)),(dL 2 be bx (((aW d t (bg d.chans z.name) z.words).1).procs)),(dL 1 ac [] (((aW d t (bg d.chans z.name) z.words).1).chans))])
abbrev kn (c : Ci) (s : Ns) (z : Sm) : List D := [(dL 2 be bx (((aW c s (bg c.chans z.name) z.words).1).procs)),(dL 1 ac [] (((aW c s (bg c.chans z.name) z.words).1).chans))]
abbrev pi (d : Ci) (t : Ns) (z : Sm) : List D := [(dL 2 be bx (((aW d t (bg d.chans z.name) z.words).1).procs)),(dL 1 ac [] (((aW d t (bg d.chans z.name) z.words).1).chans))]
abbrev wZ (c : Ci) : List D := [(dL 6 eI ax c.procs),(dL 5 eP a8 c.chans)]
abbrev jk (c : Ci) : aA := (.var 38 (wZ c))
abbrev ko (d : Ci) : aA := (.var 38 [(dL 6 eI ax d.procs),(dL 5 eP a8 d.chans)])
abbrev rg (s : Ns) : List D := [(dL 2 be bx s.procs),(dL 1 ac [] s.chans)]
abbrev qB (t : Ns) : List D := [(dL 2 be bx t.procs),(dL 1 ac [] t.chans)]
abbrev BE (c d : Ci) : aA := (.var 133 [(dL 6 eI ax c.procs),(dL 5 eP a8 c.chans),(dL 6 eI ax d.procs),(dL 5 eP a8 d.chans)])
abbrev w3 (c : Ci) (z : Sm) (d : Ci) : aA := (.var 135 [(i6 (bg c.chans z.name)),(i6 (bg d.chans z.name))])
abbrev pj (c d : Ci) (s t : Ns) (z : Sm) : List aA := [(jk c),(ko d),(.var 42 (rg s)),(.var 42 (qB t)),.dead,(.var 42 [.nils,.nils]),(.var 42 [.nils,.nils]),.dead,.dead,.dead,.dead,.dead,.dead,(BE c d),(BD c s z d t),.dead,(w3 c z d),(jk c),(ko d),(jk c),.dead,.dead,.dead,.dead,.dead,.dead,.dead,.dead,.dead,.dead,.dead,.dead,.dead,(.var 42 (kn c s z)),.dead,.dead,(ko d),.dead,.dead,.dead,.dead,.dead,.dead,.dead,.dead,.dead,.dead,.dead,.dead,.dead,(.var 42 (pi d t z)),.dead,.dead]
abbrev Fu (c d : Ci) (s t : Ns) (z : Sm) : List aA := [(jk c),(ko d),(.var 42 (rg s)),(.var 42 (qB t)),.dead,(.var 42 (kn c s z)),(.var 42 [.nils,.nils]),.dead,.dead,.dead,.dead,.dead,.dead,(BE c d),(BD c s z d t),.dead,(w3 c z d),(jk c),(ko d),(jk c),.dead,.dead,.dead,.dead,.dead,.dead,.dead,.dead,.dead,.dead,.dead,.dead,.dead,(.var 42 (kn c s z)),.dead,.dead,(ko d),.dead,.dead,.dead,.dead,.dead,.dead,.dead,.dead,.dead,.dead,.dead,.dead,.dead,(.var 42 (pi d t z)),.dead,.dead]
abbrev dD : D := (.ptr 14 0 0 0)
abbrev Fv (c : Ci) (s : Ns) (z : Sm) (d : Ci) (t : Ns) : List (Nat × D) := [(10,(.ptr 5 0 0 0)),(11,(.ptr 6 0 0 0)),(14,dD),(76,dD),(77,(.agg (kn c s z))),(78,(.ptr 14 0 0 2)),(79,(.agg (pi d t z)))]
set_option maxRecDepth 100000
abbrev JX (l : List Int) : Ct := ⟨33,[(LI l)],true,(LI l)⟩
theorem z5 (l : List Int) (h : l ≠ []) (hl : l.length ≤ 137438953472) : CC (JX l) := by
 refine ah.vc (V := TT 2 (l ≠ []∧an [] (([] : List Int).map (ae .i64))∧TT 1 ((([] : List Int).length + (l.map (ae .i64)).length ≤ 137438953472∧([] : List Int).map (ae .i64) ++ l.map (ae .i64) = l.map (ae .i64))∧TT 2 (l.map (ae .i64) = l.map (ae .i64))))) (.w 3 [(0,.box 3 1 (ae .i64) 0 ([] : List Int)),(2,.box 3 1 (ae .i64) 0 l)] <| .e) Tryz.func33 rfl rfl rfl (by kernel_rfl) ?_
 exact tt ⟨(by exact h),⟨oK,tt ⟨⟨by simp only [List.length_map,List.length_nil]; omega,by simp⟩,tt rfl⟩⟩⟩
abbrev JY : Ct := ⟨33,[.nils],true,(LI ([] : List Int))⟩
theorem z6  : CC JY := by
 refine ah.vc (V := TT 5 (([] : List Int) = [])) (.e) Tryz.func33 rfl rfl rfl (by kernel_rfl) ?_
 refine tt ?_
 rfl
abbrev JZ : Ct := ⟨33,[(.v .esl)],true,(LI ([] : List Int))⟩
theorem z7  : CC JZ := by
 refine ah.vc (V := TT 3 (an [] (([] : List Int).map (ae .i64))∧TT 1 ((([] : List Int).length + (([] : List (List V))).length ≤ 137438953472∧([] : List Int).map (ae .i64) ++ ([] : List (List V)) = ([] : List Int).map (ae .i64))∧TT 2 (([] : List Int).map (ae .i64) = ([] : List Int).map (ae .i64))))) (.w 3 [(0,.box 3 1 (ae .i64) 0 ([] : List Int)),(2,.box 3 1 (ae .i64) 0 ([] : List Int))] <| .e) Tryz.func33 rfl rfl rfl (by kernel_rfl) ?_
 exact tt ⟨oK,tt ⟨⟨by simp,by simp⟩,tt rfl⟩⟩
abbrev II (l : List Int) : Ct := ⟨33,[(LI l)],true,(LI l)⟩
theorem Dc (l : List Int) (hl : l.length ≤ 137438953472) : CC (II l) :=
  ah.nilcases (fun h => z5 l h hl) (fun h => by subst h; exact z6) (fun h => by subst h; exact z7)
abbrev w4 (c : Ci) (s : Ns) : Ct := ⟨11,[(.agg (wZ c)),(.agg (rg s))],true,(dL 2 lY b7 (aM c s))⟩
abbrev fS (c : Ci) (s : Ns) : Lp (Nat × List Sm) := uZ [3,5,9,10,11] 3 (fun (i : Nat) (o : List Sm) => ⟨[(3,(.ptr 1 0 0 0)),(5,(.own 2)),(9,(dL 5 eP a8 c.chans)),(10,(i6 (c.chans.length : Int))),(11,(i6 (i : Int)))],[(jk c),(.var 42 (rg s)),(.arr 30 2 lY b7 o)]⟩) (fun (i : Nat) (o : List Sm) => i ≤ c.chans.length∧o = qA c s i) (fun (i : Nat) (o : List Sm) => c.chans.length - i)
theorem db (c : Ci) (s : Ns) (hc : a6 c) (hs : bH c s) (hsm : ic s 4294967296) : CC (w4 c s) := by
 have hnl := hc.nl
 have hcl := hc.cl
 have hl2 := hs.cl
 refine ah.vc (V := TT 8 (GO (fS c s) (0,([] : List Sm)) (∀ i o,(fS c s).inv (i,o) → TT 1 (CD ((i : Int) < (c.chans.length : Int)) (TT 1 (IX (i : Int) c.chans.length∧TT 7 (CD (((c.chans.getD i a8).dst) = (-1)) (TT 6 (IX (i : Int) s.chans.length∧TT 1 (CC (II (s.chans.getD i []))∧TT 1 (an [[(dS ((c.chans.getD i a8).name)),(LI (s.chans.getD i []))]] ([(⟨(c.chans.getD i a8).name,(s.chans.getD i [])⟩ : Sm)].map lY)∧(o.length + ([(⟨(c.chans.getD i a8).name,(s.chans.getD i [])⟩ : Sm)].map lY).length ≤ 137438953472∧o.map lY ++ [(⟨(c.chans.getD i a8).name,(s.chans.getD i [])⟩ : Sm)].map lY = (o ++ [(⟨(c.chans.getD i a8).name,(s.chans.getD i [])⟩ : Sm)]).map lY)∧TT 1 (W6 ((i + 1 : Nat) : Int)∧TT 1 (AG (fS c s) (i,o) (i + 1,o ++ [(⟨(c.chans.getD i a8).name,(s.chans.getD i [])⟩ : Sm)]))))))) (W6 ((i + 1 : Nat) : Int)∧TT 1 (AG (fS c s) (i,o) (i + 1,o)))))) (TT 3 (o.map lY = (aM c s).map lY)))))) (.gs 2 5 30 2 lY b7 <| .l (fS c s) (0,([] : List Sm)) (fun ⟨i,o⟩ => .b 12 (.b 18 (.w 6 [(8,(II (s.chans.getD i [])).O),(10,.box 30 2 lY b7 [(⟨(c.chans.getD i a8).name,(s.chans.getD i [])⟩ : Sm)]),(11,.box 30 2 lY b7 (o ++ [(⟨(c.chans.getD i a8).name,(s.chans.getD i [])⟩ : Sm)]))] <| .w 7 [(0,.val (i6 ((i + 1 : Nat) : Int)))] <| .e) (.w 7 [(0,.val (i6 ((i + 1 : Nat) : Int)))] <| .e)) (.e))) Tryz.func11 rfl rfl rfl (by kernel_rfl) ?_
 refine tt ⟨rfl,⟨by omega,rfl⟩,?_⟩
 intro i o hinv
 obtain ⟨hi,ho⟩ := hinv
 refine tt (cd (fun hc12 => ?_) (fun hc12 => ?_))
 · refine tt ⟨ix,tt (cd (fun hc18 => ?_) (fun hc18 => ?_))⟩
   · have hwl : (s.chans.getD i []).length ≤ 4294967296 := hsm i
     refine tt ⟨ix,tt ⟨(Dc (s.chans.getD i []) (by omega)),tt ⟨⟨⟨rfl,rfl,oK⟩,oK⟩,⟨⟨by simp only [List.length_map,List.length_cons,List.length_nil]; have := tC (c := c) (s := s) i; rw [ho]; omega,by simp only [List.map_append,List.map_nil,List.append_nil]⟩,tt ⟨w6,tt ⟨(i + 1,o ++ [(⟨(c.chans.getD i a8).name,(s.chans.getD i [])⟩ : Sm)]),rfl,?_,(?_ : c.chans.length - (i + 1) < c.chans.length - i)⟩⟩⟩⟩⟩⟩
     · exact ⟨by omega,by rw [ho]; first | exact (Bu hc18).symm | exact (Fk hc18).symm⟩
     · omega
   · refine ⟨w6,tt ⟨(i + 1,o),rfl,?_,(?_ : c.chans.length - (i + 1) < c.chans.length - i)⟩⟩
     · exact ⟨by omega,by rw [ho]; first | exact (Bu hc18).symm | exact (Fk hc18).symm⟩
     · omega
 · refine tt (congrArg _ (?_ : o = (aM c s)))
   rw [ho,show i = c.chans.length by omega]; rfl
abbrev Lj (c d : Ci) (s t : Ns) (z : Sm) : Ct := ⟨35,[(.agg (wZ c)),(.agg [(dL 6 eI ax d.procs),(dL 5 eP a8 d.chans)]),(.agg (rg s)),(.agg (qB t)),(.agg [(dS z.name),(LI z.words)])],true,(.tup [(.agg [(dL 2 be bx (((az c d s t z.name z.words).1).procs)),(dL 1 ac [] (((az c d s t z.name z.words).1).chans))]),(.agg [(dL 2 be bx (((az c d s t z.name z.words).2.1).procs)),(dL 1 ac [] (((az c d s t z.name z.words).2.1).chans))]),(i6 ((az c d s t z.name z.words).2.2))])⟩
def nu (c : Ci) (d : Ci) (s : Ns) (t : Ns) (z : Sm) : St := ⟨[(10,(.ptr 5 0 0 0)),(11,(.ptr 6 0 0 0)),(14,dD)],(pj c d s t z)⟩
def tF (c : Ci) (d : Ci) (s : Ns) (t : Ns) (z : Sm) : St := ⟨[(10,(.ptr 5 0 0 0)),(11,(.ptr 6 0 0 0)),(14,dD),(76,dD)],(pj c d s t z)⟩
def tG (c : Ci) (d : Ci) (s : Ns) (t : Ns) (z : Sm) : St := ⟨[(10,(.ptr 5 0 0 0)),(11,(.ptr 6 0 0 0)),(14,dD),(78,(.ptr 14 0 0 2))],(pj c d s t z)⟩
def tH (c : Ci) (d : Ci) (s : Ns) (t : Ns) (z : Sm) : St := ⟨[(10,(.ptr 5 0 0 0)),(11,(.ptr 6 0 0 0)),(14,dD),(76,dD),(77,(.agg (kn c s z)))],(pj c d s t z)⟩
def nw (c : Ci) (d : Ci) (s : Ns) (t : Ns) (z : Sm) : St := ⟨[(10,(.ptr 5 0 0 0)),(11,(.ptr 6 0 0 0)),(14,dD),(76,dD),(78,(.ptr 14 0 0 2))],(pj c d s t z)⟩
def tI (c : Ci) (d : Ci) (s : Ns) (t : Ns) (z : Sm) : St := ⟨[(10,(.ptr 5 0 0 0)),(11,(.ptr 6 0 0 0)),(14,dD),(78,(.ptr 14 0 0 2)),(79,(.agg (pi d t z)))],(pj c d s t z)⟩
def nx (c : Ci) (d : Ci) (s : Ns) (t : Ns) (z : Sm) : St := ⟨[(10,(.ptr 5 0 0 0)),(11,(.ptr 6 0 0 0)),(14,dD),(76,dD),(77,(.agg (kn c s z))),(78,(.ptr 14 0 0 2))],(pj c d s t z)⟩
def tJ (c : Ci) (d : Ci) (s : Ns) (t : Ns) (z : Sm) : St := ⟨[(10,(.ptr 5 0 0 0)),(11,(.ptr 6 0 0 0)),(14,dD),(76,dD),(77,(.agg (kn c s z)))],(Fu c d s t z)⟩
def ny (c : Ci) (d : Ci) (s : Ns) (t : Ns) (z : Sm) : St := ⟨[(10,(.ptr 5 0 0 0)),(11,(.ptr 6 0 0 0)),(14,dD),(76,dD),(78,(.ptr 14 0 0 2)),(79,(.agg (pi d t z)))],(pj c d s t z)⟩
def nz (c : Ci) (d : Ci) (s : Ns) (t : Ns) (z : Sm) : St := ⟨(Fv c s z d t),(pj c d s t z)⟩
def ld (c : Ci) (d : Ci) (s : Ns) (t : Ns) (z : Sm) : St := ⟨[(10,(.ptr 5 0 0 0)),(11,(.ptr 6 0 0 0)),(14,dD),(76,dD),(77,(.agg (kn c s z))),(78,(.ptr 14 0 0 2))],(Fu c d s t z)⟩
def lf (c : Ci) (d : Ci) (s : Ns) (t : Ns) (z : Sm) : St := ⟨(Fv c s z d t),(Fu c d s t z)⟩
def rh (c : Ci) (d : Ci) (s : Ns) (t : Ns) (z : Sm) : St := ⟨(Fv c s z d t),[(jk c),(ko d),(.var 42 (rg s)),(.var 42 (qB t)),.dead,(.var 42 (kn c s z)),(.var 42 (pi d t z)),.dead,.dead,.dead,.dead,.dead,.dead,(BE c d),(BD c s z d t),.dead,(w3 c z d),(jk c),(ko d),(jk c),.dead,.dead,.dead,.dead,.dead,.dead,.dead,.dead,.dead,.dead,.dead,.dead,.dead,(.var 42 (kn c s z)),.dead,.dead,(ko d),.dead,.dead,.dead,.dead,.dead,.dead,.dead,.dead,.dead,.dead,.dead,.dead,.dead,(.var 42 (pi d t z)),.dead,.dead]⟩
def ri (c : Ci) (d : Ci) (s : Ns) (t : Ns) (z : Sm) : St := ⟨[(10,(.ptr 5 0 0 0)),(11,(.ptr 6 0 0 0)),(12,(i6 0))],[(jk c),(ko d),(.var 42 (rg s)),(.var 42 (qB t)),.dead,(.var 42 (kn c s z)),(.var 42 (pi d t z)),.dead,.dead,.dead,.dead,.dead,.dead,(BE c d),(BD c s z d t),.dead,(w3 c z d),(jk c),(ko d),(jk c),.dead,.dead,.dead,.dead,.dead,.dead,.dead,.dead,.dead,.dead,.dead,.dead,.dead,(.var 42 (kn c s z)),.dead,.dead,(ko d),.dead,.dead,.dead,.dead,.dead,.dead,.dead,.dead,.dead,.dead,.dead,.dead,.dead,(.var 42 (pi d t z)),.dead,.dead]⟩
theorem Fw (c d : Ci) (s t : Ns) (z : Sm) (hc : a6 c) (hd : a6 d) (hs : bH c s) (ht : bH d t) (hsm : ic s 4294967296) (htm : ic t 4294967296) (hw : z.words.length ≤ 4294967296) : CC (Lj c d s t z) := by
 have hnl := hc.nl
 have hcl := hc.cl
 have hl2 := hs.cl
 have hdl := hd.cl
 have hl3 := ht.cl
 refine ah.vc (V := TT 23 (((0 ≤ (0 : Int)∧0 < (2 : Int))∧True)∧TT 7 (CC (Fr c.chans z)∧TT 3 (((0 ≤ (0 : Int)∧0 < (2 : Int))∧True)∧TT 2 (((0 ≤ (0 : Int)∧0 < (2 : Int))∧True)∧TT 2 (CD ((bg c.chans z.name) < 0) (TT 8 (((((az c d s t z.name z.words).1).procs) = []∧(((az c d s t z.name z.words).1).chans) = []∧True)∧((((az c d s t z.name z.words).2.1).procs) = []∧(((az c d s t z.name z.words).2.1).chans) = []∧True)∧(4 : Int) = ((az c d s t z.name z.words).2.2)∧True)) (TT 4 (((0 ≤ (1 : Int)∧1 < (2 : Int))∧True)∧TT 7 (CC (Fr d.chans z)∧TT 3 (((0 ≤ (1 : Int)∧1 < (2 : Int))∧True)∧TT 2 (((0 ≤ (1 : Int)∧1 < (2 : Int))∧True)∧TT 2 (CD ((bg d.chans z.name) < 0) (TT 8 (((((az c d s t z.name z.words).1).procs) = []∧(((az c d s t z.name z.words).1).chans) = []∧True)∧((((az c d s t z.name z.words).2.1).procs) = []∧(((az c d s t z.name z.words).2.1).chans) = []∧True)∧(4 : Int) = ((az c d s t z.name z.words).2.2)∧True)) (TT 7 (((0 ≤ (0 : Int)∧0 < (2 : Int))∧True)∧TT 5 (((0 ≤ (0 : Int)∧0 < (2 : Int))∧True)∧TT 2 (((0 ≤ (0 : Int)∧0 < (2 : Int))∧True)∧TT 3 (CC (JT c s (bg c.chans z.name) z.words)∧TT 8 (CN (((aW c s (bg c.chans z.name) z.words).2) = 0) (TT 9 (((((az c d s t z.name z.words).1).procs) = []∧(((az c d s t z.name z.words).1).chans) = []∧True)∧((((az c d s t z.name z.words).2.1).procs) = []∧(((az c d s t z.name z.words).2.1).chans) = []∧True)∧((aW c s (bg c.chans z.name) z.words).2) = ((az c d s t z.name z.words).2.2)∧True)) (TT 2 (((0 ≤ (0 : Int)∧0 < (2 : Int))∧True)∧TT 5 (((0 ≤ (1 : Int)∧1 < (2 : Int))∧True)∧TT 5 (((0 ≤ (1 : Int)∧1 < (2 : Int))∧True)∧TT 2 (((0 ≤ (1 : Int)∧1 < (2 : Int))∧True)∧TT 3 (CC (JT d t (bg d.chans z.name) z.words)∧TT 8 (CN (((aW d t (bg d.chans z.name) z.words).2) = 0) (TT 9 (((((az c d s t z.name z.words).1).procs) = []∧(((az c d s t z.name z.words).1).chans) = []∧True)∧((((az c d s t z.name z.words).2.1).procs) = []∧(((az c d s t z.name z.words).2.1).chans) = []∧True)∧((aW d t (bg d.chans z.name) z.words).2) = ((az c d s t z.name z.words).2.2)∧True)) (TT 2 (((0 ≤ (1 : Int)∧1 < (2 : Int))∧True)∧TT 4 ((nu c d s t z) = (nu c d s t z)∧(((sE (tF c d s t z) ((0 ≤ (0 : Int)∧0 < (2 : Int))∧True))∧(sE (tG c d s t z) ((0 ≤ (1 : Int)∧1 < (2 : Int))∧True))∧True)∧((sE (tH c d s t z) (True))∧(sE (nw c d s t z) ((0 ≤ (1 : Int)∧1 < (2 : Int))∧True))∧True)∧((sE (nw c d s t z) ((0 ≤ (0 : Int)∧0 < (2 : Int))∧True))∧(sE (tI c d s t z) (True))∧True)∧((sE (nx c d s t z) ((0 ≤ (1 : Int)∧1 < (2 : Int))∧True))∧(sE (tJ c d s t z) (True))∧True)∧((sE (nx c d s t z) (True))∧(sE (ny c d s t z) (True))∧True)∧((sE (ny c d s t z) ((0 ≤ (0 : Int)∧0 < (2 : Int))∧True))∧True)∧((sE (nz c d s t z) (True))∧(sE (ld c d s t z) (True))∧True)∧((sE (ld c d s t z) ((0 ≤ (1 : Int)∧1 < (2 : Int))∧True))∧True)∧((sE (nz c d s t z) (True))∧True)∧((sE (lf c d s t z) (True))∧True)∧((sE (lf c d s t z) (True))∧True)∧((sE (rh c d s t z) (True))∧True)∧((sE (ri c d s t z) (True))∧True)∧True∧True)∧TT 3 (((((aW c s (bg c.chans z.name) z.words).1).procs).map be = (((az c d s t z.name z.words).1).procs).map be∧(((aW c s (bg c.chans z.name) z.words).1).chans).map ac = (((az c d s t z.name z.words).1).chans).map ac∧True)∧((((aW d t (bg d.chans z.name) z.words).1).procs).map be = (((az c d s t z.name z.words).2.1).procs).map be∧(((aW d t (bg d.chans z.name) z.words).1).chans).map ac = (((az c d s t z.name z.words).2.1).chans).map ac∧True)∧(0 : Int) = ((az c d s t z.name z.words).2.2)∧True))))))))))))))))))))))))))))) (.f 1 4 <| .w 1 [(8,.val .junk)] <| .r 3 (.w 6 [(4,(Fr c.chans z).O)] <| .b 45 (.e) (.w 6 [(4,(Fr d.chans z).O)] <| .b 45 (.e) (.r 3 (.w 13 [(9,(JT c s (bg c.chans z.name) z.words).O),(14,.val .junk)] <| .b 68 (.e) (.w 13 [(9,(JT d t (bg d.chans z.name) z.words).O),(14,.val .junk)] <| .b 68 (.e) (.y 18 [] [((bm 7 0),(nu c d s t z)),((bm 7 1),(tF c d s t z)),((bm 7 4),(tG c d s t z)),((bm 7 3),(tH c d s t z)),((bm 7 5),(nw c d s t z)),((bm 7 12),(tI c d s t z)),((bm 7 7),(nx c d s t z)),((bm 7 19),(tJ c d s t z)),((bm 7 13),(ny c d s t z)),((bm 7 15),(nz c d s t z)),((bm 7 23),(ld c d s t z)),((bm 7 31),(lf c d s t z)),((bm 7 63),(rh c d s t z)),((bm 7 127),(ri c d s t z))] <| .e))))))) Tryz.func35 rfl rfl rfl (by kernel_rfl) ?_
 refine tt ⟨⟨by omega,oK⟩,tt ⟨(BB c.chans z (by omega)),tt ⟨⟨by omega,oK⟩,tt ⟨⟨by omega,oK⟩,tt (cd (fun hc45 => ?_) (fun hc45 => ?_))⟩⟩⟩⟩
 · refine tt ⟨⟨?_,?_,oK⟩,⟨?_,?_,oK⟩,?_,oK⟩
   all_goals (all_goals (first | rfl | (rw [jj (by omega)]; done) | (rw [fq (by omega) (by omega) (by omega)]; done) | (rw [dm (by omega) (by omega)]; done) | (rw [dm (by omega) (by omega)]; exact tE.resolve_left (by omega))))
 · refine tt ⟨⟨by omega,oK⟩,tt ⟨(BB d.chans z (by omega)),tt ⟨⟨by omega,oK⟩,tt ⟨⟨by omega,oK⟩,tt (cd (fun hc45 => ?_) (fun hc45 => ?_))⟩⟩⟩⟩
   · refine tt ⟨⟨?_,?_,oK⟩,⟨?_,?_,oK⟩,?_,oK⟩
     all_goals (all_goals (first | rfl | (rw [jj (by omega)]; done) | (rw [fq (by omega) (by omega) (by omega)]; done) | (rw [dm (by omega) (by omega)]; done) | (rw [dm (by omega) (by omega)]; exact tE.resolve_left (by omega))))
   · refine tt ⟨⟨by omega,oK⟩,tt ⟨⟨by omega,oK⟩,tt ⟨⟨by omega,oK⟩,tt ⟨(yr c s (bg c.chans z.name) z.words hc hs hsm hw),tt (cn (fun hc68 => ?_) (fun hc68 => ?_))⟩⟩⟩⟩
     · refine tt ⟨⟨?_,?_,oK⟩,⟨?_,?_,oK⟩,?_,oK⟩
       all_goals (all_goals (first | rfl | (rw [jj (by omega)]; done) | (rw [fq (by omega) (by omega) (by omega)]; done) | (rw [dm (by omega) (by omega)]; done) | (rw [dm (by omega) (by omega)]; exact tE.resolve_left (by omega))))
     · refine tt ⟨⟨by omega,oK⟩,tt ⟨⟨by omega,oK⟩,tt ⟨⟨by omega,oK⟩,tt ⟨⟨by omega,oK⟩,tt ⟨(yr d t (bg d.chans z.name) z.words hd ht htm hw),tt (cn (fun hc68 => ?_) (fun hc68 => ?_))⟩⟩⟩⟩⟩
       · refine tt ⟨⟨?_,?_,oK⟩,⟨?_,?_,oK⟩,?_,oK⟩
         all_goals (all_goals (first | rfl | (rw [jj (by omega)]; done) | (rw [fq (by omega) (by omega) (by omega)]; done) | (rw [dm (by omega) (by omega)]; done) | (rw [dm (by omega) (by omega)]; exact tE.resolve_left (by omega))))
       · refine tt ⟨⟨by omega,oK⟩,tt ⟨rfl,⟨⟨⟨⟨rfl,⟨by omega,oK⟩,oK⟩,⟨rfl,⟨by omega,oK⟩,oK⟩,oK⟩,⟨⟨rfl,oK,oK⟩,⟨rfl,⟨by omega,oK⟩,oK⟩,oK⟩,⟨⟨rfl,⟨by omega,oK⟩,oK⟩,⟨rfl,oK,oK⟩,oK⟩,⟨⟨rfl,⟨by omega,oK⟩,oK⟩,⟨rfl,oK,oK⟩,oK⟩,⟨⟨rfl,oK,oK⟩,⟨rfl,oK,oK⟩,oK⟩,⟨⟨rfl,⟨by omega,oK⟩,oK⟩,oK⟩,⟨⟨rfl,oK,oK⟩,⟨rfl,oK,oK⟩,oK⟩,⟨⟨rfl,⟨by omega,oK⟩,oK⟩,oK⟩,⟨⟨rfl,oK,oK⟩,oK⟩,⟨⟨rfl,oK,oK⟩,oK⟩,⟨⟨rfl,oK,oK⟩,oK⟩,⟨⟨rfl,oK,oK⟩,oK⟩,⟨⟨rfl,oK,oK⟩,oK⟩,oK,oK⟩,tt ⟨⟨(congrArg _ (?_ : (((aW c s (bg c.chans z.name) z.words).1).procs) = (((az c d s t z.name z.words).1).procs))),(congrArg _ (?_ : (((aW c s (bg c.chans z.name) z.words).1).chans) = (((az c d s t z.name z.words).1).chans))),oK⟩,⟨(congrArg _ (?_ : (((aW d t (bg d.chans z.name) z.words).1).procs) = (((az c d s t z.name z.words).2.1).procs))),(congrArg _ (?_ : (((aW d t (bg d.chans z.name) z.words).1).chans) = (((az c d s t z.name z.words).2.1).chans))),oK⟩,?_,oK⟩⟩⟩⟩
         all_goals (all_goals (first | rfl | (rw [jj (by omega)]; done) | (rw [fq (by omega) (by omega) (by omega)]; done) | (rw [dm (by omega) (by omega)]; done) | (rw [dm (by omega) (by omega)]; exact tE.resolve_left (by omega))))
abbrev Lk (c d : Ci) (s t : Ns) (l : List ByteArray) : Ct := ⟨38,[(.agg (wZ c)),(.agg [(dL 6 eI ax d.procs),(dL 5 eP a8 d.chans)]),(.agg (rg s)),(.agg (qB t)),(dL 1 dg .empty l)],true,(.tup [(.agg [(dL 2 be bx ((au c s l).procs)),(dL 1 ac [] ((au c s l).chans))]),(.agg [(dL 2 be bx ((au d t l).procs)),(dL 1 ac [] ((au d t l).chans))])])⟩
theorem GX (c d : Ci) (s t : Ns) (l : List ByteArray) (hc : a6 c) (hd : a6 d) (hs : bH c s) (ht : bH d t) (hsm : ic s 1000000000) (htm : ic t 1000000000) (hl : l.length ≤ 1000000) : CC (Lk c d s t l) := by
 refine ah.vc (V := TT 9 (CC (JS c s l)∧TT 3 (CC (JS d t l)∧TT 4 ((((au c s l).procs).map be = ((au c s l).procs).map be∧((au c s l).chans).map ac = ((au c s l).chans).map ac∧True)∧(((au d t l).procs).map be = ((au d t l).procs).map be∧((au d t l).chans).map ac = ((au d t l).chans).map ac∧True)∧True)))) (.w 1 [(3,(JS c s l).O),(7,(JS d t l).O)] <| .e) Tryz.func38 rfl rfl rfl (by kernel_rfl) ?_
 exact tt ⟨(Bt c s l hc hs hsm hl),tt ⟨(Bt d t l hd ht htm hl),tt ⟨⟨rfl,rfl,oK⟩,⟨rfl,rfl,oK⟩,oK⟩⟩⟩
end Go.Proofs.YtgmpoenfoacofaaGreat
