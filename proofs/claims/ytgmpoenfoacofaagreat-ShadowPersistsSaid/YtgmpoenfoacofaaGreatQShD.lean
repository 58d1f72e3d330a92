/-
  Package shadow: the reference.
-/
import Derived.Test.YtgmpoenfoacofaaGreatQShC
import Derived.Test.YtgmpoenfoacofaaGreatQNeP
namespace Go.Proofs.YtgmpoenfoacofaaGreat
open Go.RowKit
set_option linter.unusedVariables false
set_option linter.unusedSimpArgs false
abbrev DS (c : Ci) : List D := [(dL 6 ep ax c.procs),(dL 5 ez aX c.chans)]
set_option maxRecDepth 100000
abbrev NI (a b : List Int) : Ct := ⟨32,[(LI a),(LI b)],false,(dB (decide (a = b)))⟩
abbrev nG (a : List Int) (b : List Int) : Lp (Nat) := fG [0,1,5] 0 (fun (k : Nat) => ⟨[(0,(LI a)),(1,(LI b)),(5,(i6 (k : Int)))],[]⟩) (fun (k : Nat) => k ≤ a.length∧∀ z,z < k → a.getD z 0 = b.getD z 0) (fun (k : Nat) => a.length - k)
theorem Fj (a b : List Int) (ha : a.length ≤ 9223372036854775807) : CC (NI a b) := by
 refine af.vc (V := TT 6 (CN ((a.length : Int) = (b.length : Int)) (TT 2 (false = (decide (a = b))∧True)) (TT 1 (GO (nG a b) 0 (∀ k,(nG a b).inv k → TT 4 (CD ((k : Int) < (a.length : Int)) (TT 2 (IX (k : Int) a.length∧TT 3 (IX (k : Int) b.length∧TT 2 (CN ((a.getD k 0) = (b.getD k 0)) (TT 2 (false = (decide (a = b))∧True)) (TT 1 (W6 ((k + 1 : Nat) : Int)∧TT 1 (AG (nG a b) k (k + 1)))))))) (TT 2 (true = (decide (a = b))∧True)))))))) (.b 10 (.e) (.l (nG a b) 0 (fun k => .b 14 (.b 25 (.e) (.w 5 [(1,.val (i6 ((k + 1 : Nat) : Int)))] <| .e)) (.e)))) Tryz.func32 rfl rfl rfl (by kernel_rfl) ?_
 refine tt (cn (fun hc10 => ?_) (fun hc10 => ?_))
 · refine tt ⟨?_,oK⟩
   first | exact (decide_eq_false (fun e => by subst e; omega)).symm | exact (decide_eq_false (same_no (k := k) (by simpa using hc25))).symm | exact (decide_eq_true (dR (by omega) (by omega) hall)).symm
 · refine tt ⟨rfl,⟨by omega,fun z hz => by omega⟩,?_⟩
   intro k hinv
   obtain ⟨hk,hall⟩ := hinv
   refine tt (cd (fun hc14 => ?_) (fun hc14 => ?_))
   · refine tt ⟨ix,tt ⟨ix,tt (cn (fun hc25 => ?_) (fun hc25 => ?_))⟩⟩
     · refine tt ⟨?_,oK⟩
       first | exact (decide_eq_false (fun e => by subst e; omega)).symm | exact (decide_eq_false (same_no (k := k) (by simpa using hc25))).symm | exact (decide_eq_true (dR (by omega) (by omega) hall)).symm
     · refine tt ⟨w6,tt ⟨(k + 1),rfl,?_,(?_ : a.length - (k + 1) < a.length - k)⟩⟩
       · exact ⟨by omega,br hall (by simpa using hc25)⟩
       · omega
   · refine tt ⟨?_,oK⟩
     first | exact (decide_eq_false (fun e => by subst e; omega)).symm | exact (decide_eq_false (same_no (k := k) (by simpa using hc25))).symm | exact (decide_eq_true (dR (by omega) (by omega) hall)).symm
abbrev I9 (c : Ci) (s : Ns) : Ct := ⟨12,[(.agg (DS c)),(.agg [(dL 2 aY ba s.procs),(dL 1 ac [] s.chans)])],true,(dL 2 ey aG (aj c s))⟩
abbrev gG (c : Ci) (s : Ns) : Lp (Nat × List Sm) := we [2,3,5,6] 3 (fun (i : Nat) (o : List Sm) => ⟨[(2,(.ptr 0 0 0 0)),(3,(.ptr 1 0 0 0)),(5,(.own 2)),(6,(i6 (i : Int)))],[(.var 38 (DS c)),(.var 42 [(dL 2 aY ba s.procs),(dL 1 ac [] s.chans)]),(.arr 30 2 ey aG o)]⟩) (fun (i : Nat) (o : List Sm) => i ≤ c.chans.length∧o = qz c s i) (fun (i : Nat) (o : List Sm) => c.chans.length - i)
theorem jt (c : Ci) (s : Ns) (hc : bo c) (hs : bG c s) : CC (I9 c s) := by
 have hnl := hc.nl
 have hcl := hc.cl
 have hl2 := hs.cl
 refine af.vc (V := TT 3 (an [] (([] : List Sm).map ey)∧TT 2 (GO (gG c s) (0,([] : List Sm)) (∀ i o,(gG c s).inv (i,o) → TT 5 (CD ((i : Int) < (c.chans.length : Int)) (TT 3 (IX (i : Int) c.chans.length∧TT 3 (CD (((c.chans.getD i aX).dst) = (-1)) (TT 4 (IX (i : Int) c.chans.length∧TT 5 (IX (i : Int) s.chans.length∧TT 2 (an [[(dS ((c.chans.getD i aX).name)),(LI (s.chans.getD i []))]] ([(⟨(c.chans.getD i aX).name,(s.chans.getD i [])⟩ : Sm)].map ey)∧(o.length + ([(⟨(c.chans.getD i aX).name,(s.chans.getD i [])⟩ : Sm)].map ey).length ≤ 137438953472∧o.map ey ++ [(⟨(c.chans.getD i aX).name,(s.chans.getD i [])⟩ : Sm)].map ey = (o ++ [(⟨(c.chans.getD i aX).name,(s.chans.getD i [])⟩ : Sm)]).map ey)∧TT 2 (W6 ((i + 1 : Nat) : Int)∧TT 1 (AG (gG c s) (i,o) (i + 1,o ++ [(⟨(c.chans.getD i aX).name,(s.chans.getD i [])⟩ : Sm)]))))))) (TT 1 (W6 ((i + 1 : Nat) : Int)∧TT 1 (AG (gG c s) (i,o) (i + 1,o))))))) (TT 3 (o.map ey = (aj c s).map ey))))))) (.w 1 [(0,.box 30 2 ey aG ([] : List Sm))] <| .l (gG c s) (0,([] : List Sm)) (fun ⟨i,o⟩ => .b 12 (.b 21 (.w 6 [(13,.box 30 2 ey aG [(⟨(c.chans.getD i aX).name,(s.chans.getD i [])⟩ : Sm)]),(14,.box 30 2 ey aG (o ++ [(⟨(c.chans.getD i aX).name,(s.chans.getD i [])⟩ : Sm)]))] <| .w 4 [(1,.val (i6 ((i + 1 : Nat) : Int)))] <| .e) (.w 4 [(1,.val (i6 ((i + 1 : Nat) : Int)))] <| .e)) (.e))) Tryz.func12 rfl rfl rfl (by kernel_rfl) ?_
 refine tt ⟨oK,tt ⟨rfl,⟨by omega,rfl⟩,?_⟩⟩
 intro i o hinv
 obtain ⟨hi,ho⟩ := hinv
 refine tt (cd (fun hc12 => ?_) (fun hc12 => ?_))
 · refine tt ⟨ix,tt (cd (fun hc21 => ?_) (fun hc21 => ?_))⟩
   · refine tt ⟨ix,tt ⟨ix,tt ⟨⟨⟨rfl,rfl,oK⟩,oK⟩,⟨⟨by simp only [List.length_map,List.length_cons,List.length_nil]; have := qA (c := c) (s := s) i; rw [ho]; omega,by simp only [List.map_append,List.map_nil,List.append_nil]⟩,tt ⟨w6,tt ⟨(i + 1,o ++ [(⟨(c.chans.getD i aX).name,(s.chans.getD i [])⟩ : Sm)]),rfl,?_,(?_ : c.chans.length - (i + 1) < c.chans.length - i)⟩⟩⟩⟩⟩⟩
     · exact ⟨by omega,by rw [ho]; first | exact (tC hc21).symm | exact (yL hc21).symm⟩
     · omega
   · refine tt ⟨w6,tt ⟨(i + 1,o),rfl,?_,(?_ : c.chans.length - (i + 1) < c.chans.length - i)⟩⟩
     · exact ⟨by omega,by rw [ho]; first | exact (tC hc21).symm | exact (yL hc21).symm⟩
     · omega
 · refine tt (congrArg _ (?_ : o = (aj c s)))
   rw [ho,show i = c.chans.length by omega]; rfl
abbrev Me (c : Ci) (nm : ByteArray) : Ct := ⟨36,[(.agg (DS c)),(dS nm)],false,(i6 (aQ c.chans nm))⟩
abbrev ko (c : Ci) (nm : ByteArray) : Lp (Nat) := fG [1,2,5] 1 (fun (i : Nat) => ⟨[(1,(dS nm)),(2,(.ptr 0 0 0 0)),(5,(i6 (i : Int)))],[(.var 38 (DS c))]⟩) (fun (i : Nat) => i ≤ c.chans.length∧∀ q,q < i → kU c.chans nm q = false) (fun (i : Nat) => c.chans.length - i)
theorem xz (c : Ci) (nm : ByteArray) (hl : c.chans.length ≤ 100) : CC (Me c nm) := by
 refine af.vc (V := TT 3 (GO (ko c nm) 0 (∀ i,(ko c nm).inv i → TT 5 (CD ((i : Int) < (c.chans.length : Int)) (CS (((c.chans.getD i aX).frm) = (-1)) (TT 3 (IX (i : Int) c.chans.length∧TT 3 ((True∧(decide (((c.chans.getD i aX).frm) = (-1))) = true)∧TT 3 (IX (i : Int) c.chans.length∧TT 5 (CB (((c.chans.getD i aX).name).toList == nm.toList) (TT 3 ((i : Int) = (aQ c.chans nm)∧True)) (TT 1 (W6 ((i + 1 : Nat) : Int)∧TT 1 (AG (ko c nm) i (i + 1))))))))) (TT 3 (IX (i : Int) c.chans.length∧TT 3 ((True∧(decide (((c.chans.getD i aX).frm) = (-1))) = false)∧TT 10 (W6 ((i + 1 : Nat) : Int)∧TT 1 (AG (ko c nm) i (i + 1))))))) (TT 2 ((-1) = (aQ c.chans nm)∧True)))))) (.l (ko c nm) 0 (fun i => .b 10 (.s 4 (((c.chans.getD i aX).frm) = (-1)) (.w 4 [(7,.val (dB true))] <| .b 29 (.e) (.w 3 [(1,.val (i6 ((i + 1 : Nat) : Int)))] <| .e)) (.w 4 [(7,.val (dB false))] <| .w 3 [(1,.val (i6 ((i + 1 : Nat) : Int)))] <| .e)) (.e))) Tryz.func36 rfl rfl rfl (by kernel_rfl) ?_
 refine tt ⟨rfl,⟨by omega,fun q hq => by omega⟩,?_⟩
 intro i hinv
 obtain ⟨hi,h3⟩ := hinv
 refine tt (cd (fun hc10 => ?_) (fun hc10 => ?_))
 · refine ⟨fun hs0 => ?_,fun hs0 => ?_⟩
   · refine tt ⟨ix,tt ⟨(vT hs0),tt ⟨ix,tt ⟨fun hc29 => ?_,fun hc29 => ?_⟩⟩⟩⟩
     · refine tt ⟨?_,oK⟩
       first | exact (bu (f := kU c.chans nm) (by unfold kU; rw [decide_eq_true hs0,Bool.true_and]; exact hc29) h3 (by omega)).symm | exact (bV (f := kU c.chans nm) (fun q hq => h3 q (by omega))).symm
     · refine tt ⟨w6,tt ⟨(i + 1),rfl,?_,(?_ : c.chans.length - (i + 1) < c.chans.length - i)⟩⟩
       · exact ⟨by omega,br h3 (by unfold kU; first | (rw [show ((c.chans.getD i aX).name.toList == nm.toList) = false by simpa using hc29,Bool.and_false]) | (rw [decide_eq_false (by assumption)]; rfl))⟩
       · omega
   · refine tt ⟨ix,tt ⟨(vF hs0),tt ⟨w6,tt ⟨(i + 1),rfl,?_,(?_ : c.chans.length - (i + 1) < c.chans.length - i)⟩⟩⟩⟩
     · exact ⟨by omega,br h3 (by unfold kU; first | (rw [show ((c.chans.getD i aX).name.toList == nm.toList) = false by simpa using hc29,Bool.and_false]) | (rw [decide_eq_false (by assumption)]; rfl))⟩
     · omega
 · refine tt ⟨?_,oK⟩
   first | exact (bu (f := kU c.chans nm) (by unfold kU; rw [decide_eq_true hs0,Bool.true_and]; exact hc29) h3 (by omega)).symm | exact (bV (f := kU c.chans nm) (fun q hq => h3 q (by omega))).symm
abbrev Mf (c d : Ci) (s t : Ns) (z : Sm) : Ct := ⟨15,[(.agg [(dL 6 ep ax c.procs),(dL 5 ez aX c.chans),(dL 6 ep ax d.procs),(dL 5 ez aX d.chans),(dL 2 aY ba s.procs),(dL 1 ac [] s.chans),(dL 2 aY ba t.procs),(dL 1 ac [] t.chans)]),(.agg [(dS z.name),(LI z.words)])],true,(.agg [(dL 2 aY ba (((ai c d s t z.name z.words).1).procs)),(dL 1 ac [] (((ai c d s t z.name z.words).1).chans)),(dL 2 aY ba (((ai c d s t z.name z.words).2.1).procs)),(dL 1 ac [] (((ai c d s t z.name z.words).2.1).chans)),(i6 ((ai c d s t z.name z.words).2.2))])⟩
theorem xA (c d : Ci) (s t : Ns) (z : Sm) (hc : bo c) (hd : bo d) (hs : bG c s) (ht : bG d t) (hsm : ga s 4294967296) (htm : ga t 4294967296) (hw : z.words.length ≤ 4294967296) : CC (Mf c d s t z) := by
 have hnl := hc.nl
 have hcl := hc.cl
 have hl2 := hs.cl
 have hdl := hd.cl
 have hl3 := ht.cl
 refine af.vc (V := TT 7 (CC (Me c z.name)∧TT 4 (CC (Me d z.name)∧TT 2 (CS ((aQ c.chans z.name) < 0) (TT 2 ((True∧(decide ((aQ c.chans z.name) < 0)) = true)∧TT 6 ((((ai c d s t z.name z.words).1).procs) = []∧(((ai c d s t z.name z.words).1).chans) = []∧(((ai c d s t z.name z.words).2.1).procs) = []∧(((ai c d s t z.name z.words).2.1).chans) = []∧(4 : Int) = ((ai c d s t z.name z.words).2.2)∧True))) (TT 2 ((True∧(decide ((aQ c.chans z.name) < 0)) = false)∧TT 3 (CD ((aQ d.chans z.name) < 0) (TT 3 ((((ai c d s t z.name z.words).1).procs) = []∧(((ai c d s t z.name z.words).1).chans) = []∧(((ai c d s t z.name z.words).2.1).procs) = []∧(((ai c d s t z.name z.words).2.1).chans) = []∧(4 : Int) = ((ai c d s t z.name z.words).2.2)∧True)) (TT 8 (CC (L4 c s (aQ c.chans z.name) z.words)∧TT 8 (CC (L4 d t (aQ d.chans z.name) z.words)∧TT 4 (CS (((aF c s (aQ c.chans z.name) z.words).2) = 0) (TT 3 ((True∧(!decide (((aF c s (aQ c.chans z.name) z.words).2) = 0)) = false)∧TT 4 (CN (((aF d t (aQ d.chans z.name) z.words).2) = 0) (TT 3 ((((ai c d s t z.name z.words).1).procs) = []∧(((ai c d s t z.name z.words).1).chans) = []∧(((ai c d s t z.name z.words).2.1).procs) = []∧(((ai c d s t z.name z.words).2.1).chans) = []∧(1 : Int) = ((ai c d s t z.name z.words).2.2)∧True)) (TT 7 ((((aF c s (aQ c.chans z.name) z.words).1).procs).map aY = (((ai c d s t z.name z.words).1).procs).map aY∧(((aF c s (aQ c.chans z.name) z.words).1).chans).map ac = (((ai c d s t z.name z.words).1).chans).map ac∧(((aF d t (aQ d.chans z.name) z.words).1).procs).map aY = (((ai c d s t z.name z.words).2.1).procs).map aY∧(((aF d t (aQ d.chans z.name) z.words).1).chans).map ac = (((ai c d s t z.name z.words).2.1).chans).map ac∧(0 : Int) = ((ai c d s t z.name z.words).2.2)∧True))))) (TT 3 ((True∧(!decide (((aF c s (aQ c.chans z.name) z.words).2) = 0)) = true)∧TT 7 ((((ai c d s t z.name z.words).1).procs) = []∧(((ai c d s t z.name z.words).1).chans) = []∧(((ai c d s t z.name z.words).2.1).procs) = []∧(((ai c d s t z.name z.words).2.1).chans) = []∧(1 : Int) = ((ai c d s t z.name z.words).2.2)∧True)))))))))))))) (.w 1 [(4,(Me c z.name).O),(9,(Me d z.name).O)] <| .s 2 ((aQ c.chans z.name) < 0) (.w 2 [(2,.val (dB true))] <| .e) (.w 2 [(2,.val (dB false))] <| .b 24 (.e) (.w 4 [(8,(L4 c s (aQ c.chans z.name) z.words).O),(17,(L4 d t (aQ d.chans z.name) z.words).O)] <| .s 5 (((aF c s (aQ c.chans z.name) z.words).2) = 0) (.w 5 [(3,.val (dB false))] <| .b 51 (.e) (.e)) (.w 5 [(3,.val (dB true))] <| .e)))) Tryz.func15 rfl rfl rfl (by kernel_rfl) ?_
 refine tt ⟨(xz c z.name (by omega)),tt ⟨(xz d z.name (by omega)),tt ⟨fun hs0 => ?_,fun hs0 => ?_⟩⟩⟩
 · refine tt ⟨(vT hs0),tt ⟨?_,?_,?_,?_,?_,oK⟩⟩
   all_goals (all_goals (first | rfl | (rw [dP (by omega)]; done) | (rw [cM (by omega) (by omega) (by omega)]; done) | (rw [bx (by omega) (by omega)]; done) | (rw [bx (by omega) (by omega)]; exact jH.resolve_left (by omega))))
 · refine tt ⟨(vF hs0),tt (cd (fun hc24 => ?_) (fun hc24 => ?_))⟩
   · refine tt ⟨?_,?_,?_,?_,?_,oK⟩
     all_goals (all_goals (first | rfl | (rw [dP (by omega)]; done) | (rw [cM (by omega) (by omega) (by omega)]; done) | (rw [bx (by omega) (by omega)]; done) | (rw [bx (by omega) (by omega)]; exact jH.resolve_left (by omega))))
   · refine tt ⟨(Ay c s (aQ c.chans z.name) z.words hc hs hsm hw),tt ⟨(Ay d t (aQ d.chans z.name) z.words hd ht htm hw),tt ⟨fun hs1 => ?_,fun hs1 => ?_⟩⟩⟩
     · refine tt ⟨(nF hs1),tt (cn (fun hc51 => ?_) (fun hc51 => ?_))⟩
       · refine tt ⟨?_,?_,?_,?_,?_,oK⟩
         all_goals (all_goals (first | rfl | (rw [dP (by omega)]; done) | (rw [cM (by omega) (by omega) (by omega)]; done) | (rw [bx (by omega) (by omega)]; done) | (rw [bx (by omega) (by omega)]; exact jH.resolve_left (by omega))))
       · refine tt ⟨(congrArg _ (?_ : (((aF c s (aQ c.chans z.name) z.words).1).procs) = (((ai c d s t z.name z.words).1).procs))),(congrArg _ (?_ : (((aF c s (aQ c.chans z.name) z.words).1).chans) = (((ai c d s t z.name z.words).1).chans))),(congrArg _ (?_ : (((aF d t (aQ d.chans z.name) z.words).1).procs) = (((ai c d s t z.name z.words).2.1).procs))),(congrArg _ (?_ : (((aF d t (aQ d.chans z.name) z.words).1).chans) = (((ai c d s t z.name z.words).2.1).chans))),?_,oK⟩
         all_goals (all_goals (first | rfl | (rw [dP (by omega)]; done) | (rw [cM (by omega) (by omega) (by omega)]; done) | (rw [bx (by omega) (by omega)]; done) | (rw [bx (by omega) (by omega)]; exact jH.resolve_left (by omega))))
     · refine tt ⟨(nT hs1),tt ⟨?_,?_,?_,?_,?_,oK⟩⟩
       all_goals (all_goals (first | rfl | (rw [dP (by omega)]; done) | (rw [cM (by omega) (by omega) (by omega)]; done) | (rw [bx (by omega) (by omega)]; done) | (rw [bx (by omega) (by omega)]; exact jH.resolve_left (by omega))))
abbrev NJ (c d : Ci) (s t : Ns) (l : List ByteArray) : Ct := ⟨18,[(.agg [(dL 6 ep ax c.procs),(dL 5 ez aX c.chans),(dL 6 ep ax d.procs),(dL 5 ez aX d.chans),(dL 2 aY ba s.procs),(dL 1 ac [] s.chans),(dL 2 aY ba t.procs),(dL 1 ac [] t.chans)]),(dL 1 eE .empty l)],true,(.agg [(dL 2 aY ba ((aB c s l).procs)),(dL 1 ac [] ((aB c s l).chans)),(dL 2 aY ba ((aB d t l).procs)),(dL 1 ac [] ((aB d t l).chans)),(i6 0)])⟩
theorem HF (c d : Ci) (s t : Ns) (l : List ByteArray) (hc : bo c) (hd : bo d) (hs : bG c s) (ht : bG d t) (hsm : ga s 1000000000) (htm : ga t 1000000000) (hl : l.length ≤ 1000000) : CC (NJ c d s t l) := by
 refine af.vc (V := TT 7 (CC (L7 c s l)∧TT 5 (CC (L7 d t l)∧TT 3 (((aB c s l).procs).map aY = ((aB c s l).procs).map aY∧((aB c s l).chans).map ac = ((aB c s l).chans).map ac∧((aB d t l).procs).map aY = ((aB d t l).procs).map aY∧((aB d t l).chans).map ac = ((aB d t l).chans).map ac∧(0 : Int) = 0∧True)))) (.w 1 [(5,(L7 c s l).O),(11,(L7 d t l).O)] <| .e) Tryz.func18 rfl rfl rfl (by kernel_rfl) ?_
 exact tt ⟨(DI c s l hc hs hsm hl),tt ⟨(DI d t l hd ht htm hl),tt ⟨rfl,rfl,rfl,rfl,rfl,oK⟩⟩⟩
abbrev Mg (a b : List Int) : Ct := ⟨42,[(LI a),(LI b)],false,(i6 (fm a b))⟩
abbrev tW (a : List Int) (b : List Int) : Lp (Nat) := fG [0,1,5] 0 (fun (i : Nat) => ⟨[(0,(LI a)),(1,(LI b)),(5,(i6 (i : Int)))],[]⟩) (fun (i : Nat) => i ≤ min a.length b.length∧∀ q,q < i → gN a b q = false) (fun (i : Nat) => min a.length b.length - i)
theorem DT (a b : List Int) (ha : a.length ≤ 9223372036854775807) : CC (Mg a b) := by
 refine af.vc (V := TT 2 (GO (tW a b) 0 (∀ i,(tW a b).inv i → CS ((i : Int) < (a.length : Int)) (TT 4 ((True∧(decide ((i : Int) < (a.length : Int))) = true)∧TT 5 (CD ((i : Int) < (b.length : Int)) (TT 2 (IX (i : Int) a.length∧TT 3 (IX (i : Int) b.length∧TT 2 (CN ((a.getD i 0) = (b.getD i 0)) (TT 3 ((i : Int) = (fm a b)∧True)) (TT 1 (W6 ((i + 1 : Nat) : Int)∧TT 1 (AG (tW a b) i (i + 1)))))))) (TT 2 ((-1) = (fm a b)∧True))))) (TT 4 ((True∧(decide ((i : Int) < (a.length : Int))) = false)∧TT 7 ((-1) = (fm a b)∧True)))))) (.l (tW a b) 0 (fun i => .s 2 ((i : Int) < (a.length : Int)) (.w 2 [(4,.val (dB true))] <| .b 15 (.b 26 (.e) (.w 3 [(1,.val (i6 ((i + 1 : Nat) : Int)))] <| .e)) (.e)) (.w 2 [(4,.val (dB false))] <| .e))) Tryz.func42 rfl rfl rfl (by kernel_rfl) ?_
 refine tt ⟨rfl,⟨by omega,fun q hq => by omega⟩,?_⟩
 intro i hinv
 obtain ⟨hi,h3⟩ := hinv
 refine ⟨fun hs0 => ?_,fun hs0 => ?_⟩
 · refine tt ⟨(vT hs0),tt (cd (fun hc15 => ?_) (fun hc15 => ?_))⟩
   · refine tt ⟨ix,tt ⟨ix,tt (cn (fun hc26 => ?_) (fun hc26 => ?_))⟩⟩
     · refine tt ⟨?_,oK⟩
       first | exact (bu (f := gN a b) (by unfold gN; rw [decide_eq_false hc26]; rfl) h3 (by omega)).symm | exact (bV (f := gN a b) (fun q hq => h3 q (by omega))).symm
     · refine tt ⟨w6,tt ⟨(i + 1),rfl,?_,(?_ : min a.length b.length - (i + 1) < min a.length b.length - i)⟩⟩
       · exact ⟨by omega,br h3 (by unfold gN; rw [decide_eq_true hc26]; rfl)⟩
       · omega
   · refine tt ⟨?_,oK⟩
     first | exact (bu (f := gN a b) (by unfold gN; rw [decide_eq_false hc26]; rfl) h3 (by omega)).symm | exact (bV (f := gN a b) (fun q hq => h3 q (by omega))).symm
 · refine tt ⟨(vF hs0),tt ⟨?_,oK⟩⟩
   first | exact (bu (f := gN a b) (by unfold gN; rw [decide_eq_false hc26]; rfl) h3 (by omega)).symm | exact (bV (f := gN a b) (fun q hq => h3 q (by omega))).symm
abbrev KJ (l : List Sm) (nm : ByteArray) : Ct := ⟨41,[(dL 2 ey aG l),(dS nm)],false,(i6 (aE l nm))⟩
abbrev qQ (l : List Sm) (nm : ByteArray) : Lp (Nat) := fG [0,1,5] 0 (fun (i : Nat) => ⟨[(0,(dL 2 ey aG l)),(1,(dS nm)),(5,(i6 (i : Int)))],[]⟩) (fun (i : Nat) => i ≤ l.length∧∀ q,q < i → Al l nm q = false) (fun (i : Nat) => l.length - i)
theorem vN (l : List Sm) (nm : ByteArray) (hl : l.length ≤ 9223372036854775807) : CC (KJ l nm) := by
 refine af.vc (V := TT 2 (GO (qQ l nm) 0 (∀ i,(qQ l nm).inv i → TT 4 (CD ((i : Int) < (l.length : Int)) (TT 2 (IX (i : Int) l.length∧TT 4 (CB (((l.getD i aG).name).toList == nm.toList) (TT 3 ((i : Int) = (aE l nm)∧True)) (TT 1 (W6 ((i + 1 : Nat) : Int)∧TT 1 (AG (qQ l nm) i (i + 1))))))) (TT 2 ((-1) = (aE l nm)∧True)))))) (.l (qQ l nm) 0 (fun i => .b 9 (.b 18 (.e) (.w 3 [(1,.val (i6 ((i + 1 : Nat) : Int)))] <| .e)) (.e))) Tryz.func41 rfl rfl rfl (by kernel_rfl) ?_
 refine tt ⟨rfl,⟨by omega,fun q hq => by omega⟩,?_⟩
 intro i hinv
 obtain ⟨hi,h3⟩ := hinv
 refine tt (cd (fun hc9 => ?_) (fun hc9 => ?_))
 · refine tt ⟨ix,tt ⟨fun hc18 => ?_,fun hc18 => ?_⟩⟩
   · refine tt ⟨?_,oK⟩
     first | exact (bu (f := Al l nm) hc18 h3 (by omega)).symm | exact (bV (f := Al l nm) (fun q hq => h3 q (by omega))).symm
   · refine tt ⟨w6,tt ⟨(i + 1),rfl,?_,(?_ : l.length - (i + 1) < l.length - i)⟩⟩
     · exact ⟨by omega,br h3 (by unfold Al; simpa using hc18)⟩
     · omega
 · refine tt ⟨?_,oK⟩
   first | exact (bu (f := Al l nm) hc18 h3 (by omega)).symm | exact (bV (f := Al l nm) (fun q hq => h3 q (by omega))).symm
abbrev Ja (a b : List Sm) : Ct := ⟨20,[(dL 2 ey aG a),(dL 2 ey aG b)],false,(.agg [(dS ((bl a b).name)),(i6 ((bl a b).pos)),(dB ((bl a b).is))])⟩
abbrev ir (a : List Sm) (b : List Sm) : Lp (Nat) := fG [0,1,4,5] 1 (fun (i : Nat) => ⟨[(0,(dL 2 ey aG a)),(1,(dL 2 ey aG b)),(4,(.ptr 0 0 0 0)),(5,(i6 (i : Int)))],[(.var 57 [(dS e0),(i6 0),(dB false)])]⟩) (fun (i : Nat) => i ≤ a.length∧∀ q,q < i → iW a b q = false) (fun (i : Nat) => a.length - i)
theorem nI (a b : List Sm) (ha : a.length ≤ 9223372036854775807) (hb : b.length ≤ 9223372036854775807) (hwa : ∀ i,(a.getD i aG).words.length ≤ 9223372036854775807) : CC (Ja a b) := by
 refine af.vc (V := TT 2 (GO (ir a b) 0 (∀ i,(ir a b).inv i → TT 4 (CD ((i : Int) < (a.length : Int)) (TT 3 (IX (i : Int) a.length∧TT 2 (CC (KJ b ((a.getD i aG).name))∧TT 1 (CS ((aE b ((a.getD i aG).name)) ≥ 0) (CS ((aE a ((a.getD i aG).name)) = (i : Int)) (TT 2 ((True∧(decide ((aE b ((a.getD i aG).name)) ≥ 0)) = true)∧TT 3 (IX (i : Int) a.length∧TT 2 (CC (KJ a ((a.getD i aG).name))∧TT 3 ((True∧(decide ((aE a ((a.getD i aG).name)) = (i : Int))) = true)∧TT 2 (IX (i : Int) a.length∧TT 4 (IX (aE b ((a.getD i aG).name)) b.length∧TT 1 ((True∧((b.getD ((aE b ((a.getD i aG).name)).toNat) aG).words).map (ae .i64) = (b9 b (aE b (a.getD i aG).name)).map (ae .i64))∧CC (Mg ((a.getD i aG).words) (b9 b (aE b (a.getD i aG).name)))∧TT 2 (CD ((fm ((a.getD i aG).words) (b9 b (aE b (a.getD i aG).name))) ≥ 0) (TT 2 (IX (i : Int) a.length∧TT 4 (IX (i : Int) a.length∧TT 4 (IX (aE b ((a.getD i aG).name)) b.length∧TT 1 ((True∧((b.getD ((aE b ((a.getD i aG).name)).toNat) aG).words).map (ae .i64) = (b9 b (aE b (a.getD i aG).name)).map (ae .i64))∧CC (Mg ((a.getD i aG).words) (b9 b (aE b (a.getD i aG).name)))∧TT 3 (((((a.getD i aG).name) = ((bl a b).name)∧(fm ((a.getD i aG).words) (b9 b (aE b (a.getD i aG).name))) = ((bl a b).pos)∧false = ((bl a b).is)∧True))∧((True∧True∧True∧True)))))))) (TT 1 (W6 ((i + 1 : Nat) : Int)∧TT 1 (AG (ir a b) i (i + 1))))))))))))) (TT 2 ((True∧(decide ((aE b ((a.getD i aG).name)) ≥ 0)) = true)∧TT 3 (IX (i : Int) a.length∧TT 2 (CC (KJ a ((a.getD i aG).name))∧TT 3 ((True∧(decide ((aE a ((a.getD i aG).name)) = (i : Int))) = false)∧TT 2 (W6 ((i + 1 : Nat) : Int)∧TT 1 (AG (ir a b) i (i + 1))))))))) (TT 2 ((True∧(decide ((aE b ((a.getD i aG).name)) ≥ 0)) = false)∧TT 4 (W6 ((i + 1 : Nat) : Int)∧TT 1 (AG (ir a b) i (i + 1))))))))) (TT 3 (((e0 = ((bl a b).name)∧(0 : Int) = ((bl a b).pos)∧true = ((bl a b).is)∧True))∧((True∧True∧True∧True)))))))) (.l (ir a b) 0 (fun i => .b 10 (.w 4 [(6,(KJ b ((a.getD i aG).name)).O)] <| .s 5 ((aE b ((a.getD i aG).name)) ≥ 0) (.s 5 ((aE a ((a.getD i aG).name)) = (i : Int)) (.w 5 [(2,.val (dB true)),(9,(KJ a ((a.getD i aG).name)).O),(13,.val (dB true)),(23,.val (LI (b9 b (aE b (a.getD i aG).name)))),(24,(Mg ((a.getD i aG).words) (b9 b (aE b (a.getD i aG).name))).O)] <| .b 46 (.w 6 [(14,.val (LI (b9 b (aE b (a.getD i aG).name)))),(15,(Mg ((a.getD i aG).words) (b9 b (aE b (a.getD i aG).name))).O)] <| .e) (.w 3 [(1,.val (i6 ((i + 1 : Nat) : Int)))] <| .e)) (.w 5 [(2,.val (dB true)),(9,(KJ a ((a.getD i aG).name)).O),(13,.val (dB false))] <| .w 3 [(1,.val (i6 ((i + 1 : Nat) : Int)))] <| .e)) (.w 5 [(2,.val (dB false))] <| .w 3 [(1,.val (i6 ((i + 1 : Nat) : Int)))] <| .e)) (.e))) Tryz.func20 rfl rfl rfl (by kernel_rfl) ?_
 refine tt ⟨rfl,⟨by omega,fun q hq => by omega⟩,?_⟩
 intro i hinv
 obtain ⟨hi,h3⟩ := hinv
 refine tt (cd (fun hc10 => ?_) (fun hc10 => ?_))
 · refine tt ⟨ix,tt ⟨(vN b ((a.getD i aG).name) hb),tt ?_⟩⟩
   have hlt : aE b (a.getD i aG).name < b.length := Dr
   refine ⟨fun hs0 => ?_,fun hs0 => ?_⟩
   · refine ⟨fun hs1 => ?_,fun hs1 => ?_⟩
     · refine tt ⟨(vT hs0),tt ⟨ix,tt ⟨(vN a ((a.getD i aG).name) ha),tt ⟨(vT hs1),tt ⟨ix,tt ⟨ix,tt ⟨⟨oK,(by show _ = List.map _ (gC _ _).words; rw [mi (by omega)])⟩,⟨(DT ((a.getD i aG).words) (b9 b (aE b (a.getD i aG).name)) (hwa i)),tt (cd (fun hc46 => ?_) (fun hc46 => ?_))⟩⟩⟩⟩⟩⟩⟩⟩
       · refine tt ⟨ix,tt ⟨ix,tt ⟨ix,tt ⟨⟨oK,(by show _ = List.map _ (gC _ _).words; rw [mi (by omega)])⟩,⟨(DT ((a.getD i aG).words) (b9 b (aE b (a.getD i aG).name)) (hwa i)),tt ⟨⟨?_,?_,?_,oK⟩,⟨oK,oK,oK,oK⟩⟩⟩⟩⟩⟩⟩
         all_goals (all_goals (first | (rw [sN (fun q hq => h3 q (by omega))]; done) | (rw [r6 (i := i) (by omega) (nf (by omega) (by omega) (by omega)) h3]; rfl)))
       · refine tt ⟨w6,tt ⟨(i + 1),rfl,?_,(?_ : a.length - (i + 1) < a.length - i)⟩⟩
         · exact ⟨by omega,br h3 (by first | exact jo (by omega) | exact nc (by assumption) | exact kV (by assumption))⟩
         · omega
     · refine tt ⟨(vT hs0),tt ⟨ix,tt ⟨(vN a ((a.getD i aG).name) ha),tt ⟨(vF hs1),tt ⟨w6,tt ⟨(i + 1),rfl,?_,(?_ : a.length - (i + 1) < a.length - i)⟩⟩⟩⟩⟩⟩
       · exact ⟨by omega,br h3 (by first | exact jo (by omega) | exact nc (by assumption) | exact kV (by assumption))⟩
       · omega
   · refine tt ⟨(vF hs0),tt ⟨w6,tt ⟨(i + 1),rfl,?_,(?_ : a.length - (i + 1) < a.length - i)⟩⟩⟩
     · exact ⟨by omega,br h3 (by first | exact jo (by omega) | exact nc (by assumption) | exact kV (by assumption))⟩
     · omega
 · refine tt ⟨⟨?_,?_,?_,oK⟩,⟨oK,oK,oK,oK⟩⟩
   all_goals (all_goals (first | (rw [sN (fun q hq => h3 q (by omega))]; done) | (rw [r6 (i := i) (by omega) (nf (by omega) (by omega) (by omega)) h3]; rfl)))
abbrev KK (a b : List Sm) : Ct := ⟨22,[(dL 2 ey aG a),(dL 2 ey aG b)],false,(dB (fo a b))⟩
abbrev ju (a : List Sm) (b : List Sm) : Lp (Nat) := fG [0,1,5] 0 (fun (i : Nat) => ⟨[(0,(dL 2 ey aG a)),(1,(dL 2 ey aG b)),(5,(i6 (i : Int)))],[]⟩) (fun (i : Nat) => i ≤ a.length∧∀ q,q < i → qB a b q = true) (fun (i : Nat) => a.length - i)
theorem mE (a b : List Sm) (ha : a.length ≤ 9223372036854775807) (hb : b.length ≤ 9223372036854775807) (hwa : ∀ i,(a.getD i aG).words.length ≤ 9223372036854775807) : CC (KK a b) := by
 refine af.vc (V := TT 1 (CS ((a.length : Int) = (b.length : Int)) (TT 5 ((True∧(!decide ((a.length : Int) = (b.length : Int))) = false)∧TT 2 (CC (Ja a b)∧TT 3 (CB (!((bl a b).is)) (TT 2 (false = (fo a b)∧True)) (TT 1 (GO (ju a b) 0 (∀ i,(ju a b).inv i → TT 4 (CD ((i : Int) < (a.length : Int)) (CS ((((a.getD i aG).name).toList == ((b.getD i aG).name).toList) = true) (TT 2 (IX (i : Int) a.length∧TT 4 (IX (i : Int) b.length∧TT 3 ((True∧(!(((a.getD i aG).name).toList == ((b.getD i aG).name).toList)) = false)∧TT 2 (IX (i : Int) a.length∧TT 5 (IX (i : Int) b.length∧TT 5 (CN (((((a.getD i aG).words).length : Nat) : Int) = ((((b.getD i aG).words).length : Nat) : Int)) (TT 2 (false = (fo a b)∧True)) (TT 1 (W6 ((i + 1 : Nat) : Int)∧TT 1 (AG (ju a b) i (i + 1))))))))))) (TT 2 (IX (i : Int) a.length∧TT 4 (IX (i : Int) b.length∧TT 3 ((True∧(!(((a.getD i aG).name).toList == ((b.getD i aG).name).toList)) = true)∧TT 3 (false = (fo a b)∧True)))))) (TT 2 (true = (fo a b)∧True)))))))))) (TT 5 ((True∧(!decide ((a.length : Int) = (b.length : Int))) = true)∧TT 8 (false = (fo a b)∧True))))) (.s 1 ((a.length : Int) = (b.length : Int)) (.w 1 [(5,.val (dB false)),(8,(Ja a b).O)] <| .b 17 (.e) (.l (ju a b) 0 (fun i => .b 21 (.s 6 ((((a.getD i aG).name).toList == ((b.getD i aG).name).toList) = true) (.w 6 [(11,.val (dB false))] <| .b 49 (.e) (.w 5 [(1,.val (i6 ((i + 1 : Nat) : Int)))] <| .e)) (.w 6 [(11,.val (dB true))] <| .e)) (.e)))) (.w 1 [(5,.val (dB true))] <| .e)) Tryz.func22 rfl rfl rfl (by kernel_rfl) ?_
 refine tt ⟨fun hs0 => ?_,fun hs0 => ?_⟩
 · refine tt ⟨(nF hs0),tt ⟨(nI a b ha hb hwa),tt ⟨fun hc17 => ?_,fun hc17 => ?_⟩⟩⟩
   · refine tt ⟨?_,oK⟩
     first | exact (e9 (jp (by omega))).symm | exact (kW (by simpa using hc17)).symm | exact (e9 (d8 (i := i) (by omega) (qD (by assumption)))).symm | exact (e9 (d8 (i := i) (by omega) (ng (by omega)))).symm | exact (qE (by simpa using hc17) (hU (by omega) (fun q hq => h3 q (by omega)))).symm
   · refine tt ⟨rfl,⟨by omega,fun q hq => by omega⟩,?_⟩
     intro i hinv
     obtain ⟨hi,h3⟩ := hinv
     refine tt (cd (fun hc21 => ?_) (fun hc21 => ?_))
     · refine ⟨fun hs1 => ?_,fun hs1 => ?_⟩
       · refine tt ⟨ix,tt ⟨ix,tt ⟨(mF hs1),tt ⟨ix,tt ⟨ix,tt (cn (fun hc49 => ?_) (fun hc49 => ?_))⟩⟩⟩⟩⟩
         · refine tt ⟨?_,oK⟩
           first | exact (e9 (jp (by omega))).symm | exact (kW (by simpa using hc17)).symm | exact (e9 (d8 (i := i) (by omega) (qD (by assumption)))).symm | exact (e9 (d8 (i := i) (by omega) (ng (by omega)))).symm | exact (qE (by simpa using hc17) (hU (by omega) (fun q hq => h3 q (by omega)))).symm
         · refine tt ⟨w6,tt ⟨(i + 1),rfl,?_,(?_ : a.length - (i + 1) < a.length - i)⟩⟩
           · exact ⟨by omega,br h3 (Ds (by simpa using hs1) (by omega))⟩
           · omega
       · refine tt ⟨ix,tt ⟨ix,tt ⟨(mT hs1),tt ⟨?_,oK⟩⟩⟩⟩
         first | exact (e9 (jp (by omega))).symm | exact (kW (by simpa using hc17)).symm | exact (e9 (d8 (i := i) (by omega) (qD (by assumption)))).symm | exact (e9 (d8 (i := i) (by omega) (ng (by omega)))).symm | exact (qE (by simpa using hc17) (hU (by omega) (fun q hq => h3 q (by omega)))).symm
     · refine tt ⟨?_,oK⟩
       first | exact (e9 (jp (by omega))).symm | exact (kW (by simpa using hc17)).symm | exact (e9 (d8 (i := i) (by omega) (qD (by assumption)))).symm | exact (e9 (d8 (i := i) (by omega) (ng (by omega)))).symm | exact (qE (by simpa using hc17) (hU (by omega) (fun q hq => h3 q (by omega)))).symm
 · refine tt ⟨(nT hs0),tt ⟨?_,oK⟩⟩
   first | exact (e9 (jp (by omega))).symm | exact (kW (by simpa using hc17)).symm | exact (e9 (d8 (i := i) (by omega) (qD (by assumption)))).symm | exact (e9 (d8 (i := i) (by omega) (ng (by omega)))).symm | exact (qE (by simpa using hc17) (hU (by omega) (fun q hq => h3 q (by omega)))).symm
abbrev NK (a b : List Sm) : Ct := ⟨10,[(dL 2 ey aG a),(dL 2 ey aG b)],false,(dB (r7 a b))⟩
abbrev tX (a : List Sm) (b : List Sm) : Lp (Nat) := fG [0,1,5] 0 (fun (i : Nat) => ⟨[(0,(dL 2 ey aG a)),(1,(dL 2 ey aG b)),(5,(i6 (i : Int)))],[]⟩) (fun (i : Nat) => i ≤ a.length∧∀ q,q < i → G6 a b q = true) (fun (i : Nat) => a.length - i)
theorem Jb (a b : List Sm) (ha : a.length ≤ 9223372036854775807) (hwa : ∀ i,(a.getD i aG).words.length ≤ 9223372036854775807) : CC (NK a b) := by
 refine af.vc (V := TT 6 (CN ((a.length : Int) = (b.length : Int)) (TT 2 (false = (r7 a b)∧True)) (TT 1 (GO (tX a b) 0 (∀ i,(tX a b).inv i → TT 4 (CD ((i : Int) < (a.length : Int)) (CS ((((a.getD i aG).name).toList == ((b.getD i aG).name).toList) = true) (TT 2 (IX (i : Int) a.length∧TT 4 (IX (i : Int) b.length∧TT 3 ((True∧(!(((a.getD i aG).name).toList == ((b.getD i aG).name).toList)) = false)∧TT 2 (IX (i : Int) a.length∧TT 4 (IX (i : Int) b.length∧TT 2 (CC (NI ((a.getD i aG).words) ((b.getD i aG).words))∧TT 2 (CN (((a.getD i aG).words) = ((b.getD i aG).words)) (TT 2 (false = (r7 a b)∧True)) (TT 1 (W6 ((i + 1 : Nat) : Int)∧TT 1 (AG (tX a b) i (i + 1)))))))))))) (TT 2 (IX (i : Int) a.length∧TT 4 (IX (i : Int) b.length∧TT 3 ((True∧(!(((a.getD i aG).name).toList == ((b.getD i aG).name).toList)) = true)∧TT 3 (false = (r7 a b)∧True)))))) (TT 2 (true = (r7 a b)∧True)))))))) (.b 10 (.e) (.l (tX a b) 0 (fun i => .b 14 (.s 6 ((((a.getD i aG).name).toList == ((b.getD i aG).name).toList) = true) (.w 6 [(11,.val (dB false)),(22,(NI ((a.getD i aG).words) ((b.getD i aG).words)).O)] <| .b 41 (.e) (.w 5 [(1,.val (i6 ((i + 1 : Nat) : Int)))] <| .e)) (.w 6 [(11,.val (dB true))] <| .e)) (.e)))) Tryz.func10 rfl rfl rfl (by kernel_rfl) ?_
 refine tt (cn (fun hc10 => ?_) (fun hc10 => ?_))
 · refine tt ⟨?_,oK⟩
   first | exact (tD (by omega)).symm | exact (jq (i := i) (by omega) (tE (by assumption))).symm | exact (jq (i := i) (by omega) (tF (by simpa using hc41))).symm | exact (qC (by omega) (fun q hq => h3 q (by omega))).symm
 · refine tt ⟨rfl,⟨by omega,fun q hq => by omega⟩,?_⟩
   intro i hinv
   obtain ⟨hi,h3⟩ := hinv
   refine tt (cd (fun hc14 => ?_) (fun hc14 => ?_))
   · refine ⟨fun hs0 => ?_,fun hs0 => ?_⟩
     · refine tt ⟨ix,tt ⟨ix,tt ⟨(mF hs0),tt ⟨ix,tt ⟨ix,tt ⟨(Fj ((a.getD i aG).words) ((b.getD i aG).words) (hwa i)),tt (cn (fun hc41 => ?_) (fun hc41 => ?_))⟩⟩⟩⟩⟩⟩
       · refine tt ⟨?_,oK⟩
         first | exact (tD (by omega)).symm | exact (jq (i := i) (by omega) (tE (by assumption))).symm | exact (jq (i := i) (by omega) (tF (by simpa using hc41))).symm | exact (qC (by omega) (fun q hq => h3 q (by omega))).symm
       · refine tt ⟨w6,tt ⟨(i + 1),rfl,?_,(?_ : a.length - (i + 1) < a.length - i)⟩⟩
         · exact ⟨by omega,br h3 (IH (by simpa using hs0) (by simpa using hc41))⟩
         · omega
     · refine tt ⟨ix,tt ⟨ix,tt ⟨(mT hs0),tt ⟨?_,oK⟩⟩⟩⟩
       first | exact (tD (by omega)).symm | exact (jq (i := i) (by omega) (tE (by assumption))).symm | exact (jq (i := i) (by omega) (tF (by simpa using hc41))).symm | exact (qC (by omega) (fun q hq => h3 q (by omega))).symm
   · refine tt ⟨?_,oK⟩
     first | exact (tD (by omega)).symm | exact (jq (i := i) (by omega) (tE (by assumption))).symm | exact (jq (i := i) (by omega) (tF (by simpa using hc41))).symm | exact (qC (by omega) (fun q hq => h3 q (by omega))).symm
abbrev Jc (l : List Int) : Ct := ⟨17,[(LY l)],true,(dL 1 eE .empty (aq l))⟩
abbrev ll (l : List Int) : Lp (Nat) := fG [0,3,4] 1 (fun (i : Nat) => ⟨[(0,(LY l)),(3,(.own 0)),(4,(i6 (i : Int)))],[(.arr 9 1 eE .empty (tab (wm l) i))]⟩) (fun (i : Nat) => i ≤ l.length) (fun (i : Nat) => l.length - i)
theorem lm (l : List Int) (hl : l.length ≤ 1000000) (go : gR l) : CC (Jc l) := by
 refine af.vc (V := TT 1 (an [] ((tab (wm l) 0).map eE)∧TT 2 (GO (ll l) 0 (∀ i,(ll l).inv i → TT 4 (CD ((i : Int) < (l.length : Int)) (TT 1 (an [[(dS (bs [97]))],[(dS (bs [98]))]] ([(bs [97]),(bs [98])].map eE)∧TT 2 (IX (i : Int) l.length∧TT 1 (QM (l.getD i 0) 2∧IX ((l.getD i 0) % 2) ([(bs [97]),(bs [98])].length)∧(((l.getD i 0) % 2).toNat < [(bs [97]),(bs [98])].length∧True)∧an [[(dS (([(bs [97]),(bs [98])]).getD (((l.getD i 0) % 2).toNat) .empty))]] ([(([(bs [97]),(bs [98])]).getD (((l.getD i 0) % 2).toNat) .empty)].map eE)∧((tab (wm l) i).length + ([(([(bs [97]),(bs [98])]).getD (((l.getD i 0) % 2).toNat) .empty)].map eE).length ≤ 137438953472∧(tab (wm l) i).map eE ++ [(([(bs [97]),(bs [98])]).getD (((l.getD i 0) % 2).toNat) .empty)].map eE = (tab (wm l) (i + 1)).map eE)∧TT 2 (W6 ((i + 1 : Nat) : Int)∧TT 1 (AG (ll l) i (i + 1))))))) (TT 3 ((tab (wm l) i).map eE = (aq l).map eE))))))) (.w 1 [(0,.box 9 1 eE .empty (tab (wm l) 0))] <| .l (ll l) 0 (fun i => .b 9 (.w 5 [(1,.box 9 1 eE .empty [(bs [97]),(bs [98])]),(6,.val (dI .u8 ((l.getD i 0) % 2))),(9,.box 9 1 eE .empty [(([(bs [97]),(bs [98])]).getD (((l.getD i 0) % 2).toNat) .empty)]),(10,.box 9 1 eE .empty (tab (wm l) (i + 1)))] <| .w 4 [(1,.val (i6 ((i + 1 : Nat) : Int)))] <| .e) (.e))) Tryz.func17 rfl rfl rfl (by kernel_rfl) ?_
 refine tt ⟨oK,tt ⟨rfl,(by omega),?_⟩⟩
 intro i hinv
 have hi := hinv
 refine tt (cd (fun hc9 => ?_) (fun hc9 => ?_))
 · have hgi := dD go i
   refine tt ⟨⟨⟨rfl,oK⟩,⟨rfl,oK⟩,oK⟩,tt ⟨ix,tt ⟨qm,⟨ix,⟨⟨om,oK⟩,⟨⟨⟨rfl,oK⟩,oK⟩,⟨(bt (by omega) rfl),tt ⟨w6,tt ⟨(i + 1),rfl,(?_ : (i + 1) ≤ l.length),(?_ : l.length - (i + 1) < l.length - i)⟩⟩⟩⟩⟩⟩⟩⟩⟩
   · omega
   · omega
 · refine tt (congrArg _ (?_ : (tab (wm l) i) = (aq l)))
   rw [show i = l.length by omega]; rfl
end Go.Proofs.YtgmpoenfoacofaaGreat
