/-
  Package shadow: the reference.
-/
import Derived.Test.YtgmpoenfoacofaaGreatQShC
import Derived.Test.YtgmpoenfoacofaaGreatQNeP
namespace Go.Proofs.YtgmpoenfoacofaaGreat
open Go.RowKit
set_option linter.unusedVariables false
set_option linter.unusedSimpArgs false
abbrev Ca (c : Ci) : List D := [(dL 6 eu au c.procs),(dL 5 eB bi c.chans)]
set_option maxRecDepth 100000
abbrev LG (a b : List Int) : Ct := ⟨32,[(LI a),(LI b)],false,(dB (decide (a = b)))⟩
abbrev mi (a : List Int) (b : List Int) : Lp (Nat) := f6 [0,1,5] 0 (fun (k : Nat) => ⟨[(0,(LI a)),(1,(LI b)),(5,(i6 (k : Int)))],[]⟩) (fun (k : Nat) => k ≤ a.length∧∀ z,z < k → a.getD z 0 = b.getD z 0) (fun (k : Nat) => a.length - k)
theorem Dp (a b : List Int) (ha : a.length ≤ 9223372036854775807) : CC (LG a b) := by
 refine af.vc (V := TT 6 (CN ((a.length : Int) = (b.length : Int)) (TT 2 (false = (decide (a = b))∧True)) (TT 1 (GO (mi a b) 0 (∀ k,(mi a b).inv k → TT 4 (CD ((k : Int) < (a.length : Int)) (TT 2 (IX (k : Int) a.length∧TT 3 (IX (k : Int) b.length∧TT 2 (CN ((a.getD k 0) = (b.getD k 0)) (TT 2 (false = (decide (a = b))∧True)) (TT 1 (W6 ((k + 1 : Nat) : Int)∧TT 1 (AG (mi a b) k (k + 1)))))))) (TT 2 (true = (decide (a = b))∧True)))))))) (.b 10 (.e) (.l (mi a b) 0 (fun k => .b 14 (.b 25 (.e) (.w 5 [(1,.val (i6 ((k + 1 : Nat) : Int)))] <| .e)) (.e)))) Tryz.func32 rfl rfl rfl (by kernel_rfl) ?_
 refine tt (cn (fun hc10 => ?_) (fun hc10 => ?_))
 · refine tt ⟨?_,oK⟩
   first | exact (decide_eq_false (fun e => by subst e; omega)).symm | exact (decide_eq_false (same_no (k := k) (by simpa using hc25))).symm | exact (decide_eq_true (dk (by omega) (by omega) hall)).symm
 · refine tt ⟨rfl,⟨by omega,fun z hz => by omega⟩,?_⟩
   intro k hinv
   obtain ⟨hk,hall⟩ := hinv
   refine tt (cd (fun hc14 => ?_) (fun hc14 => ?_))
   · refine tt ⟨ix,tt ⟨ix,tt (cn (fun hc25 => ?_) (fun hc25 => ?_))⟩⟩
     · refine tt ⟨?_,oK⟩
       first | exact (decide_eq_false (fun e => by subst e; omega)).symm | exact (decide_eq_false (same_no (k := k) (by simpa using hc25))).symm | exact (decide_eq_true (dk (by omega) (by omega) hall)).symm
     · refine tt ⟨w6,tt ⟨(k + 1),rfl,?_,(?_ : a.length - (k + 1) < a.length - k)⟩⟩
       · exact ⟨by omega,bH hall (by simpa using hc25)⟩
       · omega
   · refine tt ⟨?_,oK⟩
     first | exact (decide_eq_false (fun e => by subst e; omega)).symm | exact (decide_eq_false (same_no (k := k) (by simpa using hc25))).symm | exact (decide_eq_true (dk (by omega) (by omega) hall)).symm
abbrev IP (c : Ci) (s : Ns) : Ct := ⟨12,[(.agg (Ca c)),(.agg [(dL 2 aV a7 s.procs),(dL 1 ac [] s.chans)])],true,(dL 2 dZ aG (br c s))⟩
abbrev fW (c : Ci) (s : Ns) : Lp (Nat × List Sm) := uN [2,3,5,6] 3 (fun (i : Nat) (o : List Sm) => ⟨[(2,(.ptr 0 0 0 0)),(3,(.ptr 1 0 0 0)),(5,(.own 2)),(6,(i6 (i : Int)))],[(.var 38 (Ca c)),(.var 42 [(dL 2 aV a7 s.procs),(dL 1 ac [] s.chans)]),(.arr 30 2 dZ aG o)]⟩) (fun (i : Nat) (o : List Sm) => i ≤ c.chans.length∧o = pk c s i) (fun (i : Nat) (o : List Sm) => c.chans.length - i)
theorem lw (c : Ci) (s : Ns) (hc : bC c) (hs : b8 c s) : CC (IP c s) := by
 have hnl := hc.nl
 have hcl := hc.cl
 have hl2 := hs.cl
 refine af.vc (V := TT 3 (am [] (([] : List Sm).map dZ)∧TT 2 (GO (fW c s) (0,([] : List Sm)) (∀ i o,(fW c s).inv (i,o) → TT 5 (CD ((i : Int) < (c.chans.length : Int)) (TT 3 (IX (i : Int) c.chans.length∧TT 3 (CD (((c.chans.getD i bi).dst) = (-1)) (TT 4 (IX (i : Int) c.chans.length∧TT 5 (IX (i : Int) s.chans.length∧TT 2 (am [[(dS ((c.chans.getD i bi).name)),(LI (s.chans.getD i []))]] ([(⟨(c.chans.getD i bi).name,(s.chans.getD i [])⟩ : Sm)].map dZ)∧(o.length + ([(⟨(c.chans.getD i bi).name,(s.chans.getD i [])⟩ : Sm)].map dZ).length ≤ 137438953472∧o.map dZ ++ [(⟨(c.chans.getD i bi).name,(s.chans.getD i [])⟩ : Sm)].map dZ = (o ++ [(⟨(c.chans.getD i bi).name,(s.chans.getD i [])⟩ : Sm)]).map dZ)∧TT 2 (W6 ((i + 1 : Nat) : Int)∧TT 1 (AG (fW c s) (i,o) (i + 1,o ++ [(⟨(c.chans.getD i bi).name,(s.chans.getD i [])⟩ : Sm)]))))))) (TT 1 (W6 ((i + 1 : Nat) : Int)∧TT 1 (AG (fW c s) (i,o) (i + 1,o))))))) (TT 3 (o.map dZ = (br c s).map dZ))))))) (.w 1 [(0,.box 30 2 dZ aG ([] : List Sm))] <| .l (fW c s) (0,([] : List Sm)) (fun ⟨i,o⟩ => .b 12 (.b 21 (.w 6 [(13,.box 30 2 dZ aG [(⟨(c.chans.getD i bi).name,(s.chans.getD i [])⟩ : Sm)]),(14,.box 30 2 dZ aG (o ++ [(⟨(c.chans.getD i bi).name,(s.chans.getD i [])⟩ : Sm)]))] <| .w 4 [(1,.val (i6 ((i + 1 : Nat) : Int)))] <| .e) (.w 4 [(1,.val (i6 ((i + 1 : Nat) : Int)))] <| .e)) (.e))) Tryz.func12 rfl rfl rfl (by kernel_rfl) ?_
 refine tt ⟨oK,tt ⟨rfl,⟨by omega,rfl⟩,?_⟩⟩
 intro i o hinv
 obtain ⟨hi,ho⟩ := hinv
 refine tt (cd (fun hc12 => ?_) (fun hc12 => ?_))
 · refine tt ⟨ix,tt (cd (fun hc21 => ?_) (fun hc21 => ?_))⟩
   · refine tt ⟨ix,tt ⟨ix,tt ⟨⟨⟨rfl,rfl,oK⟩,oK⟩,⟨⟨by simp only [List.length_map,List.length_cons,List.length_nil]; have := pm (c := c) (s := s) i; rw [ho]; omega,by simp only [List.map_append,List.map_nil,List.append_nil]⟩,tt ⟨w6,tt ⟨(i + 1,o ++ [(⟨(c.chans.getD i bi).name,(s.chans.getD i [])⟩ : Sm)]),rfl,?_,(?_ : c.chans.length - (i + 1) < c.chans.length - i)⟩⟩⟩⟩⟩⟩
     · exact ⟨by omega,by rw [ho]; first | exact (sd hc21).symm | exact (xt hc21).symm⟩
     · omega
   · refine tt ⟨w6,tt ⟨(i + 1,o),rfl,?_,(?_ : c.chans.length - (i + 1) < c.chans.length - i)⟩⟩
     · exact ⟨by omega,by rw [ho]; first | exact (sd hc21).symm | exact (xt hc21).symm⟩
     · omega
 · refine tt (congrArg _ (?_ : o = (br c s)))
   rw [ho,show i = c.chans.length by omega]; rfl
abbrev J9 (c : Ci) (nm : ByteArray) : Ct := ⟨36,[(.agg (Ca c)),(dS nm)],false,(i6 (aR c.chans nm))⟩
abbrev jx (c : Ci) (nm : ByteArray) : Lp (Nat) := f6 [1,2,5] 1 (fun (i : Nat) => ⟨[(1,(dS nm)),(2,(.ptr 0 0 0 0)),(5,(i6 (i : Int)))],[(.var 38 (Ca c))]⟩) (fun (i : Nat) => i ≤ c.chans.length∧∀ q,q < i → k9 c.chans nm q = false) (fun (i : Nat) => c.chans.length - i)
theorem wa (c : Ci) (nm : ByteArray) (hl : c.chans.length ≤ 100) : CC (J9 c nm) := by
 refine af.vc (V := TT 3 (GO (jx c nm) 0 (∀ i,(jx c nm).inv i → TT 5 (CD ((i : Int) < (c.chans.length : Int)) (CS (((c.chans.getD i bi).frm) = (-1)) (TT 3 (IX (i : Int) c.chans.length∧TT 3 ((True∧(decide (((c.chans.getD i bi).frm) = (-1))) = true)∧TT 3 (IX (i : Int) c.chans.length∧TT 5 (CB (((c.chans.getD i bi).name).toList == nm.toList) (TT 3 ((i : Int) = (aR c.chans nm)∧True)) (TT 1 (W6 ((i + 1 : Nat) : Int)∧TT 1 (AG (jx c nm) i (i + 1))))))))) (TT 3 (IX (i : Int) c.chans.length∧TT 3 ((True∧(decide (((c.chans.getD i bi).frm) = (-1))) = false)∧TT 10 (W6 ((i + 1 : Nat) : Int)∧TT 1 (AG (jx c nm) i (i + 1))))))) (TT 2 ((-1) = (aR c.chans nm)∧True)))))) (.l (jx c nm) 0 (fun i => .b 10 (.s 4 (((c.chans.getD i bi).frm) = (-1)) (.w 4 [(7,.val (dB true))] <| .b 29 (.e) (.w 3 [(1,.val (i6 ((i + 1 : Nat) : Int)))] <| .e)) (.w 4 [(7,.val (dB false))] <| .w 3 [(1,.val (i6 ((i + 1 : Nat) : Int)))] <| .e)) (.e))) Tryz.func36 rfl rfl rfl (by kernel_rfl) ?_
 refine tt ⟨rfl,⟨by omega,fun q hq => by omega⟩,?_⟩
 intro i hinv
 obtain ⟨hi,h3⟩ := hinv
 refine tt (cd (fun hc10 => ?_) (fun hc10 => ?_))
 · refine ⟨fun hs0 => ?_,fun hs0 => ?_⟩
   · refine tt ⟨ix,tt ⟨(vT hs0),tt ⟨ix,tt ⟨fun hc29 => ?_,fun hc29 => ?_⟩⟩⟩⟩
     · refine tt ⟨?_,oK⟩
       first | exact (bo (f := k9 c.chans nm) (by unfold k9; rw [decide_eq_true hs0,Bool.true_and]; exact hc29) h3 (by omega)).symm | exact (bM (f := k9 c.chans nm) (fun q hq => h3 q (by omega))).symm
     · refine tt ⟨w6,tt ⟨(i + 1),rfl,?_,(?_ : c.chans.length - (i + 1) < c.chans.length - i)⟩⟩
       · exact ⟨by omega,bH h3 (by unfold k9; first | (rw [show ((c.chans.getD i bi).name.toList == nm.toList) = false by simpa using hc29,Bool.and_false]) | (rw [decide_eq_false (by assumption)]; rfl))⟩
       · omega
   · refine tt ⟨ix,tt ⟨(vF hs0),tt ⟨w6,tt ⟨(i + 1),rfl,?_,(?_ : c.chans.length - (i + 1) < c.chans.length - i)⟩⟩⟩⟩
     · exact ⟨by omega,bH h3 (by unfold k9; first | (rw [show ((c.chans.getD i bi).name.toList == nm.toList) = false by simpa using hc29,Bool.and_false]) | (rw [decide_eq_false (by assumption)]; rfl))⟩
     · omega
 · refine tt ⟨?_,oK⟩
   first | exact (bo (f := k9 c.chans nm) (by unfold k9; rw [decide_eq_true hs0,Bool.true_and]; exact hc29) h3 (by omega)).symm | exact (bM (f := k9 c.chans nm) (fun q hq => h3 q (by omega))).symm
abbrev Ka (c d : Ci) (s t : Ns) (z : Sm) : Ct := ⟨15,[(.agg [(dL 6 eu au c.procs),(dL 5 eB bi c.chans),(dL 6 eu au d.procs),(dL 5 eB bi d.chans),(dL 2 aV a7 s.procs),(dL 1 ac [] s.chans),(dL 2 aV a7 t.procs),(dL 1 ac [] t.chans)]),(.agg [(dS z.name),(LI z.words)])],true,(.agg [(dL 2 aV a7 (((ai c d s t z.name z.words).1).procs)),(dL 1 ac [] (((ai c d s t z.name z.words).1).chans)),(dL 2 aV a7 (((ai c d s t z.name z.words).2.1).procs)),(dL 1 ac [] (((ai c d s t z.name z.words).2.1).chans)),(i6 ((ai c d s t z.name z.words).2.2))])⟩
theorem wb (c d : Ci) (s t : Ns) (z : Sm) (hc : bC c) (hd : bC d) (hs : b8 c s) (ht : b8 d t) (hsm : gw s 4294967296) (htm : gw t 4294967296) (hw : z.words.length ≤ 4294967296) : CC (Ka c d s t z) := by
 have hnl := hc.nl
 have hcl := hc.cl
 have hl2 := hs.cl
 have hdl := hd.cl
 have hl3 := ht.cl
 refine af.vc (V := TT 7 (CC (J9 c z.name)∧TT 4 (CC (J9 d z.name)∧TT 2 (CS ((aR c.chans z.name) < 0) (TT 2 ((True∧(decide ((aR c.chans z.name) < 0)) = true)∧TT 6 ((((ai c d s t z.name z.words).1).procs) = []∧(((ai c d s t z.name z.words).1).chans) = []∧(((ai c d s t z.name z.words).2.1).procs) = []∧(((ai c d s t z.name z.words).2.1).chans) = []∧(4 : Int) = ((ai c d s t z.name z.words).2.2)∧True))) (TT 2 ((True∧(decide ((aR c.chans z.name) < 0)) = false)∧TT 3 (CD ((aR d.chans z.name) < 0) (TT 3 ((((ai c d s t z.name z.words).1).procs) = []∧(((ai c d s t z.name z.words).1).chans) = []∧(((ai c d s t z.name z.words).2.1).procs) = []∧(((ai c d s t z.name z.words).2.1).chans) = []∧(4 : Int) = ((ai c d s t z.name z.words).2.2)∧True)) (TT 8 (CC (JZ c s (aR c.chans z.name) z.words)∧TT 8 (CC (JZ d t (aR d.chans z.name) z.words)∧TT 4 (CS (((aA c s (aR c.chans z.name) z.words).2) = 0) (TT 3 ((True∧(!decide (((aA c s (aR c.chans z.name) z.words).2) = 0)) = false)∧TT 4 (CN (((aA d t (aR d.chans z.name) z.words).2) = 0) (TT 3 ((((ai c d s t z.name z.words).1).procs) = []∧(((ai c d s t z.name z.words).1).chans) = []∧(((ai c d s t z.name z.words).2.1).procs) = []∧(((ai c d s t z.name z.words).2.1).chans) = []∧(1 : Int) = ((ai c d s t z.name z.words).2.2)∧True)) (TT 7 ((((aA c s (aR c.chans z.name) z.words).1).procs).map aV = (((ai c d s t z.name z.words).1).procs).map aV∧(((aA c s (aR c.chans z.name) z.words).1).chans).map ac = (((ai c d s t z.name z.words).1).chans).map ac∧(((aA d t (aR d.chans z.name) z.words).1).procs).map aV = (((ai c d s t z.name z.words).2.1).procs).map aV∧(((aA d t (aR d.chans z.name) z.words).1).chans).map ac = (((ai c d s t z.name z.words).2.1).chans).map ac∧(0 : Int) = ((ai c d s t z.name z.words).2.2)∧True))))) (TT 3 ((True∧(!decide (((aA c s (aR c.chans z.name) z.words).2) = 0)) = true)∧TT 7 ((((ai c d s t z.name z.words).1).procs) = []∧(((ai c d s t z.name z.words).1).chans) = []∧(((ai c d s t z.name z.words).2.1).procs) = []∧(((ai c d s t z.name z.words).2.1).chans) = []∧(1 : Int) = ((ai c d s t z.name z.words).2.2)∧True)))))))))))))) (.w 1 [(4,(J9 c z.name).O),(9,(J9 d z.name).O)] <| .s 2 ((aR c.chans z.name) < 0) (.w 2 [(2,.val (dB true))] <| .e) (.w 2 [(2,.val (dB false))] <| .b 24 (.e) (.w 4 [(8,(JZ c s (aR c.chans z.name) z.words).O),(17,(JZ d t (aR d.chans z.name) z.words).O)] <| .s 5 (((aA c s (aR c.chans z.name) z.words).2) = 0) (.w 5 [(3,.val (dB false))] <| .b 51 (.e) (.e)) (.w 5 [(3,.val (dB true))] <| .e)))) Tryz.func15 rfl rfl rfl (by kernel_rfl) ?_
 refine tt ⟨(wa c z.name (by omega)),tt ⟨(wa d z.name (by omega)),tt ⟨fun hs0 => ?_,fun hs0 => ?_⟩⟩⟩
 · refine tt ⟨(vT hs0),tt ⟨?_,?_,?_,?_,?_,oK⟩⟩
   all_goals (all_goals (first | rfl | (rw [dY (by omega)]; done) | (rw [cU (by omega) (by omega) (by omega)]; done) | (rw [bn (by omega) (by omega)]; done) | (rw [bn (by omega) (by omega)]; exact i4.resolve_left (by omega))))
 · refine tt ⟨(vF hs0),tt (cd (fun hc24 => ?_) (fun hc24 => ?_))⟩
   · refine tt ⟨?_,?_,?_,?_,?_,oK⟩
     all_goals (all_goals (first | rfl | (rw [dY (by omega)]; done) | (rw [cU (by omega) (by omega) (by omega)]; done) | (rw [bn (by omega) (by omega)]; done) | (rw [bn (by omega) (by omega)]; exact i4.resolve_left (by omega))))
   · refine tt ⟨(yZ c s (aR c.chans z.name) z.words hc hs hsm hw),tt ⟨(yZ d t (aR d.chans z.name) z.words hd ht htm hw),tt ⟨fun hs1 => ?_,fun hs1 => ?_⟩⟩⟩
     · refine tt ⟨(nF hs1),tt (cn (fun hc51 => ?_) (fun hc51 => ?_))⟩
       · refine tt ⟨?_,?_,?_,?_,?_,oK⟩
         all_goals (all_goals (first | rfl | (rw [dY (by omega)]; done) | (rw [cU (by omega) (by omega) (by omega)]; done) | (rw [bn (by omega) (by omega)]; done) | (rw [bn (by omega) (by omega)]; exact i4.resolve_left (by omega))))
       · refine tt ⟨(congrArg _ (?_ : (((aA c s (aR c.chans z.name) z.words).1).procs) = (((ai c d s t z.name z.words).1).procs))),(congrArg _ (?_ : (((aA c s (aR c.chans z.name) z.words).1).chans) = (((ai c d s t z.name z.words).1).chans))),(congrArg _ (?_ : (((aA d t (aR d.chans z.name) z.words).1).procs) = (((ai c d s t z.name z.words).2.1).procs))),(congrArg _ (?_ : (((aA d t (aR d.chans z.name) z.words).1).chans) = (((ai c d s t z.name z.words).2.1).chans))),?_,oK⟩
         all_goals (all_goals (first | rfl | (rw [dY (by omega)]; done) | (rw [cU (by omega) (by omega) (by omega)]; done) | (rw [bn (by omega) (by omega)]; done) | (rw [bn (by omega) (by omega)]; exact i4.resolve_left (by omega))))
     · refine tt ⟨(nT hs1),tt ⟨?_,?_,?_,?_,?_,oK⟩⟩
       all_goals (all_goals (first | rfl | (rw [dY (by omega)]; done) | (rw [cU (by omega) (by omega) (by omega)]; done) | (rw [bn (by omega) (by omega)]; done) | (rw [bn (by omega) (by omega)]; exact i4.resolve_left (by omega))))
abbrev LH (c d : Ci) (s t : Ns) (l : List ByteArray) : Ct := ⟨18,[(.agg [(dL 6 eu au c.procs),(dL 5 eB bi c.chans),(dL 6 eu au d.procs),(dL 5 eB bi d.chans),(dL 2 aV a7 s.procs),(dL 1 ac [] s.chans),(dL 2 aV a7 t.procs),(dL 1 ac [] t.chans)]),(dL 1 er .empty l)],true,(.agg [(dL 2 aV a7 ((bu c s l).procs)),(dL 1 ac [] ((bu c s l).chans)),(dL 2 aV a7 ((bu d t l).procs)),(dL 1 ac [] ((bu d t l).chans)),(i6 0)])⟩
theorem FM (c d : Ci) (s t : Ns) (l : List ByteArray) (hc : bC c) (hd : bC d) (hs : b8 c s) (ht : b8 d t) (hsm : gw s 1000000000) (htm : gw t 1000000000) (hl : l.length ≤ 1000000) : CC (LH c d s t l) := by
 refine af.vc (V := TT 7 (CC (J2 c s l)∧TT 5 (CC (J2 d t l)∧TT 3 (((bu c s l).procs).map aV = ((bu c s l).procs).map aV∧((bu c s l).chans).map ac = ((bu c s l).chans).map ac∧((bu d t l).procs).map aV = ((bu d t l).procs).map aV∧((bu d t l).chans).map ac = ((bu d t l).chans).map ac∧(0 : Int) = 0∧True)))) (.w 1 [(5,(J2 c s l).O),(11,(J2 d t l).O)] <| .e) Tryz.func18 rfl rfl rfl (by kernel_rfl) ?_
 exact tt ⟨(B1 c s l hc hs hsm hl),tt ⟨(B1 d t l hd ht htm hl),tt ⟨rfl,rfl,rfl,rfl,rfl,oK⟩⟩⟩
abbrev Kb (a b : List Int) : Ct := ⟨42,[(LI a),(LI b)],false,(i6 (i3 a b))⟩
abbrev sD (a : List Int) (b : List Int) : Lp (Nat) := f6 [0,1,5] 0 (fun (i : Nat) => ⟨[(0,(LI a)),(1,(LI b)),(5,(i6 (i : Int)))],[]⟩) (fun (i : Nat) => i ≤ min a.length b.length∧∀ q,q < i → jq a b q = false) (fun (i : Nat) => min a.length b.length - i)
theorem Cb (a b : List Int) (ha : a.length ≤ 9223372036854775807) : CC (Kb a b) := by
 refine af.vc (V := TT 2 (GO (sD a b) 0 (∀ i,(sD a b).inv i → CS ((i : Int) < (a.length : Int)) (TT 4 ((True∧(decide ((i : Int) < (a.length : Int))) = true)∧TT 5 (CD ((i : Int) < (b.length : Int)) (TT 2 (IX (i : Int) a.length∧TT 3 (IX (i : Int) b.length∧TT 2 (CN ((a.getD i 0) = (b.getD i 0)) (TT 3 ((i : Int) = (i3 a b)∧True)) (TT 1 (W6 ((i + 1 : Nat) : Int)∧TT 1 (AG (sD a b) i (i + 1)))))))) (TT 2 ((-1) = (i3 a b)∧True))))) (TT 4 ((True∧(decide ((i : Int) < (a.length : Int))) = false)∧TT 7 ((-1) = (i3 a b)∧True)))))) (.l (sD a b) 0 (fun i => .s 2 ((i : Int) < (a.length : Int)) (.w 2 [(4,.val (dB true))] <| .b 15 (.b 26 (.e) (.w 3 [(1,.val (i6 ((i + 1 : Nat) : Int)))] <| .e)) (.e)) (.w 2 [(4,.val (dB false))] <| .e))) Tryz.func42 rfl rfl rfl (by kernel_rfl) ?_
 refine tt ⟨rfl,⟨by omega,fun q hq => by omega⟩,?_⟩
 intro i hinv
 obtain ⟨hi,h3⟩ := hinv
 refine ⟨fun hs0 => ?_,fun hs0 => ?_⟩
 · refine tt ⟨(vT hs0),tt (cd (fun hc15 => ?_) (fun hc15 => ?_))⟩
   · refine tt ⟨ix,tt ⟨ix,tt (cn (fun hc26 => ?_) (fun hc26 => ?_))⟩⟩
     · refine tt ⟨?_,oK⟩
       first | exact (bo (f := jq a b) (by unfold jq; rw [decide_eq_false hc26]; rfl) h3 (by omega)).symm | exact (bM (f := jq a b) (fun q hq => h3 q (by omega))).symm
     · refine tt ⟨w6,tt ⟨(i + 1),rfl,?_,(?_ : min a.length b.length - (i + 1) < min a.length b.length - i)⟩⟩
       · exact ⟨by omega,bH h3 (by unfold jq; rw [decide_eq_true hc26]; rfl)⟩
       · omega
   · refine tt ⟨?_,oK⟩
     first | exact (bo (f := jq a b) (by unfold jq; rw [decide_eq_false hc26]; rfl) h3 (by omega)).symm | exact (bM (f := jq a b) (fun q hq => h3 q (by omega))).symm
 · refine tt ⟨(vF hs0),tt ⟨?_,oK⟩⟩
   first | exact (bo (f := jq a b) (by unfold jq; rw [decide_eq_false hc26]; rfl) h3 (by omega)).symm | exact (bM (f := jq a b) (fun q hq => h3 q (by omega))).symm
abbrev IQ (l : List Sm) (nm : ByteArray) : Ct := ⟨41,[(dL 2 dZ aG l),(dS nm)],false,(i6 (aE l nm))⟩
abbrev pJ (l : List Sm) (nm : ByteArray) : Lp (Nat) := f6 [0,1,5] 0 (fun (i : Nat) => ⟨[(0,(dL 2 dZ aG l)),(1,(dS nm)),(5,(i6 (i : Int)))],[]⟩) (fun (i : Nat) => i ≤ l.length∧∀ q,q < i → C8 l nm q = false) (fun (i : Nat) => l.length - i)
theorem ur (l : List Sm) (nm : ByteArray) (hl : l.length ≤ 9223372036854775807) : CC (IQ l nm) := by
 refine af.vc (V := TT 2 (GO (pJ l nm) 0 (∀ i,(pJ l nm).inv i → TT 4 (CD ((i : Int) < (l.length : Int)) (TT 2 (IX (i : Int) l.length∧TT 4 (CB (((l.getD i aG).name).toList == nm.toList) (TT 3 ((i : Int) = (aE l nm)∧True)) (TT 1 (W6 ((i + 1 : Nat) : Int)∧TT 1 (AG (pJ l nm) i (i + 1))))))) (TT 2 ((-1) = (aE l nm)∧True)))))) (.l (pJ l nm) 0 (fun i => .b 9 (.b 18 (.e) (.w 3 [(1,.val (i6 ((i + 1 : Nat) : Int)))] <| .e)) (.e))) Tryz.func41 rfl rfl rfl (by kernel_rfl) ?_
 refine tt ⟨rfl,⟨by omega,fun q hq => by omega⟩,?_⟩
 intro i hinv
 obtain ⟨hi,h3⟩ := hinv
 refine tt (cd (fun hc9 => ?_) (fun hc9 => ?_))
 · refine tt ⟨ix,tt ⟨fun hc18 => ?_,fun hc18 => ?_⟩⟩
   · refine tt ⟨?_,oK⟩
     first | exact (bo (f := C8 l nm) hc18 h3 (by omega)).symm | exact (bM (f := C8 l nm) (fun q hq => h3 q (by omega))).symm
   · refine tt ⟨w6,tt ⟨(i + 1),rfl,?_,(?_ : l.length - (i + 1) < l.length - i)⟩⟩
     · exact ⟨by omega,bH h3 (by unfold C8; simpa using hc18)⟩
     · omega
 · refine tt ⟨?_,oK⟩
   first | exact (bo (f := C8 l nm) hc18 h3 (by omega)).symm | exact (bM (f := C8 l nm) (fun q hq => h3 q (by omega))).symm
abbrev Ha (a b : List Sm) : Ct := ⟨20,[(dL 2 dZ aG a),(dL 2 dZ aG b)],false,(.agg [(dS ((dj a b).name)),(i6 ((dj a b).pos)),(dB ((dj a b).is))])⟩
abbrev gM (a : List Sm) (b : List Sm) : Lp (Nat) := f6 [0,1,4,5] 1 (fun (i : Nat) => ⟨[(0,(dL 2 dZ aG a)),(1,(dL 2 dZ aG b)),(4,(.ptr 0 0 0 0)),(5,(i6 (i : Int)))],[(.var 57 [(dS e0),(i6 0),(dB false)])]⟩) (fun (i : Nat) => i ≤ a.length∧∀ q,q < i → nx a b q = false) (fun (i : Nat) => a.length - i)
theorem mj (a b : List Sm) (ha : a.length ≤ 9223372036854775807) (hb : b.length ≤ 9223372036854775807) (hwa : ∀ i,(a.getD i aG).words.length ≤ 9223372036854775807) : CC (Ha a b) := by
 refine af.vc (V := TT 2 (GO (gM a b) 0 (∀ i,(gM a b).inv i → TT 4 (CD ((i : Int) < (a.length : Int)) (TT 3 (IX (i : Int) a.length∧TT 2 (CC (IQ b ((a.getD i aG).name))∧TT 1 (CS ((aE b ((a.getD i aG).name)) ≥ 0) (CS ((aE a ((a.getD i aG).name)) = (i : Int)) (TT 2 ((True∧(decide ((aE b ((a.getD i aG).name)) ≥ 0)) = true)∧TT 3 (IX (i : Int) a.length∧TT 2 (CC (IQ a ((a.getD i aG).name))∧TT 3 ((True∧(decide ((aE a ((a.getD i aG).name)) = (i : Int))) = true)∧TT 2 (IX (i : Int) a.length∧TT 4 (IX (aE b ((a.getD i aG).name)) b.length∧TT 1 ((True∧((b.getD ((aE b ((a.getD i aG).name)).toNat) aG).words).map (ae .i64) = (ci b (aE b (a.getD i aG).name)).map (ae .i64))∧CC (Kb ((a.getD i aG).words) (ci b (aE b (a.getD i aG).name)))∧TT 2 (CD ((i3 ((a.getD i aG).words) (ci b (aE b (a.getD i aG).name))) ≥ 0) (TT 2 (IX (i : Int) a.length∧TT 4 (IX (i : Int) a.length∧TT 4 (IX (aE b ((a.getD i aG).name)) b.length∧TT 1 ((True∧((b.getD ((aE b ((a.getD i aG).name)).toNat) aG).words).map (ae .i64) = (ci b (aE b (a.getD i aG).name)).map (ae .i64))∧CC (Kb ((a.getD i aG).words) (ci b (aE b (a.getD i aG).name)))∧TT 3 (((((a.getD i aG).name) = ((dj a b).name)∧(i3 ((a.getD i aG).words) (ci b (aE b (a.getD i aG).name))) = ((dj a b).pos)∧false = ((dj a b).is)∧True))∧((True∧True∧True∧True)))))))) (TT 1 (W6 ((i + 1 : Nat) : Int)∧TT 1 (AG (gM a b) i (i + 1))))))))))))) (TT 2 ((True∧(decide ((aE b ((a.getD i aG).name)) ≥ 0)) = true)∧TT 3 (IX (i : Int) a.length∧TT 2 (CC (IQ a ((a.getD i aG).name))∧TT 3 ((True∧(decide ((aE a ((a.getD i aG).name)) = (i : Int))) = false)∧TT 2 (W6 ((i + 1 : Nat) : Int)∧TT 1 (AG (gM a b) i (i + 1))))))))) (TT 2 ((True∧(decide ((aE b ((a.getD i aG).name)) ≥ 0)) = false)∧TT 4 (W6 ((i + 1 : Nat) : Int)∧TT 1 (AG (gM a b) i (i + 1))))))))) (TT 3 (((e0 = ((dj a b).name)∧(0 : Int) = ((dj a b).pos)∧true = ((dj a b).is)∧True))∧((True∧True∧True∧True)))))))) (.l (gM a b) 0 (fun i => .b 10 (.w 4 [(6,(IQ b ((a.getD i aG).name)).O)] <| .s 5 ((aE b ((a.getD i aG).name)) ≥ 0) (.s 5 ((aE a ((a.getD i aG).name)) = (i : Int)) (.w 5 [(2,.val (dB true)),(9,(IQ a ((a.getD i aG).name)).O),(13,.val (dB true)),(23,.val (LI (ci b (aE b (a.getD i aG).name)))),(24,(Kb ((a.getD i aG).words) (ci b (aE b (a.getD i aG).name))).O)] <| .b 46 (.w 6 [(14,.val (LI (ci b (aE b (a.getD i aG).name)))),(15,(Kb ((a.getD i aG).words) (ci b (aE b (a.getD i aG).name))).O)] <| .e) (.w 3 [(1,.val (i6 ((i + 1 : Nat) : Int)))] <| .e)) (.w 5 [(2,.val (dB true)),(9,(IQ a ((a.getD i aG).name)).O),(13,.val (dB false))] <| .w 3 [(1,.val (i6 ((i + 1 : Nat) : Int)))] <| .e)) (.w 5 [(2,.val (dB false))] <| .w 3 [(1,.val (i6 ((i + 1 : Nat) : Int)))] <| .e)) (.e))) Tryz.func20 rfl rfl rfl (by kernel_rfl) ?_
 refine tt ⟨rfl,⟨by omega,fun q hq => by omega⟩,?_⟩
 intro i hinv
 obtain ⟨hi,h3⟩ := hinv
 refine tt (cd (fun hc10 => ?_) (fun hc10 => ?_))
 · refine tt ⟨ix,tt ⟨(ur b ((a.getD i aG).name) hb),tt ?_⟩⟩
   have hlt : aE b (a.getD i aG).name < b.length := GJ
   refine ⟨fun hs0 => ?_,fun hs0 => ?_⟩
   · refine ⟨fun hs1 => ?_,fun hs1 => ?_⟩
     · refine tt ⟨(vT hs0),tt ⟨ix,tt ⟨(ur a ((a.getD i aG).name) ha),tt ⟨(vT hs1),tt ⟨ix,tt ⟨ix,tt ⟨⟨oK,(by show _ = List.map _ (gz _ _).words; rw [tT (by omega)])⟩,⟨(Cb ((a.getD i aG).words) (ci b (aE b (a.getD i aG).name)) (hwa i)),tt (cd (fun hc46 => ?_) (fun hc46 => ?_))⟩⟩⟩⟩⟩⟩⟩⟩
       · refine tt ⟨ix,tt ⟨ix,tt ⟨ix,tt ⟨⟨oK,(by show _ = List.map _ (gz _ _).words; rw [tT (by omega)])⟩,⟨(Cb ((a.getD i aG).words) (ci b (aE b (a.getD i aG).name)) (hwa i)),tt ⟨⟨?_,?_,?_,oK⟩,⟨oK,oK,oK,oK⟩⟩⟩⟩⟩⟩⟩
         all_goals (all_goals (first | (rw [tV (fun q hq => h3 q (by omega))]; done) | (rw [tU (i := i) (by omega) (po (by omega) (by omega) (by omega)) h3]; rfl)))
       · refine tt ⟨w6,tt ⟨(i + 1),rfl,?_,(?_ : a.length - (i + 1) < a.length - i)⟩⟩
         · exact ⟨by omega,bH h3 (by first | exact iK (by omega) | exact lY (by assumption) | exact j5 (by assumption))⟩
         · omega
     · refine tt ⟨(vT hs0),tt ⟨ix,tt ⟨(ur a ((a.getD i aG).name) ha),tt ⟨(vF hs1),tt ⟨w6,tt ⟨(i + 1),rfl,?_,(?_ : a.length - (i + 1) < a.length - i)⟩⟩⟩⟩⟩⟩
       · exact ⟨by omega,bH h3 (by first | exact iK (by omega) | exact lY (by assumption) | exact j5 (by assumption))⟩
       · omega
   · refine tt ⟨(vF hs0),tt ⟨w6,tt ⟨(i + 1),rfl,?_,(?_ : a.length - (i + 1) < a.length - i)⟩⟩⟩
     · exact ⟨by omega,bH h3 (by first | exact iK (by omega) | exact lY (by assumption) | exact j5 (by assumption))⟩
     · omega
 · refine tt ⟨⟨?_,?_,?_,oK⟩,⟨oK,oK,oK,oK⟩⟩
   all_goals (all_goals (first | (rw [tV (fun q hq => h3 q (by omega))]; done) | (rw [tU (i := i) (by omega) (po (by omega) (by omega) (by omega)) h3]; rfl)))
abbrev IR (a b : List Sm) : Ct := ⟨22,[(dL 2 dZ aG a),(dL 2 dZ aG b)],false,(dB (eO a b))⟩
abbrev iP (a : List Sm) (b : List Sm) : Lp (Nat) := f6 [0,1,5] 0 (fun (i : Nat) => ⟨[(0,(dL 2 dZ aG a)),(1,(dL 2 dZ aG b)),(5,(i6 (i : Int)))],[]⟩) (fun (i : Nat) => i ≤ a.length∧∀ q,q < i → pn a b q = true) (fun (i : Nat) => a.length - i)
theorem lx (a b : List Sm) (ha : a.length ≤ 9223372036854775807) (hb : b.length ≤ 9223372036854775807) (hwa : ∀ i,(a.getD i aG).words.length ≤ 9223372036854775807) : CC (IR a b) := by
 refine af.vc (V := TT 1 (CS ((a.length : Int) = (b.length : Int)) (TT 5 ((True∧(!decide ((a.length : Int) = (b.length : Int))) = false)∧TT 2 (CC (Ha a b)∧TT 3 (CB (!((dj a b).is)) (TT 2 (false = (eO a b)∧True)) (TT 1 (GO (iP a b) 0 (∀ i,(iP a b).inv i → TT 4 (CD ((i : Int) < (a.length : Int)) (CS ((((a.getD i aG).name).toList == ((b.getD i aG).name).toList) = true) (TT 2 (IX (i : Int) a.length∧TT 4 (IX (i : Int) b.length∧TT 3 ((True∧(!(((a.getD i aG).name).toList == ((b.getD i aG).name).toList)) = false)∧TT 2 (IX (i : Int) a.length∧TT 5 (IX (i : Int) b.length∧TT 5 (CN (((((a.getD i aG).words).length : Nat) : Int) = ((((b.getD i aG).words).length : Nat) : Int)) (TT 2 (false = (eO a b)∧True)) (TT 1 (W6 ((i + 1 : Nat) : Int)∧TT 1 (AG (iP a b) i (i + 1))))))))))) (TT 2 (IX (i : Int) a.length∧TT 4 (IX (i : Int) b.length∧TT 3 ((True∧(!(((a.getD i aG).name).toList == ((b.getD i aG).name).toList)) = true)∧TT 3 (false = (eO a b)∧True)))))) (TT 2 (true = (eO a b)∧True)))))))))) (TT 5 ((True∧(!decide ((a.length : Int) = (b.length : Int))) = true)∧TT 8 (false = (eO a b)∧True))))) (.s 1 ((a.length : Int) = (b.length : Int)) (.w 1 [(5,.val (dB false)),(8,(Ha a b).O)] <| .b 17 (.e) (.l (iP a b) 0 (fun i => .b 21 (.s 6 ((((a.getD i aG).name).toList == ((b.getD i aG).name).toList) = true) (.w 6 [(11,.val (dB false))] <| .b 49 (.e) (.w 5 [(1,.val (i6 ((i + 1 : Nat) : Int)))] <| .e)) (.w 6 [(11,.val (dB true))] <| .e)) (.e)))) (.w 1 [(5,.val (dB true))] <| .e)) Tryz.func22 rfl rfl rfl (by kernel_rfl) ?_
 refine tt ⟨fun hs0 => ?_,fun hs0 => ?_⟩
 · refine tt ⟨(nF hs0),tt ⟨(mj a b ha hb hwa),tt ⟨fun hc17 => ?_,fun hc17 => ?_⟩⟩⟩
   · refine tt ⟨?_,oK⟩
     first | exact (eC (iL (by omega))).symm | exact (j6 (by simpa using hc17)).symm | exact (eC (dF (i := i) (by omega) (pu (by assumption)))).symm | exact (eC (dF (i := i) (by omega) (lZ (by omega)))).symm | exact (px (by simpa using hc17) (gA (by omega) (fun q hq => h3 q (by omega)))).symm
   · refine tt ⟨rfl,⟨by omega,fun q hq => by omega⟩,?_⟩
     intro i hinv
     obtain ⟨hi,h3⟩ := hinv
     refine tt (cd (fun hc21 => ?_) (fun hc21 => ?_))
     · refine ⟨fun hs1 => ?_,fun hs1 => ?_⟩
       · refine tt ⟨ix,tt ⟨ix,tt ⟨(mF hs1),tt ⟨ix,tt ⟨ix,tt (cn (fun hc49 => ?_) (fun hc49 => ?_))⟩⟩⟩⟩⟩
         · refine tt ⟨?_,oK⟩
           first | exact (eC (iL (by omega))).symm | exact (j6 (by simpa using hc17)).symm | exact (eC (dF (i := i) (by omega) (pu (by assumption)))).symm | exact (eC (dF (i := i) (by omega) (lZ (by omega)))).symm | exact (px (by simpa using hc17) (gA (by omega) (fun q hq => h3 q (by omega)))).symm
         · refine tt ⟨w6,tt ⟨(i + 1),rfl,?_,(?_ : a.length - (i + 1) < a.length - i)⟩⟩
           · exact ⟨by omega,bH h3 (BK (by simpa using hs1) (by omega))⟩
           · omega
       · refine tt ⟨ix,tt ⟨ix,tt ⟨(mT hs1),tt ⟨?_,oK⟩⟩⟩⟩
         first | exact (eC (iL (by omega))).symm | exact (j6 (by simpa using hc17)).symm | exact (eC (dF (i := i) (by omega) (pu (by assumption)))).symm | exact (eC (dF (i := i) (by omega) (lZ (by omega)))).symm | exact (px (by simpa using hc17) (gA (by omega) (fun q hq => h3 q (by omega)))).symm
     · refine tt ⟨?_,oK⟩
       first | exact (eC (iL (by omega))).symm | exact (j6 (by simpa using hc17)).symm | exact (eC (dF (i := i) (by omega) (pu (by assumption)))).symm | exact (eC (dF (i := i) (by omega) (lZ (by omega)))).symm | exact (px (by simpa using hc17) (gA (by omega) (fun q hq => h3 q (by omega)))).symm
 · refine tt ⟨(nT hs0),tt ⟨?_,oK⟩⟩
   first | exact (eC (iL (by omega))).symm | exact (j6 (by simpa using hc17)).symm | exact (eC (dF (i := i) (by omega) (pu (by assumption)))).symm | exact (eC (dF (i := i) (by omega) (lZ (by omega)))).symm | exact (px (by simpa using hc17) (gA (by omega) (fun q hq => h3 q (by omega)))).symm
abbrev LJ (a b : List Sm) : Ct := ⟨10,[(dL 2 dZ aG a),(dL 2 dZ aG b)],false,(dB (qF a b))⟩
abbrev sF (a : List Sm) (b : List Sm) : Lp (Nat) := f6 [0,1,5] 0 (fun (i : Nat) => ⟨[(0,(dL 2 dZ aG a)),(1,(dL 2 dZ aG b)),(5,(i6 (i : Int)))],[]⟩) (fun (i : Nat) => i ≤ a.length∧∀ q,q < i → Fc a b q = true) (fun (i : Nat) => a.length - i)
theorem Hb (a b : List Sm) (ha : a.length ≤ 9223372036854775807) (hwa : ∀ i,(a.getD i aG).words.length ≤ 9223372036854775807) : CC (LJ a b) := by
 refine af.vc (V := TT 6 (CN ((a.length : Int) = (b.length : Int)) (TT 2 (false = (qF a b)∧True)) (TT 1 (GO (sF a b) 0 (∀ i,(sF a b).inv i → TT 4 (CD ((i : Int) < (a.length : Int)) (CS ((((a.getD i aG).name).toList == ((b.getD i aG).name).toList) = true) (TT 2 (IX (i : Int) a.length∧TT 4 (IX (i : Int) b.length∧TT 3 ((True∧(!(((a.getD i aG).name).toList == ((b.getD i aG).name).toList)) = false)∧TT 2 (IX (i : Int) a.length∧TT 4 (IX (i : Int) b.length∧TT 2 (CC (LG ((a.getD i aG).words) ((b.getD i aG).words))∧TT 2 (CN (((a.getD i aG).words) = ((b.getD i aG).words)) (TT 2 (false = (qF a b)∧True)) (TT 1 (W6 ((i + 1 : Nat) : Int)∧TT 1 (AG (sF a b) i (i + 1)))))))))))) (TT 2 (IX (i : Int) a.length∧TT 4 (IX (i : Int) b.length∧TT 3 ((True∧(!(((a.getD i aG).name).toList == ((b.getD i aG).name).toList)) = true)∧TT 3 (false = (qF a b)∧True)))))) (TT 2 (true = (qF a b)∧True)))))))) (.b 10 (.e) (.l (sF a b) 0 (fun i => .b 14 (.s 6 ((((a.getD i aG).name).toList == ((b.getD i aG).name).toList) = true) (.w 6 [(11,.val (dB false)),(22,(LG ((a.getD i aG).words) ((b.getD i aG).words)).O)] <| .b 41 (.e) (.w 5 [(1,.val (i6 ((i + 1 : Nat) : Int)))] <| .e)) (.w 6 [(11,.val (dB true))] <| .e)) (.e)))) Tryz.func10 rfl rfl rfl (by kernel_rfl) ?_
 refine tt (cn (fun hc10 => ?_) (fun hc10 => ?_))
 · refine tt ⟨?_,oK⟩
   first | exact (se (by omega)).symm | exact (iM (i := i) (by omega) (sf (by assumption))).symm | exact (iM (i := i) (by omega) (sg (by simpa using hc41))).symm | exact (pp (by omega) (fun q hq => h3 q (by omega))).symm
 · refine tt ⟨rfl,⟨by omega,fun q hq => by omega⟩,?_⟩
   intro i hinv
   obtain ⟨hi,h3⟩ := hinv
   refine tt (cd (fun hc14 => ?_) (fun hc14 => ?_))
   · refine ⟨fun hs0 => ?_,fun hs0 => ?_⟩
     · refine tt ⟨ix,tt ⟨ix,tt ⟨(mF hs0),tt ⟨ix,tt ⟨ix,tt ⟨(Dp ((a.getD i aG).words) ((b.getD i aG).words) (hwa i)),tt (cn (fun hc41 => ?_) (fun hc41 => ?_))⟩⟩⟩⟩⟩⟩
       · refine tt ⟨?_,oK⟩
         first | exact (se (by omega)).symm | exact (iM (i := i) (by omega) (sf (by assumption))).symm | exact (iM (i := i) (by omega) (sg (by simpa using hc41))).symm | exact (pp (by omega) (fun q hq => h3 q (by omega))).symm
       · refine tt ⟨w6,tt ⟨(i + 1),rfl,?_,(?_ : a.length - (i + 1) < a.length - i)⟩⟩
         · exact ⟨by omega,bH h3 (GL (by simpa using hs0) (by simpa using hc41))⟩
         · omega
     · refine tt ⟨ix,tt ⟨ix,tt ⟨(mT hs0),tt ⟨?_,oK⟩⟩⟩⟩
       first | exact (se (by omega)).symm | exact (iM (i := i) (by omega) (sf (by assumption))).symm | exact (iM (i := i) (by omega) (sg (by simpa using hc41))).symm | exact (pp (by omega) (fun q hq => h3 q (by omega))).symm
   · refine tt ⟨?_,oK⟩
     first | exact (se (by omega)).symm | exact (iM (i := i) (by omega) (sf (by assumption))).symm | exact (iM (i := i) (by omega) (sg (by simpa using hc41))).symm | exact (pp (by omega) (fun q hq => h3 q (by omega))).symm
abbrev Kc (l : List Int) : Ct := ⟨17,[(LY l)],true,(dL 1 er .empty (c6 l))⟩
abbrev kg (l : List Int) : Lp (Nat) := f6 [0,3,4] 1 (fun (i : Nat) => ⟨[(0,(LY l)),(3,(.own 0)),(4,(i6 (i : Int)))],[(.arr 9 1 er .empty (tab (uQ l) i))]⟩) (fun (i : Nat) => i ≤ l.length) (fun (i : Nat) => l.length - i)
theorem ut (l : List Int) (hl : l.length ≤ 1000000) (go : iG l) : CC (Kc l) := by
 refine af.vc (V := TT 1 (am [] ((tab (uQ l) 0).map er)∧TT 2 (GO (kg l) 0 (∀ i,(kg l).inv i → TT 4 (CD ((i : Int) < (l.length : Int)) (TT 1 (am [[(dS (bs [97]))],[(dS (bs [98]))]] ([(bs [97]),(bs [98])].map er)∧TT 2 (IX (i : Int) l.length∧TT 1 (QM (l.getD i 0) 2∧IX ((l.getD i 0) % 2) ([(bs [97]),(bs [98])].length)∧(((l.getD i 0) % 2).toNat < [(bs [97]),(bs [98])].length∧True)∧am [[(dS (([(bs [97]),(bs [98])]).getD (((l.getD i 0) % 2).toNat) .empty))]] ([(([(bs [97]),(bs [98])]).getD (((l.getD i 0) % 2).toNat) .empty)].map er)∧((tab (uQ l) i).length + ([(([(bs [97]),(bs [98])]).getD (((l.getD i 0) % 2).toNat) .empty)].map er).length ≤ 137438953472∧(tab (uQ l) i).map er ++ [(([(bs [97]),(bs [98])]).getD (((l.getD i 0) % 2).toNat) .empty)].map er = (tab (uQ l) (i + 1)).map er)∧TT 2 (W6 ((i + 1 : Nat) : Int)∧TT 1 (AG (kg l) i (i + 1))))))) (TT 3 ((tab (uQ l) i).map er = (c6 l).map er))))))) (.w 1 [(0,.box 9 1 er .empty (tab (uQ l) 0))] <| .l (kg l) 0 (fun i => .b 9 (.w 5 [(1,.box 9 1 er .empty [(bs [97]),(bs [98])]),(6,.val (dI .u8 ((l.getD i 0) % 2))),(9,.box 9 1 er .empty [(([(bs [97]),(bs [98])]).getD (((l.getD i 0) % 2).toNat) .empty)]),(10,.box 9 1 er .empty (tab (uQ l) (i + 1)))] <| .w 4 [(1,.val (i6 ((i + 1 : Nat) : Int)))] <| .e) (.e))) Tryz.func17 rfl rfl rfl (by kernel_rfl) ?_
 refine tt ⟨oK,tt ⟨rfl,(by omega),?_⟩⟩
 intro i hinv
 have hi := hinv
 refine tt (cd (fun hc9 => ?_) (fun hc9 => ?_))
 · have hgi := dC go i
   refine tt ⟨⟨⟨rfl,oK⟩,⟨rfl,oK⟩,oK⟩,tt ⟨ix,tt ⟨qm,⟨ix,⟨⟨om,oK⟩,⟨⟨⟨rfl,oK⟩,oK⟩,⟨(bh (by omega) rfl),tt ⟨w6,tt ⟨(i + 1),rfl,(?_ : (i + 1) ≤ l.length),(?_ : l.length - (i + 1) < l.length - i)⟩⟩⟩⟩⟩⟩⟩⟩⟩
   · omega
   · omega
 · refine tt (congrArg _ (?_ : (tab (uQ l) i) = (c6 l)))
   rw [show i = l.length by omega]; rfl
end Go.Proofs.YtgmpoenfoacofaaGreat
