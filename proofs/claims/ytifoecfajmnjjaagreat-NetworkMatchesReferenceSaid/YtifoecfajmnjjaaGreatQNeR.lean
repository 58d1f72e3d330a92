/-
  The laws of networks: what they ask.
-/
import Derived.Test.YtifoecfajmnjjaaGreatQNeP
import Derived.Test.YtifoecfajmnjjaaGreatQNeQ
namespace Go.Proofs.YtifoecfajmnjjaaGreat
open Go.RowKit
set_option linter.unusedVariables false
set_option linter.unusedSimpArgs false
abbrev vz (c : Ci) : D := (.agg [(dL 6 eV av c.procs),(dL 5 iT aX c.chans)])
abbrev yI (s : Ns) : D := (.agg [(dL 2 a8 a7 s.procs),(dL 1 af [] s.chans)])
set_option maxRecDepth 100000
abbrev Da (c : Ci) (s : Ns) (n : Int) (ws : List Int) : Ct := ⟨23,[(vz c),(yI s),(.agg [(i6 n),(LI ws)])],true,(.agg [(dL 2 a8 a7 (((ak c s n ws).1).procs)),(dL 1 af [] (((ak c s n ws).1).chans)),(LI ([] : List Int)),(i6 ((ak c s n ws).2))])⟩
theorem rj (c : Ci) (s : Ns) (n : Int) (ws : List Int) (hc : bK c) (hs : bX c s) (hsm : fD s 4294967296) (hw : ws.length ≤ 4294967296) : CC (Da c s n ws) := by
 refine ai.vc (V := TT 10 (CC (KE c s n ws)∧TT 11 ((((ak c s n ws).1).procs).map a8 = (((ak c s n ws).1).procs).map a8∧(((ak c s n ws).1).chans).map af = (((ak c s n ws).1).chans).map af∧([] : List Int) = []∧((ak c s n ws).2) = ((ak c s n ws).2)∧True))) (.w 1 [(6,(KE c s n ws).O)] <| .e) Tryz.func23 rfl rfl rfl (by kernel_rfl) ?_
 refine tt ⟨(EW c s n ws hc hs hsm om),tt ⟨rfl,rfl,?_,rfl,oK⟩⟩
 rfl
abbrev H7 (c : Ci) (s : Ns) (n : Int) : Ct := ⟨24,[(vz c),(yI s),(i6 n)],true,(.agg [(dL 2 a8 a7 (((aH c s n).2.1).procs)),(dL 1 af [] (((aH c s n).2.1).chans)),(LI ((aH c s n).1)),(i6 ((aH c s n).2.2))])⟩
theorem kM (c : Ci) (s : Ns) (n : Int) (hc : bK c) (hs : bX c s) (hsm : fD s 4294967296) : CC (H7 c s n) := by
 refine ai.vc (V := TT 6 (CC (KF c s n)∧TT 14 ((((aH c s n).2.1).procs).map a8 = (((aH c s n).2.1).procs).map a8∧(((aH c s n).2.1).chans).map af = (((aH c s n).2.1).chans).map af∧((aH c s n).1).map (ah .i64) = ((aH c s n).1).map (ah .i64)∧((aH c s n).2.2) = ((aH c s n).2.2)∧True))) (.w 1 [(3,(KF c s n).O)] <| .e) Tryz.func24 rfl rfl rfl (by kernel_rfl) ?_
 exact tt ⟨(EZ c s n hc hs hsm),tt ⟨rfl,rfl,rfl,rfl,oK⟩⟩
abbrev Jt (c : Ci) (s : Ns) (k : Int) : Ct := ⟨19,[(vz c),(yI s),(i6 k)],true,(.agg [(dL 2 a8 a7 ((aD c s (cy k)).procs)),(dL 1 af [] ((aD c s (cy k)).chans)),(dB (cf c s k))])⟩
theorem yJ (c : Ci) (s : Ns) (k : Int) (hc : bK c) (hs : bX c s) (hsm : fD s 4294967296) : CC (Jt c s k) := by
 refine ai.vc (V := TT 6 (CC (Jd c s k)∧TT 11 (((aD c s (cy k)).procs).map a8 = ((aD c s (cy k)).procs).map a8∧((aD c s (cy k)).chans).map af = ((aD c s (cy k)).chans).map af∧(yk c s k) = (cf c s k)∧True))) (.w 1 [(3,(Jd c s k).O)] <| .e) Tryz.func19 rfl rfl rfl (by kernel_rfl) ?_
 refine tt ⟨(yo c s k hc hs hsm),tt ⟨rfl,rfl,?_,oK⟩⟩
 exact EO _ _ _
abbrev Fw (c : Ci) (s : Ns) (cl : ByteArray) : Ct := ⟨13,[(vz c),(yI s),(dS cl)],true,(.agg [(dL 2 a8 a7 ((aD c s (aF c cl)).procs)),(dL 1 af [] ((aD c s (aF c cl)).chans)),(LB (aq (ax c s (aF c cl)) c.procs.length))])⟩
theorem jO (c : Ci) (s : Ns) (cl : ByteArray) (hc : bK c) (hs : bX c s) (hsm : fD s 4294967296) : CC (Fw c s cl) := by
 refine ai.vc (V := TT 6 (CC (Je c s cl)∧TT 11 (((aD c s (aF c cl)).procs).map a8 = ((aD c s (aF c cl)).procs).map a8∧((aD c s (aF c cl)).chans).map af = ((aD c s (aF c cl)).chans).map af∧(aq (ax c s (aF c cl)) c.procs.length).map aJ = (aq (ax c s (aF c cl)) c.procs.length).map aJ∧True))) (.w 1 [(3,(Je c s cl).O)] <| .e) Tryz.func13 rfl rfl rfl (by kernel_rfl) ?_
 exact tt ⟨(yp c s cl hc hs hsm),tt ⟨rfl,rfl,rfl,oK⟩⟩
abbrev GE (c : Ci) (s : Ns) (bt : Int) : Ct := ⟨31,[(vz c),(yI s),(i6 bt)],true,(.agg [(dL 2 a8 a7 (((aQ c s bt).1).procs)),(dL 1 af [] (((aQ c s bt).1).chans)),(LI ((aQ c s bt).2.1)),(i6 ((aQ c s bt).2.2))])⟩
theorem kN (c : Ci) (s : Ns) (bt : Int) (hc : bK c) (hs : bX c s) (hsm : fD s 1000000000) (hb : bt ≤ 1000000) (hb2 : -9223372036854775808 ≤ bt) : CC (GE c s bt) := by
 refine ai.vc (V := TT 6 (CC (KG c s bt)∧TT 14 ((((aQ c s bt).1).procs).map a8 = (((aQ c s bt).1).procs).map a8∧(((aQ c s bt).1).chans).map af = (((aQ c s bt).1).chans).map af∧((aQ c s bt).2.1).map (ah .i64) = ((aQ c s bt).2.1).map (ah .i64)∧((aQ c s bt).2.2) = ((aQ c s bt).2.2)∧True))) (.w 1 [(3,(KG c s bt).O)] <| .e) Tryz.func31 rfl rfl rfl (by kernel_rfl) ?_
 exact tt ⟨(Ae c s bt hc hs hsm om om),tt ⟨rfl,rfl,rfl,rfl,oK⟩⟩
abbrev Db (a b : Ns) (la lb : List Int) (ea eb : Int) : Ct := ⟨28,[(.agg [(dL 2 a8 a7 a.procs),(dL 1 af [] a.chans),(LI la),(i6 ea)]),(.agg [(dL 2 a8 a7 b.procs),(dL 1 af [] b.chans),(LI lb),(i6 eb)])],false,(dB (cP a b la lb ea eb))⟩
theorem fX (a b : Ns) (la lb : List Int) (ea eb : Int) (hz : CT a) (hl : la.length ≤ 9223372036854775807) : CC (Db a b la lb ea eb) := by
 refine ai.vc (V := TT 3 (CS (ea = eb) (CS (la = lb) (TT 5 ((True∧(decide (ea = eb)) = true)∧TT 4 (CC (tJ la lb)∧TT 1 ((True∧(decide (la = lb)) = true)∧TT 4 (CC (rP a b)∧TT 3 ((bO a b) = (cP a b la lb ea eb)∧True)))))) (TT 5 ((True∧(decide (ea = eb)) = true)∧TT 4 (CC (tJ la lb)∧TT 1 ((True∧(decide (la = lb)) = false)∧TT 8 (false = (cP a b la lb ea eb)∧True)))))) (TT 5 ((True∧(decide (ea = eb)) = false)∧TT 15 (false = (cP a b la lb ea eb)∧True))))) (.s 1 (ea = eb) (.s 1 (la = lb) (.w 1 [(5,.val (dB true)),(10,(tJ la lb).O),(12,.val (dB true)),(17,(rP a b).O)] <| .e) (.w 1 [(5,.val (dB true)),(10,(tJ la lb).O),(12,.val (dB false))] <| .e)) (.w 1 [(5,.val (dB false))] <| .e)) Tryz.func28 rfl rfl rfl (by kernel_rfl) ?_
 refine tt ⟨fun hs0 => ?_,fun hs0 => ?_⟩
 · refine ⟨fun hs1 => ?_,fun hs1 => ?_⟩
   · refine tt ⟨(vT hs0),tt ⟨(fy la lb hl),tt ⟨(vT hs1),tt ⟨(cZ a b hz),tt ⟨?_,oK⟩⟩⟩⟩⟩
     first | (rw [C8 hs0]) | (rw [rR hs0 hs1]) | (rw [ri hs0 hs1]) | (rw [ri hs0 (by simpa using hs1)]) | (rw [rR hs0 (by simpa using hs1)])
   · refine tt ⟨(vT hs0),tt ⟨(fy la lb hl),tt ⟨(vF hs1),tt ⟨?_,oK⟩⟩⟩⟩
     first | (rw [C8 hs0]) | (rw [rR hs0 hs1]) | (rw [ri hs0 hs1]) | (rw [ri hs0 (by simpa using hs1)]) | (rw [rR hs0 (by simpa using hs1)])
 · refine tt ⟨(vF hs0),tt ⟨?_,oK⟩⟩
   first | (rw [C8 hs0]) | (rw [rR hs0 hs1]) | (rw [ri hs0 hs1]) | (rw [ri hs0 (by simpa using hs1)]) | (rw [rR hs0 (by simpa using hs1)])
abbrev Ju (a b : Ns) (la lb : List Int) (ea eb : Int) : Ct := ⟨30,[(.agg [(dL 2 a8 a7 a.procs),(dL 1 af [] a.chans),(LI la),(i6 ea)]),(.agg [(dL 2 a8 a7 b.procs),(dL 1 af [] b.chans),(LI lb),(i6 eb)])],false,(dB (cP a b la lb ea eb))⟩
theorem tS (a b : Ns) (la lb : List Int) (ea eb : Int) (hz : CT a) (hl : la.length ≤ 9223372036854775807) : CC (Ju a b la lb ea eb) := by
 refine ai.vc (V := TT 3 (CS (ea = eb) (CS (la = lb) (TT 5 ((True∧(decide (ea = eb)) = true)∧TT 4 (CC (tJ la lb)∧TT 1 ((True∧(decide (la = lb)) = true)∧TT 4 (CC (rP a b)∧TT 3 ((bO a b) = (cP a b la lb ea eb)∧True)))))) (TT 5 ((True∧(decide (ea = eb)) = true)∧TT 4 (CC (tJ la lb)∧TT 1 ((True∧(decide (la = lb)) = false)∧TT 8 (false = (cP a b la lb ea eb)∧True)))))) (TT 5 ((True∧(decide (ea = eb)) = false)∧TT 15 (false = (cP a b la lb ea eb)∧True))))) (.s 1 (ea = eb) (.s 1 (la = lb) (.w 1 [(5,.val (dB true)),(10,(tJ la lb).O),(12,.val (dB true)),(17,(rP a b).O)] <| .e) (.w 1 [(5,.val (dB true)),(10,(tJ la lb).O),(12,.val (dB false))] <| .e)) (.w 1 [(5,.val (dB false))] <| .e)) Tryz.func30 rfl rfl rfl (by kernel_rfl) ?_
 refine tt ⟨fun hs0 => ?_,fun hs0 => ?_⟩
 · refine ⟨fun hs1 => ?_,fun hs1 => ?_⟩
   · refine tt ⟨(vT hs0),tt ⟨(fy la lb hl),tt ⟨(vT hs1),tt ⟨(cZ a b hz),tt ⟨?_,oK⟩⟩⟩⟩⟩
     first | (rw [C8 hs0]) | (rw [rR hs0 hs1]) | (rw [ri hs0 hs1]) | (rw [ri hs0 (by simpa using hs1)]) | (rw [rR hs0 (by simpa using hs1)])
   · refine tt ⟨(vT hs0),tt ⟨(fy la lb hl),tt ⟨(vF hs1),tt ⟨?_,oK⟩⟩⟩⟩
     first | (rw [C8 hs0]) | (rw [rR hs0 hs1]) | (rw [ri hs0 hs1]) | (rw [ri hs0 (by simpa using hs1)]) | (rw [rR hs0 (by simpa using hs1)])
 · refine tt ⟨(vF hs0),tt ⟨?_,oK⟩⟩
   first | (rw [C8 hs0]) | (rw [rR hs0 hs1]) | (rw [ri hs0 hs1]) | (rw [ri hs0 (by simpa using hs1)]) | (rw [rR hs0 (by simpa using hs1)])
abbrev KZ (c : Ci) (sh : Int) (b bb l : List Int) : Ct := ⟨12,[(.agg [(dI .u8 sh),(LY b),(LY bb),(LY l)]),(vz c)],true,(.agg [(dL 2 a8 a7 ((ae c bb l).procs)),(dL 1 af [] ((ae c bb l).chans))])⟩
theorem Fx (c : Ci) (sh : Int) (b bb l : List Int) (hc : bK c) (hbo : lF bb) (hlo : lF l) : CC (KZ c sh b bb l) := by
 have hbk := C9 hc hbo
 have hmn := G2 l
 refine ai.vc (V := TT 7 (CC (KX c bb)∧TT 5 ((True∧(y7 (l.length : Int) 20) = (((min l.length 20) : Nat) : Int))∧((0 ≤ (0 : Int)∧(0 : Int) ≤ (((min l.length 20) : Nat) : Int)∧(((min l.length 20) : Nat) : Int) ≤ (l.length : Int))∧((l.take (min l.length 20)).drop 0).map (ah .u8) = (l.take (min l.length 20)).map (ah .u8))∧CC (KY c (ec c bb) (l.take (min l.length 20)))∧TT 2 (((ee c (ec c bb) (l.take (min l.length 20))).procs).map a8 = ((ae c bb l).procs).map a8∧((ee c (ec c bb) (l.take (min l.length 20))).chans).map af = ((ae c bb l).chans).map af∧True)))) (.w 1 [(4,(KX c bb).O),(10,.val (i6 (((min l.length 20) : Nat) : Int))),(11,.val (LY (l.take (min l.length 20)))),(12,(KY c (ec c bb) (l.take (min l.length 20))).O)] <| .e) Tryz.func12 rfl rfl rfl (by kernel_rfl) ?_
 refine tt ⟨(Fr c bb hc hbo),tt ⟨⟨oK,(G2 l)⟩,⟨⟨om,rfl⟩,⟨(C7 c (ec c bb) (l.take (min l.length 20)) hc hbk.1 hbk.2 (by rw [List.length_take]; omega) (Fs hlo)),tt ⟨(congrArg _ (?_ : ((ee c (ec c bb) (l.take (min l.length 20))).procs) = ((ae c bb l).procs))),(congrArg _ (?_ : ((ee c (ec c bb) (l.take (min l.length 20))).chans) = ((ae c bb l).chans))),oK⟩⟩⟩⟩⟩
 all_goals (rfl)
end Go.Proofs.YtifoecfajmnjjaaGreat
