/-
  The laws of networks: what they ask.
-/
import Derived.Test.YtifoecfajmnjjaaGreatQNeP
import Derived.Test.YtifoecfajmnjjaaGreatQNeQ
namespace Go.Proofs.YtifoecfajmnjjaaGreat
open Go.RowKit
set_option linter.unusedVariables false
set_option linter.unusedSimpArgs false
abbrev xI (c : Ci) : D := (.agg [(dL 6 eY av c.procs),(dL 5 iM be c.chans)])
abbrev AP (s : Ns) : D := (.agg [(dL 2 bl a7 s.procs),(dL 1 af [] s.chans)])
set_option maxRecDepth 100000
abbrev HV (c : Ci) (s : Ns) (n : Int) (ws : List Int) : Ct := ⟨23,[(xI c),(AP s),(.agg [(i6 n),(LI ws)])],true,(.agg [(dL 2 bl a7 (((aI c s n ws).1).procs)),(dL 1 af [] (((aI c s n ws).1).chans)),(LI ([] : List Int)),(i6 ((aI c s n ws).2))])⟩
theorem Ek (c : Ci) (s : Ns) (n : Int) (ws : List Int) (hc : bR c) (hs : cT c s) (hsm : kO s 4294967296) (hw : ws.length ≤ 4294967296) : CC (HV c s n ws) := by
 refine ak.vc (V := TT 10 (CC (Jg c s n ws)∧TT 11 ((((aI c s n ws).1).procs).map bl = (((aI c s n ws).1).procs).map bl∧(((aI c s n ws).1).chans).map af = (((aI c s n ws).1).chans).map af∧([] : List Int) = []∧((aI c s n ws).2) = ((aI c s n ws).2)∧True))) (.w 1 [(6,(Jg c s n ws).O)] <| .e) Tryz.func23 rfl rfl rfl (by kernel_rfl) ?_
 refine tt ⟨(DM c s n ws hc hs hsm om),tt ⟨rfl,rfl,?_,rfl,oK⟩⟩
 rfl
abbrev JF (c : Ci) (s : Ns) (n : Int) : Ct := ⟨24,[(xI c),(AP s),(i6 n)],true,(.agg [(dL 2 bl a7 (((ci c s n).2.1).procs)),(dL 1 af [] (((ci c s n).2.1).chans)),(LI ((ci c s n).1)),(i6 ((ci c s n).2.2))])⟩
theorem wb (c : Ci) (s : Ns) (n : Int) (hc : bR c) (hs : cT c s) (hsm : kO s 4294967296) : CC (JF c s n) := by
 refine ak.vc (V := TT 6 (CC (Jh c s n)∧TT 14 ((((ci c s n).2.1).procs).map bl = (((ci c s n).2.1).procs).map bl∧(((ci c s n).2.1).chans).map af = (((ci c s n).2.1).chans).map af∧((ci c s n).1).map (ah .i64) = ((ci c s n).1).map (ah .i64)∧((ci c s n).2.2) = ((ci c s n).2.2)∧True))) (.w 1 [(3,(Jh c s n).O)] <| .e) Tryz.func24 rfl rfl rfl (by kernel_rfl) ?_
 exact tt ⟨(DQ c s n hc hs hsm),tt ⟨rfl,rfl,rfl,rfl,oK⟩⟩
abbrev El (c : Ci) (s : Ns) (cl : ByteArray) : Ct := ⟨13,[(xI c),(AP s),(dS cl)],true,(.agg [(dL 2 bl a7 ((aD c s (am c cl)).procs)),(dL 1 af [] ((aD c s (am c cl)).chans)),(LB (an (ai c s (am c cl)) c.procs.length))])⟩
theorem jO (c : Ci) (s : Ns) (cl : ByteArray) (hc : bR c) (hs : cT c s) (hsm : kO s 4294967296) : CC (El c s cl) := by
 refine ak.vc (V := TT 6 (CC (Jf c s cl)∧TT 11 (((aD c s (am c cl)).procs).map bl = ((aD c s (am c cl)).procs).map bl∧((aD c s (am c cl)).chans).map af = ((aD c s (am c cl)).chans).map af∧(an (ai c s (am c cl)) c.procs.length).map aL = (an (ai c s (am c cl)) c.procs.length).map aL∧True))) (.w 1 [(3,(Jf c s cl).O)] <| .e) Tryz.func13 rfl rfl rfl (by kernel_rfl) ?_
 exact tt ⟨(DI c s cl hc hs hsm),tt ⟨rfl,rfl,rfl,oK⟩⟩
abbrev HW (c : Ci) (s : Ns) (bt : Int) : Ct := ⟨31,[(xI c),(AP s),(i6 bt)],true,(.agg [(dL 2 bl a7 (((cb c s bt).1).procs)),(dL 1 af [] (((cb c s bt).1).chans)),(LI ((cb c s bt).2.1)),(i6 ((cb c s bt).2.2))])⟩
theorem th (c : Ci) (s : Ns) (bt : Int) (hc : bR c) (hs : cT c s) (hsm : kO s 1000000000) (hb : bt ≤ 1000000) (hb2 : -9223372036854775808 ≤ bt) : CC (HW c s bt) := by
 refine ak.vc (V := TT 6 (CC (Ji c s bt)∧TT 14 ((((cb c s bt).1).procs).map bl = (((cb c s bt).1).procs).map bl∧(((cb c s bt).1).chans).map af = (((cb c s bt).1).chans).map af∧((cb c s bt).2.1).map (ah .i64) = ((cb c s bt).2.1).map (ah .i64)∧((cb c s bt).2.2) = ((cb c s bt).2.2)∧True))) (.w 1 [(3,(Ji c s bt).O)] <| .e) Tryz.func31 rfl rfl rfl (by kernel_rfl) ?_
 exact tt ⟨(za c s bt hc hs hsm om om),tt ⟨rfl,rfl,rfl,rfl,oK⟩⟩
abbrev JG (c : Ci) (sh : Int) (b bb l : List Int) : Ct := ⟨12,[(.agg [(dI .u8 sh),(LY b),(LY bb),(LY l)]),(xI c)],true,(.agg [(dL 2 bl a7 ((ae c bb l).procs)),(dL 1 af [] ((ae c bb l).chans))])⟩
theorem Em (c : Ci) (sh : Int) (b bb l : List Int) (hc : bR c) (hbo : lr bb) (hlo : lr l) : CC (JG c sh b bb l) := by
 have hbk := BT hc hbo
 have hmn := FQ l
 refine ak.vc (V := TT 7 (CC (JD c bb)∧TT 5 ((True∧(x6 (l.length : Int) 20) = (((min l.length 20) : Nat) : Int))∧((0 ≤ (0 : Int)∧(0 : Int) ≤ (((min l.length 20) : Nat) : Int)∧(((min l.length 20) : Nat) : Int) ≤ (l.length : Int))∧((l.take (min l.length 20)).drop 0).map (ah .u8) = (l.take (min l.length 20)).map (ah .u8))∧CC (JE c (d8 c bb) (l.take (min l.length 20)))∧TT 2 (((d9 c (d8 c bb) (l.take (min l.length 20))).procs).map bl = ((ae c bb l).procs).map bl∧((d9 c (d8 c bb) (l.take (min l.length 20))).chans).map af = ((ae c bb l).chans).map af∧True)))) (.w 1 [(4,(JD c bb).O),(10,.val (i6 (((min l.length 20) : Nat) : Int))),(11,.val (LY (l.take (min l.length 20)))),(12,(JE c (d8 c bb) (l.take (min l.length 20))).O)] <| .e) Tryz.func12 rfl rfl rfl (by kernel_rfl) ?_
 refine tt ⟨(Ee c bb hc hbo),tt ⟨⟨oK,(FQ l)⟩,⟨⟨om,rfl⟩,⟨(BS c (d8 c bb) (l.take (min l.length 20)) hc hbk.1 hbk.2 (by rw [List.length_take]; omega) (Ef hlo)),tt ⟨(congrArg _ (?_ : ((d9 c (d8 c bb) (l.take (min l.length 20))).procs) = ((ae c bb l).procs))),(congrArg _ (?_ : ((d9 c (d8 c bb) (l.take (min l.length 20))).chans) = ((ae c bb l).chans))),oK⟩⟩⟩⟩⟩
 all_goals (rfl)
end Go.Proofs.YtifoecfajmnjjaaGreat
