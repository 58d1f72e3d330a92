/-
  Made processes: names, rules, conditions, expressions.
-/
import Derived.Test.YtgfbfajaaaegjaaQPcA
import Derived.Test.YtgfbfajaaaegjaaQPcB
import Derived.Test.YtgfbfajaaaegjaaQPrT
namespace Go.Proofs.Ytgfbfajaaaegjaa
open Go.RowKit
set_option linter.unusedVariables false
set_option linter.unusedSimpArgs false
set_option maxRecDepth 100000
abbrev AM (n : Int) : Ct := ⟨62,[(i6 n)],false,(dS (a6 n))⟩
theorem kG (n : Int) (h0 : 0 ≤ n) : CC (AM n) := by
 refine ak.vc (V := TT 1 (az [[(dS (bs [97]))],[(dS (bs [98]))],[(dS (bs [99,48]))],[(dS (bs [119]))],[(dS (bs [120,49,121]))],[(dS (bs [116,111,112]))],[(dS (bs [122,57]))],[(dS (bs [109]))]] ([(bs [97]),(bs [98]),(bs [99,48]),(bs [119]),(bs [120,49,121]),(bs [116,111,112]),(bs [122,57]),(bs [109])].map Cr)∧TT 1 (QM n 8∧IX (n % 8) ([(bs [97]),(bs [98]),(bs [99,48]),(bs [119]),(bs [120,49,121]),(bs [116,111,112]),(bs [122,57]),(bs [109])].length)∧TT 3 (([(bs [97]),(bs [98]),(bs [99,48]),(bs [119]),(bs [120,49,121]),(bs [116,111,112]),(bs [122,57]),(bs [109])].getD ((n % 8).toNat) .empty) = (a6 n)∧True)))) (.w 1 [(0,.frz 9 1 Cr .empty [(bs [97]),(bs [98]),(bs [99,48]),(bs [119]),(bs [120,49,121]),(bs [116,111,112]),(bs [122,57]),(bs [109])]),(2,.val (i6 (n % 8)))] <| .e) Try.func62 rfl rfl rfl (by kernel_rfl) ?_
 refine tt ⟨⟨⟨rfl,oK⟩,⟨rfl,oK⟩,⟨rfl,oK⟩,⟨rfl,oK⟩,⟨rfl,oK⟩,⟨rfl,oK⟩,⟨rfl,oK⟩,⟨rfl,oK⟩,oK⟩,tt ⟨qm,⟨ix,tt ⟨?_,oK⟩⟩⟩⟩
 rfl
abbrev B4 (b : Int) (nm : ByteArray) : Ct := ⟨63,[(i6 b),(dS nm)],false,(.agg [(i6 ((ci b nm).kind)),(dS ((ci b nm).src)),(i6 ((ci b nm).n))])⟩
theorem tN (b : Int) (nm : ByteArray) (h0 : 0 ≤ b) (h1 : b ≤ 255) : CC (B4 b nm) := by
 refine ak.vc (V := TT 2 (QM b 4∧TT 2 (CD ((b % 4) = 1) (TT 3 ((((1 : Int) = ((ci b nm).kind)∧e0 = ((ci b nm).src)∧(0 : Int) = ((ci b nm).n)∧True))∧((True∧True∧True∧True)))) (TT 2 (CD ((b % 4) = 2) (TT 4 ((((2 : Int) = ((ci b nm).kind)∧nm = ((ci b nm).src)∧(0 : Int) = ((ci b nm).n)∧True))∧((True∧True∧True∧True)))) (TT 2 (CD ((b % 4) = 3) (TT 2 (QD b 4∧QM (b / 4) 5∧TT 3 ((((3 : Int) = ((ci b nm).kind)∧nm = ((ci b nm).src)∧((b / 4) % 5) = ((ci b nm).n)∧True))∧((True∧True∧True∧True))))) (TT 3 ((((0 : Int) = ((ci b nm).kind)∧e0 = ((ci b nm).src)∧(0 : Int) = ((ci b nm).n)∧True))∧((True∧True∧True∧True))))))))))) (.w 1 [(1,.val (i6 (b % 4)))] <| .b 7 (.e) (.b 10 (.e) (.b 14 (.w 7 [(2,.val (i6 (b / 4))),(3,.val (i6 ((b / 4) % 5)))] <| .e) (.e)))) Try.func63 rfl rfl rfl (by kernel_rfl) ?_
 refine tt ⟨qm,tt (cd (fun hc7 => ?_) (fun hc7 => ?_))⟩
 · refine tt ⟨⟨?_,?_,?_,oK⟩,⟨oK,oK,oK,oK⟩⟩
   all_goals (all_goals (unfold ci; simp [*]))
 · refine tt (cd (fun hc10 => ?_) (fun hc10 => ?_))
   · refine tt ⟨⟨?_,?_,?_,oK⟩,⟨oK,oK,oK,oK⟩⟩
     all_goals (all_goals (unfold ci; simp [*]))
   · refine tt (cd (fun hc14 => ?_) (fun hc14 => ?_))
     · refine tt ⟨qd,⟨qm,tt ⟨⟨?_,?_,?_,oK⟩,⟨oK,oK,oK,oK⟩⟩⟩⟩
       all_goals (all_goals (unfold ci; simp [*]))
     · refine tt ⟨⟨?_,?_,?_,oK⟩,⟨oK,oK,oK,oK⟩⟩
       all_goals (all_goals (unfold ci; simp [*]))
theorem xk (b : List Int) (i : Nat) (s : Sg) (w : Int) (n : Nat) (hb : pv b) (h1 : 1 ≤ w) (h2 : w ≤ 6) (hi : i + 16 ≤ 9223372036854775807) (hm : s.mems.length ≤ 100) (hr : s.regs.length ≤ 100) (ht : s.takes.length ≤ 100) : CR (eY b i s w 2 (n + 1)) :=
  xh b i s w 0 n hb h1 (by omega) (by omega) (by omega) hm hr ht (fun i w a1 a2 a3 => xg b i s w 1 n hb a1 (by omega) (by omega) (by omega) hm hr ht (by omega))
theorem AN (b : List Int) (i : Nat) (s : Sg) (w : Int) (n : Nat) (hb : pv b) (h1 : 1 ≤ w) (h2 : w ≤ 5) (hi : i + 64 ≤ 9223372036854775807) (hm : s.mems.length ≤ 100) (hr : s.regs.length ≤ 100) (ht : s.takes.length ≤ 100) : CR (eY b i s w 3 (n + 2)) :=
  xh b i s w 1 (n + 1) hb h1 (by omega) (by omega) (by omega) hm hr ht (fun i w a1 a2 a3 => xk b i s w n hb a1 (by omega) (by omega) hm hr ht)
theorem i8 (b : List Int) (i : Nat) (s : Sg) (w : Int) (d : Nat) (hb : pv b) (h1 : 1 ≤ w) (h2 : w ≤ 5) (hd1 : 1 ≤ d) (hd : d ≤ 3) (hi : i + 64 ≤ 9223372036854775807) (hm : s.mems.length ≤ 100) (hr : s.regs.length ≤ 100) (ht : s.takes.length ≤ 100) : CR (eY b i s w d 2) := by
  have : d = 1 ∨ d = 2 ∨ d = 3 := by omega
  rcases this with rfl | rfl | rfl
  · exact xg b i s w 1 2 hb h1 (by omega) (by omega) (by omega) hm hr ht (by omega)
  · exact xk b i s w 1 hb h1 (by omega) (by omega) hm hr ht
  · exact AN b i s w 0 hb h1 h2 hi hm hr ht
abbrev rA (b : List Int) (i : Nat) (s : Sg) : Di := ⟨36,[(.agg [(LY b),(i6 (i : Int))]),(.agg [(LI s.regs),(LI s.takes),(.own 0),(dB s.data)])],(.agg [(i6 (((aY s b i).1).op)),(dS (((aY s b i).1).name)),(i6 ((((aY s b i).1).k).n)),(dS ((((aY s b i).1).k).p)),(i6 ((((aY s b i).1).w).n)),(dS ((((aY s b i).1).w).p)),(dL 7 (eA 2) dE (((aY s b i).1).args)),(LY b),(i6 (((aY s b i).2 : Nat) : Int))]),(.ro 79 27 dG ai s.mems)⟩
theorem rb (b : List Int) (i : Nat) (s : Sg) (hb : pv b) (hi : i + 100 ≤ 9223372036854775807) (hm : s.mems.length ≤ 100) (hr : s.regs.length ≤ 100) (ht : s.takes.length ≤ 100) : CR (rA b i s) := by
 have hy := bO hb i
 refine ak.vcR (V := TT 4 (CC (kX b i)∧QM (b.getD i 0) 3∧TT 1 (CD (((b.getD i 0) % 3) = 0) (CC (B2 1 1 2)∧TT 1 (CC (il b i 1)∧TT 3 (((cb 1 1).op) = (((aY s b i).1).op)∧((cb 1 1).name) = (((aY s b i).1).name)∧(((cb 1 1).k).n) = ((((aY s b i).1).k).n)∧(((cb 1 1).k).p) = ((((aY s b i).1).k).p)∧(((cb 1 1).w).n) = ((((aY s b i).1).w).n)∧(((cb 1 1).w).p) = ((((aY s b i).1).w).p)∧((cb 1 1).args).map (eA 2) = (((aY s b i).1).args).map (eA 2)∧b.map (ac .u8) = b.map (ac .u8)∧((i + 1 : Nat) : Int) = (((aY s b i).2 : Nat) : Int)∧True))) (TT 1 (CC (il b i 1)∧TT 2 ((pt 0 [(.agg [(LY b),(i6 ((i + 1 : Nat) : Int))]),(.agg [(LI s.regs),(LI s.takes),(.own 0),(dB s.data)]),(.agg [(i6 1),(i6 2)])] (eY b (i + 1) s 1 2 2).as∧CR (eY b (i + 1) s 1 2 2))∧TT 2 ((((ab s b 2 (i + 1) 1).1).op) = (((aY s b i).1).op)∧(((ab s b 2 (i + 1) 1).1).name) = (((aY s b i).1).name)∧((((ab s b 2 (i + 1) 1).1).k).n) = ((((aY s b i).1).k).n)∧((((ab s b 2 (i + 1) 1).1).k).p) = ((((aY s b i).1).k).p)∧((((ab s b 2 (i + 1) 1).1).w).n) = ((((aY s b i).1).w).n)∧((((ab s b 2 (i + 1) 1).1).w).p) = ((((aY s b i).1).w).p)∧(((ab s b 2 (i + 1) 1).1).args).map (eA 2) = (((aY s b i).1).args).map (eA 2)∧b.map (ac .u8) = b.map (ac .u8)∧(((ab s b 2 (i + 1) 1).2 : Nat) : Int) = (((aY s b i).2 : Nat) : Int)∧True))))))) (.w 1 [(1,(kX b i).O),(2,.val (i6 ((b.getD i 0) % 3)))] <| .b 8 (.w 2 [(0,(B2 1 1 2).O),(2,(il b i 1).O)] <| .e) (.w 3 [(1,(il b i 1).O),(4,.callr 0 (eY b (i + 1) s 1 2 2).as (eY b (i + 1) s 1 2 2).r)] <| .e)) Try.func36 rfl rfl rfl rfl (by kernel_rfl) ?_
 refine tt ⟨(cA b i hb),⟨qm,tt (cd (fun hc8 => ?_) (fun hc8 => ?_))⟩⟩
 · refine ⟨(tK 1 1 2 om om),tt ⟨(dn b i 1 om),tt ⟨?_,?_,?_,?_,?_,?_,(congrArg _ (?_ : ((cb 1 1).args) = (((aY s b i).1).args))),rfl,?_,oK⟩⟩⟩
   all_goals (all_goals (first | (rw [show aY s b i = (cb 1 1,i + 1) from if_pos hc8]; done) | (rw [show aY s b i = ab s b 2 (i + 1) 1 from if_neg hc8]; done)))
 · refine tt ⟨(dn b i 1 om),tt ⟨⟨⟨⟨⟨rfl,rfl⟩,⟨rfl,rfl⟩,oK⟩,⟨⟨rfl,rfl⟩,⟨rfl,rfl⟩,⟨rfl,rfl⟩,⟨rfl,rfl⟩,oK⟩,⟨⟨rfl,rfl⟩,⟨rfl,rfl⟩,oK⟩,oK⟩,(i8 b (i + 1) s 1 2 hb (by omega) (by omega) (by omega) (by omega) (by omega) hm hr ht)⟩,tt ⟨?_,?_,?_,?_,?_,?_,(congrArg _ (?_ : (((ab s b 2 (i + 1) 1).1).args) = (((aY s b i).1).args))),rfl,?_,oK⟩⟩⟩
   all_goals (all_goals (first | (rw [show aY s b i = (cb 1 1,i + 1) from if_pos hc8]; done) | (rw [show aY s b i = ab s b 2 (i + 1) 1 from if_neg hc8]; done)))
end Go.Proofs.Ytgfbfajaaaegjaa
