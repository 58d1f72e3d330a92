/-
  Package migrate: maps of names.
-/
import Derived.Test.YtnlmlkbaflmgcaaQVbA
namespace Go.Proofs.Ytnlmlkbaflmgcaa
open Go.RowKit
set_option linter.unusedVariables false
set_option linter.unusedSimpArgs false
abbrev un (c : Ci) : List D := [(dL 6 bm ac c.procs),(dL 5 bI aB c.chans)]
abbrev Al (s : Ns) : List D := [(dL 2 bl aW s.procs),(dL 1 ae [] s.chans)]
set_option maxRecDepth 100000
abbrev HP (c : Ci) : Ct := ⟨38,[(.agg (un c))],true,(.v (.sm false (aa .i64) 0 (b3 [] (be c) c.chans.length)))⟩
abbrev fR (c : Ci) : Lp (Nat) := gF [3,8,9,10] 2 (fun (i : Nat) => ⟨[(3,(.own 1)),(8,(dL 5 bI aB c.chans)),(9,(i6 (c.chans.length : Int))),(10,(i6 (i : Int)))],[(.var 31 (un c)),(.mpb 92 false (aa .i64) 0 (b3 [] (be c) i))]⟩) (fun (i : Nat) => i ≤ c.chans.length) (fun (i : Nat) => c.chans.length - i)
theorem nh (c : Ci) (hl : c.chans.length ≤ 137438953472) : CC (HP c) := by
 refine aq.vc (V := TT 8 (GO (fR c) 0 (∀ i,(fR c).inv i → TT 1 (CD ((i : Int) < (c.chans.length : Int)) (TT 1 (IX (i : Int) c.chans.length∧TT 8 (dk ((b3 [] (be c) i).map (fun z9 => (z9.1,(aa .i64) z9.2))) ((c.chans.getD i aB).name) [(.int .i64 (i : Int))] = (b3 [] (be c) (i + 1)).map (fun z9 => (z9.1,(aa .i64) z9.2))∧W6 ((i + 1 : Nat) : Int)∧TT 1 (AG (fR c) i (i + 1))))) (TT 3 ((b3 [] (be c) i).map (fun z9 => (z9.1,(aa .i64) z9.2)) = (b3 [] (be c) c.chans.length).map (fun z9 => (z9.1,(aa .i64) z9.2)))))))) (.w 1 [(0,.mbox 92 false (aa .i64) 0 [])] <| .l (fR c) 0 (fun i => .b 11 (.w 5 [(4,.mbox 92 false (aa .i64) 0 (b3 [] (be c) (i + 1)))] <| .w 6 [(0,.val (i6 ((i + 1 : Nat) : Int)))] <| .e) (.f 7 1 <| .e))) Try.func38 rfl rfl rfl (by kernel_rfl) ?_
 refine tt ⟨rfl,(by omega),?_⟩
 intro i hinv
 have hi := hinv
 refine tt (cd (fun hc11 => ?_) (fun hc11 => ?_))
 · refine tt ⟨ix,tt ⟨(kE _ _ _ _),⟨w6,tt ⟨(i + 1),rfl,(?_ : (i + 1) ≤ c.chans.length),(?_ : c.chans.length - (i + 1) < c.chans.length - i)⟩⟩⟩⟩
   · omega
   · omega
 · have hie : i = c.chans.length := by omega
   refine tt ?_
   rw [hie]
abbrev KD (c : Ci) (s : Ns) : Ct := ⟨59,[(.agg (un c)),(.agg (Al s))],true,(.v (.sm true kR bf (bh c s c.procs.length)))⟩
abbrev gA (c : Ci) (s : Ns) : Lp (Nat) := gF [3,5,15,16,17] 3 (fun (i : Nat) => ⟨[(3,(.ptr 1 0 0 0)),(5,(.own 2)),(15,(dL 6 bm ac c.procs)),(16,(i6 (c.procs.length : Int))),(17,(i6 (i : Int)))],[(.var 31 (un c)),(.var 35 (Al s)),(.mpb 121 true kR bf (bh c s i))]⟩) (fun (i : Nat) => i ≤ c.procs.length) (fun (i : Nat) => c.procs.length - i)
abbrev gB (c : Ci) (s : Ns) (i : Nat) : Lp (Nat) := gF [3,5,7,8,15,16,17,32,33,34] 14 (fun (j : Nat) => ⟨[(3,(.ptr 1 0 0 0)),(5,(.own 2)),(7,(.ptr 3 0 0 0)),(8,(.ptr 13 0 0 0)),(15,(dL 6 bm ac c.procs)),(16,(i6 (c.procs.length : Int))),(17,(i6 (i : Int))),(32,(dL 13 bA aK ((c.procs.getD i ac).regs))),(33,(i6 ((((c.procs.getD i ac).regs).length : Nat) : Int))),(34,(i6 (j : Int)))],[(.var 31 (un c)),(.var 35 (Al s)),(.mpb 121 true kR bf (bh c s i)),(.var 80 [(dS ((c.procs.getD i ac).name)),(dS ((c.procs.getD i ac).clock)),(dL 13 bA aK ((c.procs.getD i ac).regs)),(dL 27 bV ax ((c.procs.getD i ac).mems)),(dL 9 dJ bO ((c.procs.getD i ac).takes)),(dL 16 dz bU ((c.procs.getD i ac).puts))]),.dead,.dead,.dead,.dead,.dead,.dead,(.mpb 92 false (aa .i64) 0 (b3 [] (dc (c.procs.getD i ac)) j)),(.mpb 92 false (aa .i64) 0 ([] : List (ByteArray × Int))),.dead,(.var 124 [(dS ((c.procs.getD i ac).name)),(dS ((c.procs.getD i ac).clock)),(dL 13 bA aK ((c.procs.getD i ac).regs)),(dL 27 bV ax ((c.procs.getD i ac).mems)),(dL 9 dJ bO ((c.procs.getD i ac).takes)),(dL 16 dz bU ((c.procs.getD i ac).puts)),(LI ((s.procs.getD i aW).regs)),(dL 1 ae [] ((s.procs.getD i aW).mems)),(.own 10),(.own 11)])]⟩) (fun (j : Nat) => j ≤ (c.procs.getD i ac).regs.length) (fun (j : Nat) => (c.procs.getD i ac).regs.length - j)
abbrev gC (c : Ci) (s : Ns) (i : Nat) (j : Nat) : Lp (Nat) := gF [3,5,7,8,15,16,17,46,47,48] 14 (fun (k : Nat) => ⟨[(3,(.ptr 1 0 0 0)),(5,(.own 2)),(7,(.ptr 3 0 0 0)),(8,(.ptr 13 0 0 0)),(15,(dL 6 bm ac c.procs)),(16,(i6 (c.procs.length : Int))),(17,(i6 (i : Int))),(46,(dL 27 bV ax ((c.procs.getD i ac).mems))),(47,(i6 ((((c.procs.getD i ac).mems).length : Nat) : Int))),(48,(i6 (k : Int)))],[(.var 31 (un c)),(.var 35 (Al s)),(.mpb 121 true kR bf (bh c s i)),(.var 80 [(dS ((c.procs.getD i ac).name)),(dS ((c.procs.getD i ac).clock)),(dL 13 bA aK ((c.procs.getD i ac).regs)),(dL 27 bV ax ((c.procs.getD i ac).mems)),(dL 9 dJ bO ((c.procs.getD i ac).takes)),(dL 16 dz bU ((c.procs.getD i ac).puts))]),.dead,.dead,.dead,.dead,.dead,.dead,(.mpb 92 false (aa .i64) 0 (b3 [] (dc (c.procs.getD i ac)) j)),(.mpb 92 false (aa .i64) 0 (b3 [] (d4 (c.procs.getD i ac)) k)),.dead,(.var 124 [(dS ((c.procs.getD i ac).name)),(dS ((c.procs.getD i ac).clock)),(dL 13 bA aK ((c.procs.getD i ac).regs)),(dL 27 bV ax ((c.procs.getD i ac).mems)),(dL 9 dJ bO ((c.procs.getD i ac).takes)),(dL 16 dz bU ((c.procs.getD i ac).puts)),(LI ((s.procs.getD i aW).regs)),(dL 1 ae [] ((s.procs.getD i aW).mems)),(.own 10),(.own 11)])]⟩) (fun (k : Nat) => k ≤ (c.procs.getD i ac).mems.length) (fun (k : Nat) => (c.procs.getD i ac).mems.length - k)
theorem BR (c : Ci) (s : Ns) (hl : c.procs.length ≤ 137438953472) (hsl : s.procs.length = c.procs.length) (hr : ∀ i,i < c.procs.length → (c.procs.getD i ac).regs.length ≤ 137438953472∧(c.procs.getD i ac).mems.length ≤ 137438953472) : CC (KD c s) := by
 refine aq.vc (V := TT 9 (GO (gA c s) 0 (∀ i,(gA c s).inv i → TT 1 (CD ((i : Int) < (c.procs.length : Int)) (TT 1 (IX (i : Int) c.procs.length∧TT 8 (IX (i : Int) s.procs.length∧TT 10 (GO (gB c s i) 0 (∀ j,(gB c s i).inv j → TT 1 (CD ((j : Int) < ((((c.procs.getD i ac).regs).length : Nat) : Int)) (TT 1 (IX (j : Int) (((c.procs.getD i ac).regs).length)∧TT 9 (dk ((b3 [] (dc (c.procs.getD i ac)) j).map (fun z9 => (z9.1,(aa .i64) z9.2))) ((((c.procs.getD i ac).regs).getD j aK).name) [(.int .i64 (j : Int))] = (b3 [] (dc (c.procs.getD i ac)) (j + 1)).map (fun z9 => (z9.1,(aa .i64) z9.2))∧W6 ((j + 1 : Nat) : Int)∧TT 1 (AG (gB c s i) j (j + 1))))) (TT 4 (GO (gC c s i j) 0 (∀ k,(gC c s i j).inv k → TT 1 (CD ((k : Int) < ((((c.procs.getD i ac).mems).length : Nat) : Int)) (TT 1 (IX (k : Int) (((c.procs.getD i ac).mems).length)∧TT 9 (dk ((b3 [] (d4 (c.procs.getD i ac)) k).map (fun z9 => (z9.1,(aa .i64) z9.2))) ((((c.procs.getD i ac).mems).getD k ax).name) [(.int .i64 (k : Int))] = (b3 [] (d4 (c.procs.getD i ac)) (k + 1)).map (fun z9 => (z9.1,(aa .i64) z9.2))∧W6 ((k + 1 : Nat) : Int)∧TT 1 (AG (gC c s i j) k (k + 1))))) (TT 4 (dk ((bh c s i).map (fun z9 => (z9.1,kR z9.2))) ((c.procs.getD i ac).name) [(.str ((c.procs.getD i ac).name)),(.str ((c.procs.getD i ac).clock)),(.sl 13 bA aK ((c.procs.getD i ac).regs)),(.sl 27 bV ax ((c.procs.getD i ac).mems)),(.sl 9 dJ bO ((c.procs.getD i ac).takes)),(.sl 16 dz bU ((c.procs.getD i ac).puts)),(.sl 1 (aa .i64) 0 ((s.procs.getD i aW).regs)),(.sl 1 ae [] ((s.procs.getD i aW).mems)),(.sm false (aa .i64) 0 (b3 [] (dc (c.procs.getD i ac)) j)),(.sm false (aa .i64) 0 (b3 [] (d4 (c.procs.getD i ac)) k))] = (bh c s (i + 1)).map (fun z9 => (z9.1,kR z9.2))∧W6 ((i + 1 : Nat) : Int)∧TT 1 (AG (gA c s) i (i + 1)))))))))))))) (TT 3 ((bh c s i).map (fun z9 => (z9.1,kR z9.2)) = (bh c s c.procs.length).map (fun z9 => (z9.1,kR z9.2)))))))) (.w 1 [(0,.mbox 121 true kR bf [])] <| .l (gA c s) 0 (fun i => .b 18 (.w 5 [(6,.mbox 92 false (aa .i64) 0 []),(7,.mbox 92 false (aa .i64) 0 [])] <| .l (gB c s i) 0 (fun j => .b 35 (.w 9 [(5,.mbox 92 false (aa .i64) 0 (b3 [] (dc (c.procs.getD i ac)) (j + 1)))] <| .w 10 [(0,.val (i6 ((j + 1 : Nat) : Int)))] <| .e) (.l (gC c s i j) 0 (fun k => .b 49 (.w 14 [(5,.mbox 92 false (aa .i64) 0 (b3 [] (d4 (c.procs.getD i ac)) (k + 1)))] <| .w 15 [(0,.val (i6 ((k + 1 : Nat) : Int)))] <| .e) (.f 16 10 <| .f 16 11 <| .w 16 [(4,.mbox 121 true kR bf (bh c s (i + 1)))] <| .w 17 [(0,.val (i6 ((i + 1 : Nat) : Int)))] <| .e))))) (.f 18 2 <| .e))) Try.func59 rfl rfl rfl (by kernel_rfl) ?_
 refine tt ⟨rfl,(by omega),?_⟩
 intro i hinv
 have hi := hinv
 refine tt (cd (fun hc18 => ?_) (fun hc18 => ?_))
 · refine tt ⟨ix,?_⟩
   have hrm := hr i (by omega)
   refine tt ⟨ix,tt ⟨rfl,(by omega),?_⟩⟩
   intro j hinv
   have hj := hinv
   refine tt (cd (fun hc35 => ?_) (fun hc35 => ?_))
   · refine tt ⟨ix,tt ⟨(kE _ _ _ _),⟨w6,tt ⟨(j + 1),rfl,(?_ : (j + 1) ≤ (c.procs.getD i ac).regs.length),(?_ : (c.procs.getD i ac).regs.length - (j + 1) < (c.procs.getD i ac).regs.length - j)⟩⟩⟩⟩
     · omega
     · omega
   · have hje : j = (c.procs.getD i ac).regs.length := by omega
     refine tt ⟨rfl,(by omega),?_⟩
     intro k hinv
     have hk := hinv
     refine tt (cd (fun hc49 => ?_) (fun hc49 => ?_))
     · refine tt ⟨ix,tt ⟨(kE _ _ _ _),⟨w6,tt ⟨(k + 1),rfl,(?_ : (k + 1) ≤ (c.procs.getD i ac).mems.length),(?_ : (c.procs.getD i ac).mems.length - (k + 1) < (c.procs.getD i ac).mems.length - k)⟩⟩⟩⟩
       · omega
       · omega
     · have hke : k = (c.procs.getD i ac).mems.length := by omega
       refine tt ⟨(by rw [hje,hke]; exact kE kR (d5 c s i) (fu c i) (bh c s i)),⟨w6,tt ⟨(i + 1),rfl,(?_ : (i + 1) ≤ c.procs.length),(?_ : c.procs.length - (i + 1) < c.procs.length - i)⟩⟩⟩
       · omega
       · omega
 · have hie : i = c.procs.length := by omega
   refine tt ?_
   rw [hie]
end Go.Proofs.Ytnlmlkbaflmgcaa
