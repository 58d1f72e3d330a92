/-
  Package migrate: missing channels.
-/
import Derived.Test.YtnlmlkbaflmgcaaQVbA
namespace Go.Proofs.Ytnlmlkbaflmgcaa
open Go.RowKit
set_option linter.unusedVariables false
set_option linter.unusedSimpArgs false
abbrev t5 (c : Ci) : List D := [(dL 6 bm ac c.procs),(dL 5 bH ax c.chans)]
abbrev zY (s : Ns) : List D := [(dL 2 a9 aX s.procs),(dL 1 ab [] s.chans)]
set_option maxRecDepth 100000
abbrev HI (c : Ci) : Ct := ⟨38,[(.agg (t5 c))],true,(.v (.sm false (aa .i64) 0 (b4 [] (bk c) c.chans.length)))⟩
abbrev f9 (c : Ci) : Lp (Nat) := fB [3,8,9,10] 2 (fun (i : Nat) => ⟨[(3,(.own 1)),(8,(dL 5 bH ax c.chans)),(9,(i6 (c.chans.length : Int))),(10,(i6 (i : Int)))],[(.var 31 (t5 c)),(.mpb 92 false (aa .i64) 0 (b4 [] (bk c) i))]⟩) (fun (i : Nat) => i ≤ c.chans.length) (fun (i : Nat) => c.chans.length - i)
theorem nk (c : Ci) (hl : c.chans.length ≤ 137438953472) : CC (HI c) := by
 refine ap.vc (V := TT 8 (GO (f9 c) 0 (∀ i,(f9 c).inv i → TT 1 (CD ((i : Int) < (c.chans.length : Int)) (TT 1 (IX (i : Int) c.chans.length∧TT 8 (dt ((b4 [] (bk c) i).map (fun z9 => (z9.1,(aa .i64) z9.2))) ((c.chans.getD i ax).name) [(.int .i64 (i : Int))] = (b4 [] (bk c) (i + 1)).map (fun z9 => (z9.1,(aa .i64) z9.2))∧W6 ((i + 1 : Nat) : Int)∧TT 1 (AG (f9 c) i (i + 1))))) (TT 3 ((b4 [] (bk c) i).map (fun z9 => (z9.1,(aa .i64) z9.2)) = (b4 [] (bk c) c.chans.length).map (fun z9 => (z9.1,(aa .i64) z9.2)))))))) (.w 1 [(0,.mbox 92 false (aa .i64) 0 [])] <| .l (f9 c) 0 (fun i => .b 11 (.w 5 [(4,.mbox 92 false (aa .i64) 0 (b4 [] (bk c) (i + 1)))] <| .w 6 [(0,.val (i6 ((i + 1 : Nat) : Int)))] <| .e) (.f 7 1 <| .e))) Try.func38 rfl rfl rfl (by kernel_rfl) ?_
 refine tt ⟨rfl,(by omega),?_⟩
 intro i hinv
 have hi := hinv
 refine tt (cd (fun hc11 => ?_) (fun hc11 => ?_))
 · refine tt ⟨ix,tt ⟨(kK _ _ _ _),⟨w6,tt ⟨(i + 1),rfl,(?_ : (i + 1) ≤ c.chans.length),(?_ : c.chans.length - (i + 1) < c.chans.length - i)⟩⟩⟩⟩
   · omega
   · omega
 · have hie : i = c.chans.length := by omega
   refine tt ?_
   rw [hie]
abbrev KI (c : Ci) (s : Ns) : Ct := ⟨59,[(.agg (t5 c)),(.agg (zY s))],true,(.v (.sm true kV ba (bc c s c.procs.length)))⟩
abbrev gP (c : Ci) (s : Ns) : Lp (Nat) := fB [3,5,15,16,17] 3 (fun (i : Nat) => ⟨[(3,(.ptr 1 0 0 0)),(5,(.own 2)),(15,(dL 6 bm ac c.procs)),(16,(i6 (c.procs.length : Int))),(17,(i6 (i : Int)))],[(.var 31 (t5 c)),(.var 35 (zY s)),(.mpb 121 true kV ba (bc c s i))]⟩) (fun (i : Nat) => i ≤ c.procs.length) (fun (i : Nat) => c.procs.length - i)
abbrev gQ (c : Ci) (s : Ns) (i : Nat) : Lp (Nat) := fB [3,5,7,8,15,16,17,32,33,34] 14 (fun (j : Nat) => ⟨[(3,(.ptr 1 0 0 0)),(5,(.own 2)),(7,(.ptr 3 0 0 0)),(8,(.ptr 13 0 0 0)),(15,(dL 6 bm ac c.procs)),(16,(i6 (c.procs.length : Int))),(17,(i6 (i : Int))),(32,(dL 13 bA aC ((c.procs.getD i ac).regs))),(33,(i6 ((((c.procs.getD i ac).regs).length : Nat) : Int))),(34,(i6 (j : Int)))],[(.var 31 (t5 c)),(.var 35 (zY s)),(.mpb 121 true kV ba (bc c s i)),(.var 80 [(dS ((c.procs.getD i ac).name)),(dS ((c.procs.getD i ac).clock)),(dL 13 bA aC ((c.procs.getD i ac).regs)),(dL 27 bX au ((c.procs.getD i ac).mems)),(dL 9 cP bB ((c.procs.getD i ac).takes)),(dL 16 cN bK ((c.procs.getD i ac).puts))]),.dead,.dead,.dead,.dead,.dead,.dead,(.mpb 92 false (aa .i64) 0 (b4 [] (eo (c.procs.getD i ac)) j)),(.mpb 92 false (aa .i64) 0 ([] : List (ByteArray × Int))),.dead,(.var 124 [(dS ((c.procs.getD i ac).name)),(dS ((c.procs.getD i ac).clock)),(dL 13 bA aC ((c.procs.getD i ac).regs)),(dL 27 bX au ((c.procs.getD i ac).mems)),(dL 9 cP bB ((c.procs.getD i ac).takes)),(dL 16 cN bK ((c.procs.getD i ac).puts)),(LI ((s.procs.getD i aX).regs)),(dL 1 ab [] ((s.procs.getD i aX).mems)),(.own 10),(.own 11)])]⟩) (fun (j : Nat) => j ≤ (c.procs.getD i ac).regs.length) (fun (j : Nat) => (c.procs.getD i ac).regs.length - j)
abbrev gR (c : Ci) (s : Ns) (i : Nat) (j : Nat) : Lp (Nat) := fB [3,5,7,8,15,16,17,46,47,48] 14 (fun (k : Nat) => ⟨[(3,(.ptr 1 0 0 0)),(5,(.own 2)),(7,(.ptr 3 0 0 0)),(8,(.ptr 13 0 0 0)),(15,(dL 6 bm ac c.procs)),(16,(i6 (c.procs.length : Int))),(17,(i6 (i : Int))),(46,(dL 27 bX au ((c.procs.getD i ac).mems))),(47,(i6 ((((c.procs.getD i ac).mems).length : Nat) : Int))),(48,(i6 (k : Int)))],[(.var 31 (t5 c)),(.var 35 (zY s)),(.mpb 121 true kV ba (bc c s i)),(.var 80 [(dS ((c.procs.getD i ac).name)),(dS ((c.procs.getD i ac).clock)),(dL 13 bA aC ((c.procs.getD i ac).regs)),(dL 27 bX au ((c.procs.getD i ac).mems)),(dL 9 cP bB ((c.procs.getD i ac).takes)),(dL 16 cN bK ((c.procs.getD i ac).puts))]),.dead,.dead,.dead,.dead,.dead,.dead,(.mpb 92 false (aa .i64) 0 (b4 [] (eo (c.procs.getD i ac)) j)),(.mpb 92 false (aa .i64) 0 (b4 [] (fb (c.procs.getD i ac)) k)),.dead,(.var 124 [(dS ((c.procs.getD i ac).name)),(dS ((c.procs.getD i ac).clock)),(dL 13 bA aC ((c.procs.getD i ac).regs)),(dL 27 bX au ((c.procs.getD i ac).mems)),(dL 9 cP bB ((c.procs.getD i ac).takes)),(dL 16 cN bK ((c.procs.getD i ac).puts)),(LI ((s.procs.getD i aX).regs)),(dL 1 ab [] ((s.procs.getD i aX).mems)),(.own 10),(.own 11)])]⟩) (fun (k : Nat) => k ≤ (c.procs.getD i ac).mems.length) (fun (k : Nat) => (c.procs.getD i ac).mems.length - k)
theorem BC (c : Ci) (s : Ns) (hl : c.procs.length ≤ 137438953472) (hsl : s.procs.length = c.procs.length) (hr : ∀ i,i < c.procs.length → (c.procs.getD i ac).regs.length ≤ 137438953472∧(c.procs.getD i ac).mems.length ≤ 137438953472) : CC (KI c s) := by
 refine ap.vc (V := TT 9 (GO (gP c s) 0 (∀ i,(gP c s).inv i → TT 1 (CD ((i : Int) < (c.procs.length : Int)) (TT 1 (IX (i : Int) c.procs.length∧TT 8 (IX (i : Int) s.procs.length∧TT 10 (GO (gQ c s i) 0 (∀ j,(gQ c s i).inv j → TT 1 (CD ((j : Int) < ((((c.procs.getD i ac).regs).length : Nat) : Int)) (TT 1 (IX (j : Int) (((c.procs.getD i ac).regs).length)∧TT 9 (dt ((b4 [] (eo (c.procs.getD i ac)) j).map (fun z9 => (z9.1,(aa .i64) z9.2))) ((((c.procs.getD i ac).regs).getD j aC).name) [(.int .i64 (j : Int))] = (b4 [] (eo (c.procs.getD i ac)) (j + 1)).map (fun z9 => (z9.1,(aa .i64) z9.2))∧W6 ((j + 1 : Nat) : Int)∧TT 1 (AG (gQ c s i) j (j + 1))))) (TT 4 (GO (gR c s i j) 0 (∀ k,(gR c s i j).inv k → TT 1 (CD ((k : Int) < ((((c.procs.getD i ac).mems).length : Nat) : Int)) (TT 1 (IX (k : Int) (((c.procs.getD i ac).mems).length)∧TT 9 (dt ((b4 [] (fb (c.procs.getD i ac)) k).map (fun z9 => (z9.1,(aa .i64) z9.2))) ((((c.procs.getD i ac).mems).getD k au).name) [(.int .i64 (k : Int))] = (b4 [] (fb (c.procs.getD i ac)) (k + 1)).map (fun z9 => (z9.1,(aa .i64) z9.2))∧W6 ((k + 1 : Nat) : Int)∧TT 1 (AG (gR c s i j) k (k + 1))))) (TT 4 (dt ((bc c s i).map (fun z9 => (z9.1,kV z9.2))) ((c.procs.getD i ac).name) [(.str ((c.procs.getD i ac).name)),(.str ((c.procs.getD i ac).clock)),(.sl 13 bA aC ((c.procs.getD i ac).regs)),(.sl 27 bX au ((c.procs.getD i ac).mems)),(.sl 9 cP bB ((c.procs.getD i ac).takes)),(.sl 16 cN bK ((c.procs.getD i ac).puts)),(.sl 1 (aa .i64) 0 ((s.procs.getD i aX).regs)),(.sl 1 ab [] ((s.procs.getD i aX).mems)),(.sm false (aa .i64) 0 (b4 [] (eo (c.procs.getD i ac)) j)),(.sm false (aa .i64) 0 (b4 [] (fb (c.procs.getD i ac)) k))] = (bc c s (i + 1)).map (fun z9 => (z9.1,kV z9.2))∧W6 ((i + 1 : Nat) : Int)∧TT 1 (AG (gP c s) i (i + 1)))))))))))))) (TT 3 ((bc c s i).map (fun z9 => (z9.1,kV z9.2)) = (bc c s c.procs.length).map (fun z9 => (z9.1,kV z9.2)))))))) (.w 1 [(0,.mbox 121 true kV ba [])] <| .l (gP c s) 0 (fun i => .b 18 (.w 5 [(6,.mbox 92 false (aa .i64) 0 []),(7,.mbox 92 false (aa .i64) 0 [])] <| .l (gQ c s i) 0 (fun j => .b 35 (.w 9 [(5,.mbox 92 false (aa .i64) 0 (b4 [] (eo (c.procs.getD i ac)) (j + 1)))] <| .w 10 [(0,.val (i6 ((j + 1 : Nat) : Int)))] <| .e) (.l (gR c s i j) 0 (fun k => .b 49 (.w 14 [(5,.mbox 92 false (aa .i64) 0 (b4 [] (fb (c.procs.getD i ac)) (k + 1)))] <| .w 15 [(0,.val (i6 ((k + 1 : Nat) : Int)))] <| .e) (.f 16 10 <| .f 16 11 <| .w 16 [(4,.mbox 121 true kV ba (bc c s (i + 1)))] <| .w 17 [(0,.val (i6 ((i + 1 : Nat) : Int)))] <| .e))))) (.f 18 2 <| .e))) Try.func59 rfl rfl rfl (by kernel_rfl) ?_
 refine tt ⟨rfl,(by omega),?_⟩
 intro i hinv
 have hi := hinv
 refine tt (cd (fun hc18 => ?_) (fun hc18 => ?_))
 · refine tt ⟨ix,?_⟩
   have hrm := hr i (by omega)
   refine tt ⟨ix,tt ⟨rfl,(by omega),?_⟩⟩
   intro j hinv
   have hj := hinv
   refine tt (cd (fun hc35 => ?_) (fun hc35 => ?_))
   · refine tt ⟨ix,tt ⟨(kK _ _ _ _),⟨w6,tt ⟨(j + 1),rfl,(?_ : (j + 1) ≤ (c.procs.getD i ac).regs.length),(?_ : (c.procs.getD i ac).regs.length - (j + 1) < (c.procs.getD i ac).regs.length - j)⟩⟩⟩⟩
     · omega
     · omega
   · have hje : j = (c.procs.getD i ac).regs.length := by omega
     refine tt ⟨rfl,(by omega),?_⟩
     intro k hinv
     have hk := hinv
     refine tt (cd (fun hc49 => ?_) (fun hc49 => ?_))
     · refine tt ⟨ix,tt ⟨(kK _ _ _ _),⟨w6,tt ⟨(k + 1),rfl,(?_ : (k + 1) ≤ (c.procs.getD i ac).mems.length),(?_ : (c.procs.getD i ac).mems.length - (k + 1) < (c.procs.getD i ac).mems.length - k)⟩⟩⟩⟩
       · omega
       · omega
     · have hke : k = (c.procs.getD i ac).mems.length := by omega
       refine tt ⟨(by rw [hje,hke]; exact kK kV (er c s i) (eG c i) (bc c s i)),⟨w6,tt ⟨(i + 1),rfl,(?_ : (i + 1) ≤ c.procs.length),(?_ : c.procs.length - (i + 1) < c.procs.length - i)⟩⟩⟩
       · omega
       · omega
 · have hie : i = c.procs.length := by omega
   refine tt ?_
   rw [hie]
set_option maxRecDepth 100000
abbrev E5 (o n : Ci) : Ct := ⟨14,[(.agg [(dL 6 bm ac o.procs),(dL 5 bH ax o.chans)]),(.agg [(dL 6 bm ac n.procs),(dL 5 bH ax n.chans)])],true,(dL 1 bu .empty (a4 o n o.chans.length))⟩
abbrev d4 (o : Ci) (n : Ci) : Lp (Nat × List ByteArray) := pW [3,5,6,14,15,16] 3 (fun (i : Nat) (acc : List ByteArray) => ⟨[(3,(.ptr 1 0 0 0)),(5,(.v (.sm false (aa .i64) 0 (b4 [] (bk n) n.chans.length)))),(6,(.own 2)),(14,(dL 5 bH ax o.chans)),(15,(i6 (o.chans.length : Int))),(16,(i6 (i : Int)))],[(.var 31 [(dL 6 bm ac o.procs),(dL 5 bH ax o.chans)]),(.var 31 [(dL 6 bm ac n.procs),(dL 5 bH ax n.chans)]),(.arr 9 1 bu .empty acc)]⟩) (fun (i : Nat) (acc : List ByteArray) => i ≤ o.chans.length∧acc = a4 o n i) (fun (i : Nat) (acc : List ByteArray) => o.chans.length - i)
theorem lL (o n : Ci) (hol : o.chans.length ≤ 1000000) (hnl : n.chans.length ≤ 1000000) : CC (E5 o n) := by
 refine ap.vc (V := TT 4 (CC (HI n)∧TT 6 (GO (d4 o n) (0,[]) (∀ i acc,(d4 o n).inv (i,acc) → TT 1 (CD ((i : Int) < (o.chans.length : Int)) (IX (i : Int) o.chans.length∧TT 6 (((cu (i6 0) (fC false ((aa .i64) 0)))∧(false = false → ∀ p ∈ (b4 [] (bk n) n.chans.length),((aa .i64) p.2).length = 1))∧TT 5 (CS ((aV (b4 [] (bk n) n.chans.length) ((o.chans.getD i ax).name)) = true) (TT 2 ((True∧(!(aV (b4 [] (bk n) n.chans.length) ((o.chans.getD i ax).name))) = false)∧TT 3 (IX (ah 0 (b4 [] (bk n) n.chans.length) ((o.chans.getD i ax).name)) n.chans.length∧TT 6 (CN (((n.chans.getD ((ah 0 (b4 [] (bk n) n.chans.length) ((o.chans.getD i ax).name)).toNat) ax).w) = ((o.chans.getD i ax).w)) (TT 3 (ai [[(dS ((o.chans.getD i ax).name))]] ([(o.chans.getD i ax).name].map bu)∧(acc.length + ([(o.chans.getD i ax).name].map bu).length ≤ 137438953472∧acc.map bu ++ [(o.chans.getD i ax).name].map bu = (a4 o n (i + 1)).map bu)∧TT 1 (W6 ((i + 1 : Nat) : Int)∧TT 1 (AG (d4 o n) (i,acc) (i + 1,a4 o n (i + 1)))))) (W6 ((i + 1 : Nat) : Int)∧TT 1 (AG (d4 o n) (i,acc) (i + 1,acc))))))) (TT 2 ((True∧(!(aV (b4 [] (bk n) n.chans.length) ((o.chans.getD i ax).name))) = true)∧TT 4 (ai [[(dS ((o.chans.getD i ax).name))]] ([(o.chans.getD i ax).name].map bu)∧(acc.length + ([(o.chans.getD i ax).name].map bu).length ≤ 137438953472∧acc.map bu ++ [(o.chans.getD i ax).name].map bu = (a4 o n (i + 1)).map bu)∧TT 1 (W6 ((i + 1 : Nat) : Int)∧TT 1 (AG (d4 o n) (i,acc) (i + 1,a4 o n (i + 1)))))))))) (TT 3 (acc.map bu = (a4 o n o.chans.length).map bu))))))) (.w 1 [(1,(HI n).O)] <| .gs 3 6 9 1 bu .empty <| .l (d4 o n) (0,[]) (fun ⟨i,acc⟩ => .b 17 (.s 7 ((aV (b4 [] (bk n) n.chans.length) ((o.chans.getD i ax).name)) = true) (.w 7 [(2,.val (dB false))] <| .b 39 (.w 8 [(3,.box 9 1 bu .empty [(o.chans.getD i ax).name]),(4,.box 9 1 bu .empty (a4 o n (i + 1)))] <| .w 9 [(0,.val (i6 ((i + 1 : Nat) : Int)))] <| .e) (.w 9 [(0,.val (i6 ((i + 1 : Nat) : Int)))] <| .e)) (.w 7 [(2,.val (dB true))] <| .w 8 [(3,.box 9 1 bu .empty [(o.chans.getD i ax).name]),(4,.box 9 1 bu .empty (a4 o n (i + 1)))] <| .w 9 [(0,.val (i6 ((i + 1 : Nat) : Int)))] <| .e)) (.e))) Try.func14 rfl rfl rfl (by kernel_rfl) ?_
 refine tt ⟨(nk n (by omega)),tt ⟨rfl,⟨by omega,rfl⟩,?_⟩⟩
 intro i acc hinv
 obtain ⟨hi,hacc⟩ := hinv
 refine tt (cd (fun hc17 => ?_) (fun hc17 => ?_))
 · refine ⟨ix,tt ⟨⟨(cu.refl _),(fun _ _ _ => rfl)⟩,tt ?_⟩⟩
   have hin := t3 (f := bk n) (k := bk o i) n.chans.length
   refine ⟨fun hs0 => ?_,fun hs0 => ?_⟩
   · have hin2 : 0 ≤ ah 0 (b4 [] (bk n) n.chans.length) (o.chans.getD i ax).name∧ah 0 (b4 [] (bk n) n.chans.length) (o.chans.getD i ax).name < (n.chans.length : Int) := hin hs0
     refine tt ⟨(mF hs0),tt ⟨ix,tt (cn (fun hc39 => ?_) (fun hc39 => ?_))⟩⟩
     · refine tt ⟨⟨⟨rfl,oK⟩,oK⟩,⟨⟨by simp only [List.length_map,List.length_cons,List.length_nil]; rw [hacc]; have := kW o n i; omega,by rw [hacc,wT (o := o) (n := n) (i := i) (by first | exact qH hs0 | exact qH (Bool.eq_false_iff.2 hs0) | exact zW hc39),List.map_append]; rfl⟩,tt ⟨w6,tt ⟨(i + 1,a4 o n (i + 1)),rfl,?_,(?_ : o.chans.length - (i + 1) < o.chans.length - i)⟩⟩⟩⟩
       · exact ⟨by omega,by first | rfl | (rw [hacc]; exact vx (vw hs0 hc39))⟩
       · omega
     · refine ⟨w6,tt ⟨(i + 1,acc),rfl,?_,(?_ : o.chans.length - (i + 1) < o.chans.length - i)⟩⟩
       · exact ⟨by omega,by first | rfl | (rw [hacc]; exact vx (vw hs0 hc39))⟩
       · omega
   · refine tt ⟨(mT hs0),tt ⟨⟨⟨rfl,oK⟩,oK⟩,⟨⟨by simp only [List.length_map,List.length_cons,List.length_nil]; rw [hacc]; have := kW o n i; omega,by rw [hacc,wT (o := o) (n := n) (i := i) (by first | exact qH hs0 | exact qH (Bool.eq_false_iff.2 hs0) | exact zW hc39),List.map_append]; rfl⟩,tt ⟨w6,tt ⟨(i + 1,a4 o n (i + 1)),rfl,?_,(?_ : o.chans.length - (i + 1) < o.chans.length - i)⟩⟩⟩⟩⟩
     · exact ⟨by omega,by first | rfl | (rw [hacc]; exact vx (vw hs0 hc39))⟩
     · omega
 · have hie : i = o.chans.length := by omega
   refine tt (congrArg _ (?_ : acc = (a4 o n o.chans.length)))
   rw [hacc,hie]
end Go.Proofs.Ytnlmlkbaflmgcaa
