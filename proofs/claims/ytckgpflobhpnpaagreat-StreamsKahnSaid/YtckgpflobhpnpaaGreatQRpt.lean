/-
  slices.Repeat of one true, once or twice: by the old walks.
-/
import Derived.Test.YtckgpflobhpnpaaGreatQGrw
import Derived.Laws.CopyOwn
import Derived.LoopN
import Derived.Deep.RegionLaw
namespace Go.Proofs.YtckgpflobhpnpaaGreat
open Go.RowKit
set_option linter.unusedVariables false
set_option linter.unusedSimpArgs false
theorem yr (w:World) (cs cs':Array Value) (T:TypeId):(w.alloc (.cells cs T)).setRow w.heap.size cs'=w.alloc (.cells cs' T):=by
 unfold World.setRow World.alloc
 congr 1
 apply Array.ext
 ·simp
 ·intro k h1 h2
  simp only[Array.getElem_modify]
  by_cases hk:w.heap.size=k
  ·subst hk;simp
  ·simp only[Array.size_push, Array.size_modify]at h1
   simp[hk, Array.getElem_push, show k<w.heap.size by omega]
theorem G4 (w:World) {x y:Value} {T:TypeId}:(w.alloc (Obj.cells #[x, y] T)).cell? ((⟨w.heap.size, 0, none⟩:Addr).add 0)=some x:=by
 have h:=heap_alloc_new w (Obj.cells #[x, y] T)
 rw[show((⟨w.heap.size, 0, none⟩:Addr).add 0)=⟨w.heap.size, 0, none⟩from rfl]
 simp only[World.cell?, h]
 rfl
theorem Below.heap_alloc' (w:World) (o:Obj):Below w.heap.size w (w.alloc o):=(Below.refl _ w).alloc (Nat.le_refl _) o
theorem zV {w:World} {g n:Nat} {xs:List Value} (h:w.heap[g]?=some (Obj.cells xs.toArray 4 (0, 0))) (hn:xs.length=n:=by rfl) (hm:n≤2:=by decide):w.ownsRow 0 4 1 (.slice (some ⟨g, 0, none⟩) n n) n xs :=
 ⟨by omega, .inr ⟨g, n, _, rfl, Nat.zero_le _, h, Nat.le_refl _, by simp only[maxLen];omega, by simp;omega, by simp[List.take_of_length_le (Nat.le_of_eq hn)]⟩⟩
theorem w7 {w w':World} (h:Below w.heap.size w w'):w.grownBy w' none:=⟨h.os, h.tape, h.output, h.size, fun k hk _=>h.block k hk⟩
theorem Ms {S:Nat→Prop} {w:World} {k:IntKind} {n:Int} {u:Value} (h:de S w (.int k n) u):u=.int k n:=by cases h;rfl
theorem K1 {S:Nat→Prop} {μ:Nat→Value} {w:World} {x y:V} {us:Array Value} (h:aM S μ w [.v x, .v y] us):∃u v, us=#[u, v]∧de S w x u∧de S w y v:=by
 obtain⟨h1, h2⟩:=h
 have h1':us.size=2:=h1
 refine⟨us[0]'(by omega), us[1]'(by omega), ?_, bg (h2 0 _ _ rfl (Array.getElem?_eq_getElem _)), bg (h2 1 _ _ rfl (Array.getElem?_eq_getElem _))⟩
 apply Array.ext
 ·simpa using h1
 ·intro i a b
  have:i=0∨i=1:=by omega
  rcases this with rfl | rfl<;>rfl
def N4 (A:Act) (R:World→Prop):Exit→Act→World→Prop
 | .normal, a, w=>a=A∧R w
 | _, _, _=>False
theorem K2 {P:Program} {c:Code} {a:Act} {w:World} {Q:Exit→Act→World→Prop} {R:World→Prop} {A:Act} (h:c.wp P (N4 A R) a w) (h2:∀w', R w'→Q .normal A w'):c.wp P Q a w :=
 Code.wp_mono (fun e a' w' h=>by cases e<;>first | exact h.elim | (obtain⟨h4, h5⟩:=h;subst h4;exact h2 w' h5)) h
theorem vq (w:World) (n b o c:Nat) (hn:1≤n) (cs:Array Value) (hcs:cs.size=n) (x:Value) (hx:x.oneCell'=true) (hb:w.cell? ⟨b, o, none⟩=some x) (hbl:b<w.heap.size) :
  (Builtin.copy_ #[98, 98] 3 #[.slice (some ⟨w.heap.size, 0, none⟩) n n, .slice (some ⟨b, o, none⟩) 1 c]).run Tryz.prog (w.alloc (.cells cs 4))=.ok (.int .i64 1) (w.alloc (.cells (x::cs.toList.drop 1).toArray 4)):=by
 have h:=run_copy_row (P:=Tryz.prog) (w.alloc (.cells cs 4)) 98 98 3 4 w.heap.size 0 n n ⟨b, o, none⟩ 1 c cs 4 [x] (by kernel_rfl) (by kernel_rfl) (heap_alloc_new w _) (by show 1=Nat.min 1 n;exact(Nat.min_eq_left hn).symm) (fun j v hj=>by
  cases j with
  | zero =>
   simp at hj;subst hj
   rw[← hb]
   exact World.cell?_of_block (by show(w.heap.push _)[b]?=_;rw[Array.getElem?_push, if_neg (by omega)];rfl)
  | succ j=>simp at hj) (by simp;omega) (by simpa using hx)
 rw[h, yr]
 rfl
set_option maxRecDepth 100000 in
set_option maxHeartbeats 1600000 in
theorem BD (w:World) (b o c:Nat) (hb:w.cell? ⟨b, o, none⟩=some (.bool true)) (hbl:b<w.heap.size):Calls Tryz.prog 103 #[.slice (some ⟨b, o, none⟩) 1 c, .int .i64 1] w (fun e w'=>∃v, e=.returned v∧w'.ownsRow 0 4 1 v 1 [.bool true]∧w.grownBy w' none∧∀k, aG v=some k→w.heap.size≤k):=by
 have hmk:∀w, (Instr.makeSlice 98 (.int .i64 1) (.int .i64 1)).run Tryz.prog w=.ok (.slice (some ⟨w.heap.size, 0, none⟩) 1 1) (w.alloc (.cells #[.bool false] 4)):=fun _=>by kernel_rfl
 have k1:bits BinOp.and IntKind.u64 1 4294967295=1:=by decide
 have k0:bits BinOp.and IntKind.u64 0 4294967295=0:=by decide
 have hcp:=vq w 1 b o c (by omega) #[.bool false] rfl (.bool true) rfl hb hbl
 go_enter Tryz.func103, Tryz.ntmps103
 go_wp2
 refine wp_loop_rounds 1 ?_
 unfold Code.rounds
 have hal:(w.alloc (Obj.cells #[Value.bool true] 4)).heap[w.heap.size]?=some (Obj.cells #[Value.bool true] 4 (0, 0)):=heap_alloc_new w _
 have hbe:=Below.heap_alloc' w (Obj.cells #[Value.bool true] 4)
 go_wp2
 go_ret
 exact⟨_, rfl, zV hal, w7 hbe, fun k hk=>by simp[aG]at hk;omega⟩
set_option maxRecDepth 100000 in
set_option maxHeartbeats 1600000 in
theorem BE (w:World) (b o c:Nat) (hb:w.cell? ⟨b, o, none⟩=some (.bool true)) (hbl:b<w.heap.size):Calls Tryz.prog 103 #[.slice (some ⟨b, o, none⟩) 1 c, .int .i64 2] w (fun e w'=>∃v, e=.returned v∧w'.ownsRow 0 4 1 v 2 [.bool true, .bool true]∧w.grownBy w' none∧∀k, aG v=some k→w.heap.size≤k):=by
 have hmk:∀w, (Instr.makeSlice 98 (.int .i64 2) (.int .i64 2)).run Tryz.prog w=.ok (.slice (some ⟨w.heap.size, 0, none⟩) 2 2) (w.alloc (.cells #[.bool false, .bool false] 4)):=fun _=>by kernel_rfl
 have k1:bits BinOp.and IntKind.u64 1 4294967295=1:=by decide
 have k2:bits BinOp.and IntKind.u64 2 4294967295=2:=by decide
 have k0:bits BinOp.and IntKind.u64 0 4294967295=0:=by decide
 have hcp:=vq w 2 b o c (by omega) #[.bool false, .bool false] rfl (.bool true) rfl hb hbl
 go_enter Tryz.func103, Tryz.ntmps103
 go_wp2
 refine wp_loop_rounds 2 ?_
 unfold Code.rounds
 go_wp2
 have hal:(w.alloc (Obj.cells #[Value.bool true, Value.bool false] 4)).heap[w.heap.size]?=some (Obj.cells #[Value.bool true, Value.bool false] 4 (0, 0)):=heap_alloc_new w _
 have hce:=G4 (x:=.bool true) (y:=.bool false) (T:=4) w
 have hbe:=Below.heap_alloc' w (Obj.cells #[Value.bool true, Value.bool false] 4)
 generalize w.alloc (Obj.cells #[Value.bool true, Value.bool false] 4)=W at hal hce hbe ⊢
 apply K2 (R:=fun w'=>w'.heap[w.heap.size]?=some (Obj.cells #[Value.bool true, Value.bool true] 4 (0, 0))∧Below w.heap.size w w')
 ·go_region_law (refine step_copy_splice (by kernel_rfl) (.tmp 41) (.tmp 44) 98 98 (by kernel_rfl) 4 (by kernel_rfl) (by kernel_rfl) (some ⟨w.heap.size, 1, none⟩) (some ⟨w.heap.size, 0, none⟩) 1 1 1 2 (by kernel_rfl) (by kernel_rfl) w.heap.size 1 [.bool true, .bool false] 4 hal [.bool true] rfl (fun _=>⟨rfl, _, rfl, fun j v hj=>by cases j with | zero=>simp at hj;subst hj;exact hce | succ j=>simp at hj⟩) (by simp) (by simp[Value.oneCell']) w.heap.size w (by first | exact hbe | exact hbe.drew) (Nat.le_refl _) ?_;intro w4 hg4 hb4)
  refine⟨?_, hg4, hb4⟩
  exact(by kernel_rfl:_=Act.mk #[.slice (some ⟨b, o, none⟩) 1 c, .int .i64 2, undef, undef, .slice none 0 0, .int .u64 0, .int .u64 2, .slice (some ⟨w.heap.size, 0, none⟩) 2 2, .int .i64 2, .int .i64 2, .bool false, undef, .tuple #[.int .u64 0, .int .u64 2], .slice (some ⟨b, o, none⟩) 1 c, .int .i64 1, .int .u64 1, .int .i64 2, .int .u64 2, .tuple #[.int .u64 0, .int .u64 2], .int .u64 0, .int .u64 2, .int .u64 0, .bool false, .bool false, .int .u64 2, .bool false, .bool false, undef, .int .u64 2, .int .i64 2, .slice (some ⟨w.heap.size, 0, none⟩) 2 2, .slice (some ⟨w.heap.size, 0, none⟩) 2 2, .slice (some ⟨b, o, none⟩) 1 c, .int .i64 1, .int .i64 1, .slice (some ⟨w.heap.size, 0, none⟩) 2 2, .int .i64 2, .bool true, .int .i64 1, .slice (some ⟨w.heap.size, 0, none⟩) 2 2, .int .i64 1, .slice (some ⟨w.heap.size, 1, none⟩) 1 1, .slice (some ⟨w.heap.size, 0, none⟩) 2 2, .int .i64 1, .slice (some ⟨w.heap.size, 0, none⟩) 1 2, .int .i64 1, .int .i64 2, undef] [])
 ·rintro w5 ⟨h5, h6⟩
  go_wp2
  unfold Code.rounds
  go_wp2
  go_ret
  exact⟨_, rfl, zV h5, w7 h6, fun k hk=>by simp[aG]at hk;omega⟩
theorem ai.of_bools {P:Program} {f:FuncId} {ds:List D} {E:TypeId} {l:List Bool}
  (h:∀(S:Nat→Prop) (μ:Nat→Value) (w:World) (us:Array Value), aM S μ w ds us→Calls P f us w (fun e w'=>∃v, e=.returned v∧w'.ownsRow 0 E 1 v l.length (l.map Value.bool)∧w.grownBy w' none∧∀k, aG v=some k→w.heap.size≤k)):ai P f ds [] false (dL 1 be false l) []:=by
 intro S μ w us hS hH hus
 refine(h S μ w us hus).mono ?_
 rintro e w' ⟨v, rfl, ho, hg, hb0⟩
 have hv1:v.oneCell'=true:=by rcases ho.2 with ⟨rfl, _⟩ | ⟨g, cap, cur, rfl, _⟩<;>rfl
 have hB:aJ (fun _=>False) μ w' v (.arr E 1 be false l):=by
  refine⟨fun i x hx=>rfl, l.map Value.bool, by simpa using ho, fun i x j y hx hy=>?_⟩
  have hj:j=0:=by
   cases j with
   | zero=>rfl
   | succ j=>simp[be]at hy
  subst hj
  simp only[be, List.getElem?_cons_zero, Option.some.injEq]at hy
  subst hy
  exact⟨.bool x, by rw[Nat.mul_one, Nat.add_zero, List.getElem?_map, hx];rfl, .bool _⟩
 have hlt:∀b, bE v b→b<w'.heap.size:=fun b hb=>hB.lt rfl b hb
 have hr:=eI (S':=fun b=>(S b∨(w.heap.size≤b∧b<w'.heap.size))∧(False∨w.heap.size≤b)) hB (fun b h=>h.elim) (fun b hb=>⟨.inr ⟨hb0 b (hb.bl hv1), hlt b hb⟩, .inr (hb0 b (hb.bl hv1))⟩) (fun b h=>h.elim)
 refine⟨v, μ, fun b=>S b∨(w.heap.size≤b∧b<w'.heap.size), rfl, hg.os, hg.tape, hg.output, hg.size, fun k hk _=>hg.block k hk (by simp), fun _ h=>.inl h, fun b h=>h.imp id (·.1), fun b hb'=>hb'.elim (fun h=>Nat.lt_of_lt_of_le (hS b h) hg.size) (·.2), .v _ _ (hr.stable (fun b h1 _=>⟨h1.1, h1.2.imp (fun h=>h.elim) id⟩) (fun _ _ _=>rfl) (Nat.le_refl _)), ⟨fun id B hB=>by simp at hB, fun i j A B b hA=>by simp at hA, fun i A b hA=>by simp at hA⟩, fun i A b hA=>by simp at hA, fun i A hA=>by simp at hA⟩
abbrev BF (n:Nat):Ct:=⟨103, [(dL 1 be false [true]), (i6 (n:Int))], false, dL 1 be false (List.replicate n true)⟩
theorem sy (n:Nat) (h1:1≤n) (h2:n≤2):CC (BF n):=by
 refine ai.of_bools (E:=4) (fun S μ w us hus=>?_)
 obtain⟨u, x, rfl, hu, hx⟩:=K1 hus
 cases Ms hx
 obtain⟨q, c, rfl, q1, q2, q3, q4⟩:=fe hu
 obtain⟨bb, off, us, rfl, r1, r2, r3, r4, r5⟩:=q4 (by simp)
 have hc:=r4 0 true 0 (.bool true) rfl rfl
 have hv:=r5 0 true 0 (.bool true) rfl rfl
 have hb:us 0 0=.bool true:=by
  generalize us 0 0=z at hv
  cases hv;rfl
 rw[hb]at hc
 have hc2:w.cell? ⟨bb, off, none⟩=some (.bool true):=by simpa using hc
 have:n=1∨n=2:=by omega
 rcases this with rfl | rfl
 ·exact BD w bb off c hc2 r2
 ·exact BE w bb off c hc2 r2
end Go.Proofs.YtckgpflobhpnpaaGreat
