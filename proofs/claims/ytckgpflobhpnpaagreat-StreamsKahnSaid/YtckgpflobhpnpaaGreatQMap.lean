/-
  Maps that a function lays out at once: what the operations do. Generic: over any program.
-/
import Derived.Test.YtckgpflobhpnpaaGreatQVc
import Derived.Test.YtckgpflobhpnpaaGreatProg
import Derived.WalkKit
namespace Go.Proofs.YtckgpflobhpnpaaGreat
open Go.RowKit
abbrev CC (c:Ct):Prop:=ai Tryz.prog c.f c.as [] c.al c.r []
abbrev CK (c:Ct):Prop:=vA [] c.as c.as∧ai Tryz.prog c.f c.as [] c.al c.r []
abbrev GC (c:Ct):Prop:=hC Tryz.prog c.f=true∧ai Tryz.prog c.f c.as [] c.al c.r []
abbrev CO (c:vK):Prop:=ai Tryz.prog c.f c.as [] false c.r [c.B]
set_option linter.unusedVariables false
set_option linter.unusedSimpArgs false
theorem sN {P:Program} {w:World} {t:TypeId}:(Instr.makeMap t none).run P w=.ok (.map (some w.heap.size)) (w.alloc (.map #[] 0)):=by
 simp[Instr.makeMap, newObj, Sem.run]
theorem uT {P:Program} {w:World} {t K E:TypeId} {arr:Array MapEntry} {clock:Nat} {k:Int} {v:Value} (ht:P.underlying t=some (.map K E)) (hK:P.underlying K=some (.int .i64)) (hf:Instr.findNow (.int .i64) (.int .i64 k) arr.toList 0=some none) :
  (Instr.mapUpdate t (.map (some w.heap.size)) (.int .i64 k) v).run P (w.alloc (.map arr clock))=.ok () (w.alloc (.map (arr.push ⟨.int .i64 k, v, clock⟩) (clock+1))):=by
 have hu:∀w, (underlying t).run P w=.ok (.map K E) w:=fun w=>by simp[underlying, ht, Sem.run_bind, Sem.run]
 have hu2:∀w, (underlying K).run P w=.ok (.int .i64) w:=fun w=>by simp[underlying, hK, Sem.run_bind, Sem.run]
 have hb:(w.alloc (.map arr clock)).heap[w.heap.size]?=some (.map arr clock):=heap_alloc_new w _
 have hg:(getObj w.heap.size).run P (w.alloc (.map arr clock))=.ok (.map arr clock) (w.alloc (.map arr clock)):=by
  unfold getObj Sem.run
  rw[hb]
  rfl
 have hc:(Instr.checkKey false 10000 K (.int .i64 k)).run P (w.alloc (.map arr clock))=.ok () (w.alloc (.map arr clock)):=by
  rw[show(10000:Nat)=9999+1 from rfl]
  unfold Instr.checkKey
  simp[Sem.run_bind, hu2]
 have hk:(Instr.findKey K (.int .i64 k) arr.toList).run P (w.alloc (.map arr clock))=.ok none (w.alloc (.map arr clock)):=by
  simp[Instr.findKey, Sem.run_bind, hu2, hf]
 have hs:∀o:Obj, (setObj w.heap.size o).run P (w.alloc (.map arr clock))=.ok () (w.alloc o):=by
  intro o
  unfold setObj Sem.run
  rw[hb]
  have hh:(w.heap.push (.map arr clock)).setIfInBounds w.heap.size o=w.heap.push o:=by
   apply Array.ext
   ·simp
   ·intro i h1 h2
    simp only[Array.size_push]at h2
    by_cases hi:i=w.heap.size
    ·subst hi;simp
    ·rw[Array.getElem_setIfInBounds_ne (by simp;omega) (Ne.symm hi)]
     simp[Array.getElem_push, show i<w.heap.size by omega]
  show Result.ok () (⟨(w.heap.push (.map arr clock)).setIfInBounds w.heap.size o, w.tape, w.drawn, w.os, w.output⟩:World)=.ok () ⟨w.heap.push o, w.tape, w.drawn, w.os, w.output⟩
  rw[hh]
 simp[Instr.mapUpdate, Sem.run_bind, hu, hg, hc, hk, hs]
theorem ai.of_map {P:Program} {f:FuncId} {n:Nat} {es:List (Int×Value)} (h:∀w:World, Calls P f #[] w (fun e w'=>∃arr:Array MapEntry, e=.returned (.map (some w.heap.size))∧w'=w.alloc (.map arr n)∧arr.toList.map (fun e=>(e.key, e.val))=es.map (fun e=>(Value.int .i64 e.1, e.2)))) :
  ai P f [] [] false (.v (.mp es)) []:=by
 intro S μ w us hS hH hus
 have h0:us=#[]:=Array.eq_empty_of_size_eq_zero hus.1
 subst h0
 refine(h w).mono ?_
 rintro e w' ⟨arr, rfl, rfl, he⟩
 have hb:Below w.heap.size w (w.alloc (.map arr n)):=(Below.refl _ w).alloc (Nat.le_refl _) _
 have hsz:(w.alloc (.map arr n)).heap.size=w.heap.size+1:=by simp
 refine⟨_, μ, fun b=>S b∨b=w.heap.size, rfl, hb.os, hb.tape, hb.output, hb.size, fun k hk _=>hb.block k hk, fun _ h=>.inl h, fun b h=>h.imp id (fun h=>by omega), fun b hb'=>hb'.elim (fun h=>by have:=hS b h;omega) (fun h=>by omega), .v _ _ (.mp es w.heap.size n arr ⟨.inr rfl, .inr (Nat.le_refl _)⟩ (by omega) (heap_alloc_new w _) he), ⟨fun id B hB=>by simp at hB, fun i j A B b hA=>by simp at hA, fun i A b hA=>by simp at hA⟩, fun i A b hA=>by simp at hA, fun i A hA=>by simp at hA⟩
end Go.Proofs.YtckgpflobhpnpaaGreat
