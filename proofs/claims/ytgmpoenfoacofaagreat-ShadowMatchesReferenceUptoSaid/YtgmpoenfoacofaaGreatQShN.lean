/-
  The laws of shadows, plain data: sizes of what feeding leaves.
-/
import Derived.Test.YtgmpoenfoacofaaGreatQShE
namespace Go.Proofs.YtgmpoenfoacofaaGreat
open Go.RowKit
set_option linter.unusedVariables false
set_option linter.unusedSimpArgs false
def Hj (c : Ci) : Nat → List Nat
 | 0 => []
 | n + 1 => Hj c n ++ (if (gG c n).dst = -1 then [n] else [])
def AC (c : Ci) : List Nat := Hj c c.chans.length
theorem xL (c : Ci) (s : Ns) : ∀ n, pk c s n = (Hj c n).map (fun m => (⟨(gG c m).name, kr s m⟩ : Sm))
 | 0 => rfl
 | n + 1 => by
  rw [pk, Hj, List.map_append, xL c s n]
  unfold JN
  split <;> rfl
theorem FS (c : Ci) (s : Ns) : (br c s).length = (AC c).length := by unfold br AC; rw [xL, List.length_map]
theorem Hk {c : Ci} {s : Ns} {i : Nat} (hi : i < (AC c).length) : (br c s).getD i aG = ⟨(gG c ((AC c).getD i 0)).name, kr s ((AC c).getD i 0)⟩ := by
 unfold br
 rw [xL]
 unfold AC at hi ⊢
 simp [List.getD, List.getElem?_map, List.getElem?_eq_getElem hi]
theorem nJ {c : Ci} {s : Ns} (hm : gw s 4294967296) (i : Nat) : ((br c s).getD i aG).words.length ≤ 9223372036854775807 := by
 by_cases hi : i < (AC c).length
 ·rw [Hk hi]; exact Nat.le_trans (hm _) (by decide)
 ·rw [List.getD, List.getElem?_eq_none (by rw [FS]; omega)]; simp
theorem ik {c : Ci} {s : Ns} (hc : bC c) : (br c s).length ≤ 9223372036854775807 := by
 have := GH (c := c) (s := s)
 have := hc.cl
 omega
def cI (l : List Sm) : Nat → Nat
 | 0 => l.length
 | i + 1 => cI l i + ((l.getD i aG).name.size + (l.getD i aG).words.length)
theorem sG {l : List Sm} (h1 : l.length ≤ 1048576) (h2 : ∀ i, (l.getD i aG).name.size ≤ 1048576 ∧ (l.getD i aG).words.length ≤ 1048576) : ∀ i, cI l i ≤ 1048576 + i * 2097152
 | 0 => by show l.length ≤ _; omega
 | i + 1 => by
  have := sG h1 h2 i
  have := h2 i
  rw [cI]; omega
theorem xM (v : Vd) : (v.name.toList == v.name.toList && (v.pos == v.pos && v.is == v.is)) = true := by
 rw [beq_self_eq_true, beq_self_eq_true, beq_self_eq_true]; rfl
set_option maxRecDepth 100000
abbrev c8 (l : List Sm) : Ct := ⟨8,[(dL 2 dZ aG l)],false,(i6 ((cI l l.length : Nat) : Int))⟩
abbrev mm (l : List Sm) : Lp (Nat) := f6 [0,3,4] 0 (fun (i : Nat) => ⟨[(0,(dL 2 dZ aG l)),(3,(i6 (((cI l i) : Nat) : Int))),(4,(i6 (i : Int)))],[]⟩) (fun (i : Nat) => i ≤ l.length) (fun (i : Nat) => l.length - i)
theorem mq (l : List Sm) (h1 : l.length ≤ 1048576) (h2 : ∀ i,(l.getD i aG).name.size ≤ 1048576∧(l.getD i aG).words.length ≤ 1048576) : CC (c8 l) := by
 refine af.vc (V := TT 5 (GO (mm l) 0 (∀ i,(mm l).inv i → TT 4 (CD ((i : Int) < (l.length : Int)) (TT 3 (IX (i : Int) l.length∧TT 5 (IX (i : Int) l.length∧TT 3 ((True∧(IntKind.wrap .i64 (((((l.getD i aG).name).size : Nat) : Int) + ((((l.getD i aG).words).length : Nat) : Int))) = ((((l.getD i aG).name.size + (l.getD i aG).words.length) : Nat) : Int))∧(True∧(IntKind.wrap .i64 ((((cI l i) : Nat) : Int) + ((((l.getD i aG).name.size + (l.getD i aG).words.length) : Nat) : Int))) = (((cI l (i + 1)) : Nat) : Int))∧TT 2 (W6 ((i + 1 : Nat) : Int)∧TT 1 (AG (mm l) i (i + 1))))))) (TT 3 ((((cI l i) : Nat) : Int) = ((cI l l.length : Nat) : Int)∧True)))))) (.l (mm l) 0 (fun i => .b 10 (.w 5 [(13,.val (i6 ((((l.getD i aG).name.size + (l.getD i aG).words.length) : Nat) : Int))),(14,.val (i6 (((cI l (i + 1)) : Nat) : Int)))] <| .w 4 [(1,.val (i6 ((i + 1 : Nat) : Int)))] <| .e) (.e))) Tryz.func8 rfl rfl rfl (by kernel_rfl) ?_
 refine tt ⟨rfl,(by omega),?_⟩
 intro i hinv
 have hi := hinv
 refine tt (cd (fun hc10 => ?_) (fun hc10 => ?_))
 · have hci := sG h1 h2 i
   have h2i := h2 i
   refine tt ⟨ix,tt ⟨ix,tt ⟨⟨oK,(AZ rfl (by omega) (by omega))⟩,⟨⟨oK,(by show IntKind.i64.wrap ((cI l i : Int) + (((l.getD i aG).name.size + (l.getD i aG).words.length : Nat) : Int)) = ((cI l i + ((l.getD i aG).name.size + (l.getD i aG).words.length) : Nat) : Int); rw [AZ rfl (by omega) (by omega)]; omega)⟩,tt ⟨w6,tt ⟨(i + 1),rfl,(?_ : (i + 1) ≤ l.length),(?_ : l.length - (i + 1) < l.length - i)⟩⟩⟩⟩⟩⟩
   · omega
   · omega
 · refine tt ⟨?_,oK⟩
   rw [show i = l.length by omega]
section
variable {c : Ci} {s : Ns}
theorem Hl (hz : BP s) {n : Nat} {l : List Int} (hl : l.length ≤ 1000000) : BP (ec s n l) := by
 obtain ⟨h1, h2, h3, h4, h5, h6⟩ := hz
 refine ⟨h1, by show (s.chans.set n l).length ≤ _; simpa using h2, fun m => ?_, h4, h5, h6⟩
 show ((s.chans.set n l).getD m []).length ≤ _
 by_cases hn : n < s.chans.length
 ·rw [cb hn]; split
  ·omega
  ·exact h3 m
 ·rw [List.set_eq_of_length_le (by omega)]; exact h3 m
theorem Cf (hz : BP s) (hm : gw s 100) {n : Int} {ws : List Int} (hw : ws.length ≤ 1000) : BP (aA c s n ws).1 := by
 by_cases h : fP (·.frm) c n = true
 ·by_cases h2 : fN ws (gG c n.toNat).w = true
  ·rw [gJ h h2]
   refine Hl hz ?_
   have : (kr s n.toNat).length ≤ 100 := hm n.toNat
   rw [List.length_append]; omega
  ·rw [e9 h2]; exact qH
 ·rw [kZ h]; exact qH
theorem FT (hc : bC c) : ∀ {l : List ByteArray} {s : Ns} {k : Nat}, b8 c s → gw s k → b8 c (bu c s l) ∧ gw (bu c s l) (k + l.length)
 | [], _, _, hs, hm => ⟨hs, hm⟩
 | a :: r, s, k, hs, hm => by
  have := FT hc (l := r) (tJ hc hs (bt c a)) (tL hc hm)
  exact ⟨this.1, fun m => Nat.le_trans (this.2 m) (by simp only [List.length_cons]; omega)⟩
theorem Kn (hc : bC c) (hs : b8 c s) (hm : gw s 100) {l : List ByteArray} (hl : l.length ≤ 1000000) : BP (bu c s l) := by
 have := FT hc (l := l) hs hm
 exact Am hc this.1 (fun m => Nat.le_trans (this.2 m) (by omega))
end
theorem we {c d : Ci} {s t : Ns} {nm : ByteArray} {ws : List Int} (hz : BP s) (hm : gw s 100) (hw : ws.length ≤ 1000) : BP (ai c d s t nm ws).1 := by
 unfold ai
 split
 ·exact qH
 ·split
  ·exact Cf hz hm hw
  ·exact qH
theorem wg {c d : Ci} {s t : Ns} {nm : ByteArray} {ws : List Int} (hz : BP t) (hm : gw t 100) (hw : ws.length ≤ 1000) : BP (ai c d s t nm ws).2.1 := by
 unfold ai
 split
 ·exact qH
 ·split
  ·exact Cf hz hm hw
  ·exact qH
end Go.Proofs.YtgmpoenfoacofaaGreat
