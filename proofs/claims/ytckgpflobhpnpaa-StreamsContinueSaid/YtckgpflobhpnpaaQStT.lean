/-
  The laws of streams: plain laws.
-/
import Derived.Test.YtckgpflobhpnpaaQNeU
namespace Go.Proofs.Ytckgpflobhpnpaa
open Go.RowKit
set_option linter.unusedVariables false
set_option linter.unusedSimpArgs false
theorem JB {sh : Int} {b : List Int} : IH (ae sh b) := by
 have key : ∀ e ∈ ah sh, 1 ≤ e.puts.length ∧ e.puts.length ≤ 2 := by
  rcases iO sh with h | h | h | h | h | h <;> rw [h] <;> simp
 intro p hp
 have hp' : p < (ah sh).length := by rw [show (ae sh b).procs.length = (ah sh).length from ap _ _] at hp; exact hp
 have e : be (ae sh b) p = rn b (ah sh) p := aB hp'
 have hl : (rn b (ah sh) p).puts.length = ((ah sh).getD p co).puts.length := by
  show (tab _ _).length = _
  rw [ap]
 rw [e, hl, d9 _ _ hp']
 exact key _ (List.getElem_mem hp')
theorem KU {sh : Int} {b : List Int} : ∀ n, n < (ae sh b).chans.length → -1 ≤ (eO (ae sh b) n).frm := by
 intro n hn
 have hn' : n < j5 sh := by rw [show (ae sh b).chans.length = j5 sh from ap _ _] at hn; exact hn
 rw [show eO (ae sh b) n = vd sh (ah sh) n from aB hn']
 exact (Bk _ _ _).1
theorem Hf {sh : Int} {b bb : List Int} (h0 : 0 ≤ sh) (h1 : sh ≤ 255) (hb : lL b) (hbb : lL bb) : fT (ae sh b) (ax (ae sh b) bb) := LV (He h0 h1 hb) hbb KU
section
variable {c : Ci} {inp inp2 : List (List Int)} {n n2 : Nat} {cls cl2 : List ByteArray}
theorem yA (h : fT c inp) (hc : a6 c) : inp.length ≤ 100000 ∧ ∀ z ∈ inp, z.length ≤ 100000 := by
 refine ⟨by rw [h.l]; have := hc.cl; omega, fun z hz => ?_⟩
 obtain ⟨i, hi, rfl⟩ := List.getElem_of_mem hz
 have := h.sm i
 rw [d9 _ _ hi] at this
 omega
theorem BA (h : fT c inp) (hn : n ≤ 100) : bK c inp (n : Int) = ⟨bS c (cu c inp n), dc c (cu c inp n), 0⟩ := by
 unfold bK
 rw [j7 (dn.2 h) (by omega), Int.toNat_natCast]
theorem BB (h : fT c inp) (hn : cls.length ≤ 100) : bO c inp cls = ⟨bS c (qZ c inp cls), dc c (qZ c inp cls), 0⟩ := by
 unfold bO
 rw [j8 (dn.2 h) hn]
theorem BC {u v : Uf} (h : ∀ k, u.l k <+: v.l k) : dm (bS c u) (bS c v) = true := by
 refine C6.2 ⟨by rw [ap, ap], fun i hi => ?_⟩
 rw [ap] at hi
 rw [aB hi, aB hi]; exact h i
theorem KV {v : Uf} (hin : fT c inp) (h : ∀ k, inp.getD k [] <+: v.l k) : dm inp (bS c v) = true := by
 refine C6.2 ⟨by rw [ap, hin.l], fun i hi => ?_⟩
 rw [hin.l] at hi
 rw [aB hi]; exact h i
theorem BD {u v : Uf} (h : ∀ q, u.cnt q ≤ v.cnt q) : mV (dc c u) (dc c v) = true := by
 refine tN (by rw [ap, ap]) (fun i hi => decide_eq_true ?_)
 rw [ap] at hi
 rw [aB hi, aB hi]
 have := h i
 omega
theorem I2 (hc : a6 c) (h : fT c inp) : hU c (u0 c inp) (ft c (C4 c inp) (cls.map (bc c))) ∧ ∀ q, (ft c (C4 c inp) (cls.map (bc c))).count q ≤ cls.length := by
 obtain ⟨a, _, _, e⟩ := Bi hc (l := cls.map (bc c)) (Gv hc h) (Ju c (inp := inp))
 refine ⟨a, fun q => ?_⟩
 have := e q
 rwa [List.length_map] at this
theorem I3 (q : Nat) : (qZ c inp cls).cnt q = (ft c (C4 c inp) (cls.map (bc c))).count q := by
 unfold qZ; rw [dY]; show 0 + _ = _; omega
theorem mX (hc : a6 c) (h : fT c inp) (hl : cls.length ≤ 100) : (bO c inp cls).e = 0 ∧ (bK c inp (cls.length : Int)).e = 0 ∧ dm inp (bO c inp cls).l = true ∧ dm (bO c inp cls).l (bK c inp (cls.length : Int)).l = true ∧ mV (bO c inp cls).c (bK c inp (cls.length : Int)).c = true := by
 obtain ⟨a, e⟩ := I2 (cls := cls) hc h
 obtain ⟨b1, b2⟩ := wQ hc a e
 rw [BB h hl, BA h hl]
 exact ⟨rfl, rfl, KV h (fun k => show (u0 c inp).l k <+: (bP c (u0 c inp) _).l k from qS (c := c) k), BC b1, BD (fun q => by rw [I3]; exact b2 q)⟩
def d8 (c : Ci) (a b : List Int) (i : Nat) : List Int := (ax c a).getD i [] ++ (ax c b).getD i []
def bothF (c : Ci) (a b : List Int) : List (List Int) := tab (d8 c a b) c.chans.length
theorem I4 {a b : List Int} (ha : fT c (ax c a)) (hb : fT c (ax c b)) (h7 : ∀ i, ((ax c a).getD i []).length ≤ 7) (h8 : ∀ i, ((ax c b).getD i []).length ≤ 7) : fT c (bothF c a b) where
 l := ap _ _
 ex := fun n hn hf => by
  show (tab _ _).getD n [] = []
  rw [aB hn]
  show (ax c a).getD n [] ++ (ax c b).getD n [] = []
  rw [ha.ex n hn hf, hb.ex n hn hf]; rfl
 fv := fun n hn i hi => by
  have e : (bothF c a b).getD n [] = (ax c a).getD n [] ++ (ax c b).getD n [] := aB hn
  rw [e] at hi ⊢
  rw [jV]
  split
  ·rename_i h; exact ha.fv n hn i h
  ·rename_i h; rw [List.length_append] at hi; exact hb.fv n hn _ (by omega)
 sm := fun n => by
  by_cases hn : n < c.chans.length
  ·rw [show (bothF c a b).getD n [] = (ax c a).getD n [] ++ (ax c b).getD n [] from aB hn, List.length_append]
   have := h7 n; have := h8 n; omega
  ·rw [show (bothF c a b).getD n [] = [] from kJ (by omega)]; simp
theorem JC (hc : a6 c) {b : List Int} (hb : lL b) (i : Nat) : ((ax c b).getD i []).length ≤ 7 := by
 by_cases hn : i < c.chans.length
 ·rw [show (ax c b).getD i [] = qW c b i from aB hn]
  unfold qW; rw [ap]; exact Gy c hb _ _
 ·rw [show (ax c b).getD i [] = [] from kJ (by omega)]; simp
theorem I5 {a b : List Int} (ha : fT c (ax c a)) (hb : fT c (ax c b)) : u0 c (bothF c a b) = ve c (fun i => (ax c b).getD i []) (u0 c (ax c a)) := by
 refine Bg (fun q => rfl) (fun n => ?_) (fun n => rfl) (fun q => rfl)
 show (bothF c a b).getD n [] = if (eO c n).frm = -1 then (ax c a).getD n [] ++ (ax c b).getD n [] else (ax c a).getD n []
 by_cases hn : n < c.chans.length
 ·rw [show (bothF c a b).getD n [] = (ax c a).getD n [] ++ (ax c b).getD n [] from aB hn]
  split
  ·rfl
  ·rename_i hf; rw [hb.ex n hn hf, List.append_nil]
 ·rw [show (bothF c a b).getD n [] = [] from kJ (by omega), show (ax c a).getD n [] = [] from kJ (by omega), show (ax c b).getD n [] = [] from kJ (by omega)]
  split <;> rfl
theorem Hg (hc : a6 c) {a b : List Int} (ha : fT c (ax c a)) (hb : fT c (ax c b)) (hab : fT c (bothF c a b)) {n m : Nat} (hn : n ≤ 100) (hm : n + m ≤ 100) : (bK c (ax c a) (n : Int)).e = 0 ∧ (bK c (bothF c a b) ((n + m : Nat) : Int)).e = 0 ∧ dm (bK c (ax c a) (n : Int)).l (bK c (bothF c a b) ((n + m : Nat) : Int)).l = true ∧ mV (bK c (ax c a) (n : Int)).c (bK c (bothF c a b) ((n + m : Nat) : Int)).c = true := by
 obtain ⟨b1, b2⟩ := Gx hc (I5 ha hb) (show n ≤ n + m by omega)
 rw [BA ha hn, BA hab hm]
 exact ⟨rfl, rfl, BC b1, BD b2⟩
theorem Hh (hc : a6 c) (h : fT c inp) (hl : (cls ++ cl2).length ≤ 100) : (bO c inp cls).e = 0 ∧ (bO c inp (cls ++ cl2)).e = 0 ∧ dm (bO c inp cls).l (bO c inp (cls ++ cl2)).l = true ∧ mV (bO c inp cls).c (bO c inp (cls ++ cl2)).c = true := by
 have e : qZ c inp (cls ++ cl2) = bP c (qZ c inp cls) (ft c (u5 c (C4 c inp) (cls.map (bc c))) (cl2.map (bc c))) := by
  unfold qZ; rw [List.map_append, xZ, iM]
 rw [BB h (by rw [List.length_append] at hl; omega), BB h hl, e]
 exact ⟨rfl, rfl, BC (fun k => qS (c := c) k), BD (fun q => by rw [dY]; omega)⟩
end
end Go.Proofs.Ytckgpflobhpnpaa
