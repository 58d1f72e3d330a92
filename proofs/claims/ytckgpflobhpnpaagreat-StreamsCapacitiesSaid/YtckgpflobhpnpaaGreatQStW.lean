/-
  The laws of streams: greater capacities.
-/
import Derived.Test.YtckgpflobhpnpaaGreatQStS
import Derived.Test.YtckgpflobhpnpaaGreatQNeU
namespace Go.Proofs.YtckgpflobhpnpaaGreat
open Go.RowKit
set_option linter.unusedVariables false
set_option linter.unusedSimpArgs false
theorem Jz {sh : Int} {b : List Int} : Ju (aM sh b) := by
 have key : ∀ e ∈ af sh, 1 ≤ e.puts.length ∧ e.puts.length ≤ 2 := by
  rcases iR sh with h | h | h | h | h | h <;> rw [h] <;> simp
 intro p hp
 have hp' : p < (af sh).length := by rw [show (aM sh b).procs.length = (af sh).length from ap _ _] at hp; exact hp
 have e : a8 (aM sh b) p = rk b (af sh) p := az hp'
 have hl : (rk b (af sh) p).puts.length = ((af sh).getD p cm).puts.length := by
  show (tab _ _).length = _
  rw [ap]
 rw [e, hl, d6 _ _ hp']
 exact key _ (List.getElem_mem hp')
theorem K7 {sh : Int} {b : List Int} : ∀ n, n < (aM sh b).chans.length → -1 ≤ (cr (aM sh b) n).frm := by
 intro n hn
 have hn' : n < jb sh := by rw [show (aM sh b).chans.length = jb sh from ap _ _] at hn; exact hn
 rw [show cr (aM sh b) n = s5 sh (af sh) n from az hn']
 exact (Bd _ _ _).1
theorem MH {sh : Int} {b bb : List Int} (h0 : 0 ≤ sh) (h1 : sh ≤ 255) (hb : lK b) (hbb : lK bb) : lJ (aM sh b) (ct (aM sh b) bb) := Me (Jy h0 h1 hb) hbb K7
section
variable {c : Ci} {inp inp2 : List (List Int)} {n n2 : Nat} {cls cl2 : List ByteArray}
theorem K8 (h : lJ c inp) (hc : aZ c) : inp.length ≤ 100000 ∧ ∀ z ∈ inp, z.length ≤ 100000 := by
 refine ⟨by rw [h.l]; have := hc.cl; omega, fun z hz => ?_⟩
 obtain ⟨i, hi, rfl⟩ := List.getElem_of_mem hz
 have := h.sm i
 rw [d6 _ _ hi] at this
 omega
theorem Hf (h : lJ c inp) (hn : cls.length ≤ 100) : cO c inp cls = ⟨bR c (pQ c inp cls), da c (pQ c inp cls), 0⟩ := by
 unfold cO
 rw [j8 (dH.2 h) hn]
theorem K9 {u v : Uf} (h : ∀ k, u.l k <+: v.l k) : er (bR c u) (bR c v) = true := by
 refine IA.2 ⟨by rw [ap, ap], fun i hi => ?_⟩
 rw [ap] at hi
 rw [az hi, az hi]; exact h i
theorem La {u v : Uf} (h : ∀ q, u.cnt q ≤ v.cnt q) : si (da c u) (da c v) = true := by
 refine tN (by rw [ap, ap]) (fun i hi => decide_eq_true ?_)
 rw [ap] at hi
 rw [az hi, az hi]
 have := h i
 omega
end
def Lb (c : Ci) (b : List Int) (i : Nat) : Ch := if 0 < (cr c i).cap then ⟨(cr c i).name, (cr c i).w, min 8 ((cr c i).cap + b.getD i 0 % 8), (cr c i).frm, (cr c i).dst⟩ else cr c i
def bE (c : Ci) (b : List Int) : Ci := ⟨c.procs, ci (Lb c b) c.chans (min c.chans.length b.length)⟩
section
variable {c : Ci} {b : List Int} {n : Nat}
theorem eG : (bE c b).chans.length = c.chans.length := cY (by omega)
theorem Di (hn : n < c.chans.length) : cr (bE c b) n = if n < min c.chans.length b.length then Lb c b n else cr c n := by
 show (ci _ _ _).getD n bk = _
 rw [iK]
theorem gl (n : Nat) : (cr (bE c b) n).w = (cr c n).w ∧ (cr (bE c b) n).frm = (cr c n).frm ∧ (cr (bE c b) n).dst = (cr c n).dst := by
 by_cases hn : n < c.chans.length
 ·rw [Di hn]
  split
  ·unfold Lb; split <;> exact ⟨rfl, rfl, rfl⟩
  ·exact ⟨rfl, rfl, rfl⟩
 ·have h1 : cr (bE c b) n = bk := by
   show (ci _ _ _).getD n bk = _
   rw [List.getD_eq_getElem?_getD, List.getElem?_eq_none (by rw [cY (by omega)]; omega)]; rfl
  have h2 : cr c n = bk := by
   show c.chans.getD n bk = _
   rw [List.getD_eq_getElem?_getD, List.getElem?_eq_none (by omega)]; rfl
  rw [h1, h2]; exact ⟨rfl, rfl, rfl⟩
theorem zV (hb : lK b) (h8 : ∀ n, n < c.chans.length → (cr c n).cap ≤ 8) (hn : n < c.chans.length) : (cr c n).cap ≤ (cr (bE c b) n).cap := by
 rw [Di hn]
 have := di hb n
 have := h8 n hn
 split
 ·unfold Lb; split
  ·show _ ≤ min 8 ((cr c n).cap + b.getD n 0 % 8)
   omega
  ·exact Int.le_refl _
 ·exact Int.le_refl _
theorem Dj (hc : aZ c) (hb : lK b) (h8 : ∀ n, n < c.chans.length → (cr c n).cap ≤ 8) : aZ (bE c b) where
 n1 := hc.n1
 nl := hc.nl
 cl := by rw [eG]; exact hc.cl
 pr := hc.pr
 tk := fun i hi j hj => by
  obtain ⟨a1, a2, a3, a4⟩ := hc.tk i hi j hj
  obtain ⟨w1, w2, w3⟩ := gl (c := c) (b := b) (jG (a8 c i) j)
  exact ⟨a1, by rw [eG]; exact a2, w1.trans a3, w3.trans a4⟩
 pt := fun i hi j hj => by
  obtain ⟨a1, a2, a3, a4⟩ := hc.pt i hi j hj
  obtain ⟨w1, w2, w3⟩ := gl (c := c) (b := b) (tz (a8 c i) j)
  exact ⟨a1, by rw [eG]; exact a2, w1.trans a3, w2.trans a4⟩
 td := hc.td
 pd := hc.pd
 cw := fun n hn => by rw [eG] at hn; rw [(gl n).1]; exact hc.cw n hn
 cp := fun n hn => by rw [eG] at hn; exact Int.le_trans (hc.cp n hn) (zV hb h8 hn)
theorem Hg (hb : lK b) (h8 : ∀ n, n < c.chans.length → (cr c n).cap ≤ 8) : Jq c (bE c b) := ⟨rfl, eG, fun n hn => ⟨(gl n).2.2, (gl n).2.1, zV hb h8 hn⟩⟩
theorem I1 {inp : List (List Int)} (h : lJ c inp) : lJ (bE c b) inp := ⟨by rw [eG]; exact h.l, fun n hn hf => h.ex n (by rw [eG] at hn; exact hn) (by rw [(gl n).2.1] at hf; exact hf), fun n hn i hi => by rw [(gl n).1]; exact h.fv n (by rw [eG] at hn; exact hn) i hi, h.sm⟩
theorem sn {sh : Int} {b : List Int} (n : Nat) (hn : n < (aM sh b).chans.length) : (cr (aM sh b) n).cap ≤ 8 := by
 have hn' : n < jb sh := by rw [show (aM sh b).chans.length = jb sh from ap _ _] at hn; exact hn
 rw [show cr (aM sh b) n = s5 sh (af sh) n from az hn']
 unfold s5
 show (if _ then _ else _ : Int) ≤ 8
 split
 ·show 1 + (sh / 6 + (n : Int)) % 3 ≤ 8
  omega
 ·decide
theorem rj {inp : List (List Int)} {cls : List ByteArray} (hc : aZ c) (h : lJ c inp) (hl : cls.length ≤ 100) (hb : lK b) (h8 : ∀ n, n < c.chans.length → (cr c n).cap ≤ 8) : (cO c inp cls).e = 0 ∧ (cO (bE c b) inp cls).e = 0 ∧ er (cO c inp cls).l (cO (bE c b) inp cls).l = true ∧ si (cO c inp cls).c (cO (bE c b) inp cls).c = true := by
 have hd := Dj hc hb h8
 have hw := Hg hb h8
 have h2 := I1 (b := b) h
 rw [Hf h hl, Hf h2 hl]
 have e0 : u0 (bE c b) inp = u0 c inp := rfl
 obtain ⟨a1, a2, a3⟩ := Iz hc hd hw cls (fun cl q => rfl) (l := []) (m := []) (s := Eg c inp) (t := Eg (bE c b) inp) (x := u0 c inp) (CU hc h) (CU hd h2) (Gx c) (Gx (bE c b)) trivial trivial (fun p => Nat.le_refl _)
 simp only [List.nil_append] at a1 a2 a3
 obtain ⟨r, r1, r2, _⟩ := Md hc a1 a2 a3
 have eU : pQ (bE c b) inp cls = bc c (u0 c inp) (eF (bE c b) (Eg (bE c b) inp) (cls.map (a6 (bE c b)))) := by
  unfold pQ; rw [nI hw, e0]
 have hpre : ∀ k, (pQ c inp cls).l k <+: (pQ (bE c b) inp cls).l k := fun k => by
  rw [eU, ← r2]; exact u2 (c := c) k
 have hcnt : ∀ q, (pQ c inp cls).cnt q ≤ (pQ (bE c b) inp cls).cnt q := fun q => by
  rw [eU, ← r2]
  rw [ft]
  exact Nat.le_add_right _ _
 refine ⟨rfl, rfl, ?_, ?_⟩
 ·show er (tab _ _) (tab _ _) = true
  rw [eG]; exact K9 hpre
 ·exact La (c := c) hcnt
end
end Go.Proofs.YtckgpflobhpnpaaGreat
