/-
  Slices of numbers that read as lists, and small laws on them. Generic: over any program.
-/
import Derived.Test.YtnlmlkbaflmgcaaQMjO
import Derived.WalkSpells
import Derived.Lib.Hide
import Derived.WalkLawsBesides
namespace Go.Proofs.Ytnlmlkbaflmgcaa
open Go.RowKit
set_option linter.unusedVariables false
set_option linter.unusedSimpArgs false
set_option maxRecDepth 100000
abbrev c3 (sx : Int) (b1 : List Int) (sy : Int) (b2 : List Int) (oth : Bool) (ed fe pl me : List Int) : Ct := ⟨3,[(.agg [(dI .u8 sx),(LY b1),(dI .u8 sy),(LY b2),(dB oth),(LY ed),(LY fe),(LY pl),(LY me)])],false,(dB true)⟩
theorem yZ (sx : Int) (b1 : List Int) (sy : Int) (b2 : List Int) (oth : Bool) (ed fe pl me : List Int) (g0 : 0 ≤ sx) (g1 : sx ≤ 255) (hb1 : f8 b1) (k0 : 0 ≤ sy) (k1 : sy ≤ 255) (hb2 : f8 b2) (hed : f8 ed) (hfe : f8 fe) (hpl : f8 pl) (hme : f8 me) : CC (c3 sx b1 sy b2 oth ed fe pl me) := by
 have hp : vY (be sx b1 me) (bw sx b1 sy b2 oth ed fe me) (dk sx b1 fe pl me) := Gy g0 g1 hb1 k0 k1 hb2 hfe
 have hrc := hp.rc
 have hol := hp.co.cl
 have hnl := hp.cn.cl
 have hop := hp.co.nl
 have hnp := hp.cn.nl
 have hsc := hp.so.cl
 have hsm := hp.sm
 have hm6 : sQ (dk sx b1 fe pl me) 1000000 := fun n => Nat.le_trans (hsm n) (by decide)
 refine ap.vc (V := TT 2 (CC c8∧TT 4 (CC (c9 sx b1 sy b2 oth ed fe pl me)∧TT 8 (CC (xH (be sx b1 me) (bw sx b1 sy b2 oth ed fe me) (dk sx b1 fe pl me))∧TT 6 (CC (K6 (be sx b1 me) (bw sx b1 sy b2 oth ed fe me) (dk sx b1 fe pl me))∧CC (Cd ((aq (be sx b1 me) (bw sx b1 sy b2 oth ed fe me) (dk sx b1 fe pl me)).1) ((bR (be sx b1 me) (bw sx b1 sy b2 oth ed fe me) (dk sx b1 fe pl me)).1) ((aq (be sx b1 me) (bw sx b1 sy b2 oth ed fe me) (dk sx b1 fe pl me)).2) ((bR (be sx b1 me) (bw sx b1 sy b2 oth ed fe me) (dk sx b1 fe pl me)).2))∧(True∧(eM ((aq (be sx b1 me) (bw sx b1 sy b2 oth ed fe me) (dk sx b1 fe pl me)).1) ((bR (be sx b1 me) (bw sx b1 sy b2 oth ed fe me) (dk sx b1 fe pl me)).1) ((aq (be sx b1 me) (bw sx b1 sy b2 oth ed fe me) (dk sx b1 fe pl me)).2) ((bR (be sx b1 me) (bw sx b1 sy b2 oth ed fe me) (dk sx b1 fe pl me)).2)) = true)∧TT 4 (CC (E5 (be sx b1 me) (bw sx b1 sy b2 oth ed fe me))∧TT 4 (CC (HZ (be sx b1 me) (bw sx b1 sy b2 oth ed fe me))∧CC (Kq (a4 (be sx b1 me) (bw sx b1 sy b2 oth ed fe me) (be sx b1 me).chans.length) (eY (be sx b1 me) (bw sx b1 sy b2 oth ed fe me) (be sx b1 me).chans.length))∧TT 1 ((True∧(decide ((a4 (be sx b1 me) (bw sx b1 sy b2 oth ed fe me) (be sx b1 me).chans.length) = (eY (be sx b1 me) (bw sx b1 sy b2 oth ed fe me) (be sx b1 me).chans.length))) = true)∧TT 4 (CC (FV (be sx b1 me) (bw sx b1 sy b2 oth ed fe me))∧TT 4 (CC (JM (be sx b1 me) (bw sx b1 sy b2 oth ed fe me))∧TT 2 ((True∧(decide ((b8 (be sx b1 me) (bw sx b1 sy b2 oth ed fe me)) = (kk (be sx b1 me) (bw sx b1 sy b2 oth ed fe me)))) = true)∧TT 4 (CC (FV (bw sx b1 sy b2 oth ed fe me) (be sx b1 me))∧TT 4 (CC (JM (bw sx b1 sy b2 oth ed fe me) (be sx b1 me))∧TT 2 ((True∧(decide ((b8 (bw sx b1 sy b2 oth ed fe me) (be sx b1 me)) = (kk (bw sx b1 sy b2 oth ed fe me) (be sx b1 me)))) = true)∧TT 4 (true = true∧True))))))))))))))) (.w 1 [(0,c8.O)] <| .w 4 [(1,(c9 sx b1 sy b2 oth ed fe pl me).O)] <| .w 5 [(6,(xH (be sx b1 me) (bw sx b1 sy b2 oth ed fe me) (dk sx b1 fe pl me)).O),(13,(K6 (be sx b1 me) (bw sx b1 sy b2 oth ed fe me) (dk sx b1 fe pl me)).O),(14,(Cd ((aq (be sx b1 me) (bw sx b1 sy b2 oth ed fe me) (dk sx b1 fe pl me)).1) ((bR (be sx b1 me) (bw sx b1 sy b2 oth ed fe me) (dk sx b1 fe pl me)).1) ((aq (be sx b1 me) (bw sx b1 sy b2 oth ed fe me) (dk sx b1 fe pl me)).2) ((bR (be sx b1 me) (bw sx b1 sy b2 oth ed fe me) (dk sx b1 fe pl me)).2)).O),(15,.val (dB true)),(20,(E5 (be sx b1 me) (bw sx b1 sy b2 oth ed fe me)).O),(25,(HZ (be sx b1 me) (bw sx b1 sy b2 oth ed fe me)).O),(26,(Kq (a4 (be sx b1 me) (bw sx b1 sy b2 oth ed fe me) (be sx b1 me).chans.length) (eY (be sx b1 me) (bw sx b1 sy b2 oth ed fe me) (be sx b1 me).chans.length)).O),(28,.val (dB true)),(33,(FV (be sx b1 me) (bw sx b1 sy b2 oth ed fe me)).O),(38,(JM (be sx b1 me) (bw sx b1 sy b2 oth ed fe me)).O),(41,.val (dB true)),(46,(FV (bw sx b1 sy b2 oth ed fe me) (be sx b1 me)).O),(51,(JM (bw sx b1 sy b2 oth ed fe me) (be sx b1 me)).O),(54,.val (dB true))] <| .e) Try.func3 rfl rfl rfl (by kernel_rfl) ?_
 exact tt ⟨(xI),tt ⟨(IU sx b1 sy b2 oth ed fe pl me g0 g1 hb1 k0 k1 hb2 hed hfe hpl hme),tt ⟨(jJ (be sx b1 me) (bw sx b1 sy b2 oth ed fe me) (dk sx b1 fe pl me) hrc.1),tt ⟨(Ec (be sx b1 me) (bw sx b1 sy b2 oth ed fe me) (dk sx b1 fe pl me) hrc),⟨(qW ((aq (be sx b1 me) (bw sx b1 sy b2 oth ed fe me) (dk sx b1 fe pl me)).1) ((bR (be sx b1 me) (bw sx b1 sy b2 oth ed fe me) (dk sx b1 fe pl me)).1) ((aq (be sx b1 me) (bw sx b1 sy b2 oth ed fe me) (dk sx b1 fe pl me)).2) ((bR (be sx b1 me) (bw sx b1 sy b2 oth ed fe me) (dk sx b1 fe pl me)).2) (IH hp.cn hm6)),⟨(bT (by rw [F6 hp.no hp.nn hp.rn]; exact v1 _ _)),tt ⟨(lL (be sx b1 me) (bw sx b1 sy b2 oth ed fe me) (Nat.le_trans hol (by decide)) (Nat.le_trans hnl (by decide))),tt ⟨(nw (be sx b1 me) (bw sx b1 sy b2 oth ed fe me) (Nat.le_trans hol (by decide)) (Nat.le_trans hnl (by decide))),⟨(EZ (a4 (be sx b1 me) (bw sx b1 sy b2 oth ed fe me) (be sx b1 me).chans.length) (eY (be sx b1 me) (bw sx b1 sy b2 oth ed fe me) (be sx b1 me).chans.length) (Nat.le_trans (kW _ _ _) (Nat.le_trans hol (by decide)))),tt ⟨(vT (km hp.nn.cn _ _)),tt ⟨(qI (be sx b1 me) (bw sx b1 sy b2 oth ed fe me) (Nat.le_trans hol (by decide)) (Nat.le_trans hnl (by decide)) (Nat.le_trans hop (by decide)) (Nat.le_trans hnp (by decide)) (li hp.co) (li hp.cn)),tt ⟨(w9 (be sx b1 me) (bw sx b1 sy b2 oth ed fe me) (Nat.le_trans hol (by decide)) (Nat.le_trans hnl (by decide)) (Nat.le_trans hop (by decide)) (Nat.le_trans hnp (by decide)) (li hp.co) (li hp.cn)),tt ⟨(vT (xa hp.nn)),tt ⟨(qI (bw sx b1 sy b2 oth ed fe me) (be sx b1 me) (Nat.le_trans hnl (by decide)) (Nat.le_trans hol (by decide)) (Nat.le_trans hnp (by decide)) (Nat.le_trans hop (by decide)) (li hp.cn) (li hp.co)),tt ⟨(w9 (bw sx b1 sy b2 oth ed fe me) (be sx b1 me) (Nat.le_trans hnl (by decide)) (Nat.le_trans hol (by decide)) (Nat.le_trans hnp (by decide)) (Nat.le_trans hop (by decide)) (li hp.cn) (li hp.co)),tt ⟨(vT (xa hp.no)),tt ⟨rfl,oK⟩⟩⟩⟩⟩⟩⟩⟩⟩⟩⟩⟩⟩⟩⟩⟩⟩
abbrev E3 (k : IntKind) (x : Int) : Prop := (Lit.int k x).wf = true
def uE {α : Type} (enc : α → Value) (S : Nat → Prop) (w : World) (v : Value) (l : List α) : Prop :=
 ∃ (p : Option Addr) (c : Nat), v = .slice p l.length c ∧ l.length ≤ c ∧ c ≤ maxLen ∧ (p = none → c = 0) ∧
  (0 < l.length → ∃ b off, p = some ⟨b, off, none⟩ ∧ S b ∧ b < w.heap.size ∧ ∀ (i : Nat) (x : α), l[i]? = some x → w.cell? ⟨b, off + i, none⟩ = some (enc x))
theorem uE.stable {α : Type} (enc : α → Value) (l : List α) : jf (fun S v w => uE enc S w v l) := by
 rintro S S' v w w' ⟨p, c, rfl, h1, h2, h3, h4⟩ hS hw hsz
 refine ⟨p, c, rfl, h1, h2, h3, fun h0 => ?_⟩
 obtain ⟨b, off, rfl, q1, q2, q3⟩ := h4 h0
 refine ⟨b, off, rfl, hS b q1 q2, by omega, fun i x hx => ?_⟩
 rw [← q3 i x hx]
 exact World.cell?_of_block (hw b q1 q2)
theorem uE.mono {α : Type} {enc : α → Value} {l : List α} {S S' : Nat → Prop} {w w' : World} {v : Value} (h : uE enc S w v l) (hS : ∀ b, S b → b < w.heap.size → S' b)
  (hb : Below w.heap.size w w') : uE enc S' w' v l := uE.stable enc l S S' v w w' h hS (fun b _ hb' => hb.block b hb') hb.size
end Go.Proofs.Ytnlmlkbaflmgcaa
