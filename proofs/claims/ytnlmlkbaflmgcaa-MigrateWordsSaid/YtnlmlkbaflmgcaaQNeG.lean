/-
  Package network: valid states, starts, what a process does.
-/
import Derived.Test.YtnlmlkbaflmgcaaQNeE
namespace Go.Proofs.Ytnlmlkbaflmgcaa
open Go.RowKit
set_option linter.unusedVariables false
set_option linter.unusedSimpArgs false
set_option maxRecDepth 100000
abbrev KZ (c : Ci) (s : Ns) : Ct := ⟨23,[(.agg [(dL 6 bn af c.procs),(dL 5 bD ax c.chans)]),(.agg [(dL 2 bg aZ s.procs),(dL 1 ac [] s.chans)])],false,(dB (bN c s))⟩
abbrev lH (c : Ci) (s : Ns) : Lp (Nat) := gZ [2,3,27,28,29] 2 (fun (i : Nat) => ⟨[(2,(.ptr 0 0 0 0)),(3,(.ptr 1 0 0 0)),(27,(dL 6 bn af c.procs)),(28,(i6 (c.procs.length : Int))),(29,(i6 (i : Int)))],[(.var 31 [(dL 6 bn af c.procs),(dL 5 bD ax c.chans)]),(.var 35 [(dL 2 bg aZ s.procs),(dL 1 ac [] s.chans)])]⟩) (fun (i : Nat) => i ≤ c.procs.length∧∀ z,z < i → bw (bx c z) (yu s z) = true) (fun (i : Nat) => c.procs.length - i)
abbrev gM (c : Ci) (s : Ns) : Lp (Nat) := gZ [3,44,45,46] 2 (fun (n : Nat) => ⟨[(3,(.ptr 1 0 0 0)),(44,(dL 5 bD ax c.chans)),(45,(i6 (c.chans.length : Int))),(46,(i6 (n : Int)))],[(.var 31 [(dL 6 bn af c.procs),(dL 5 bD ax c.chans)]),(.var 35 [(dL 2 bg aZ s.procs),(dL 1 ac [] s.chans)])]⟩) (fun (n : Nat) => n ≤ c.chans.length∧∀ z,z < n → hY c s z = true) (fun (n : Nat) => c.chans.length - n)
theorem BK (c : Ci) (s : Ns) (hc : bX c) (hsm : pX s 9223372036854775807) : CC (KZ c s) := by
 have hnl := hc.nl
 have hcl := hc.cl
 refine ap.vc (V := TT 3 (CS ((s.procs.length : Int) = (c.procs.length : Int)) (TT 7 ((True∧(!decide ((s.procs.length : Int) = (c.procs.length : Int))) = false)∧TT 8 (CN ((s.chans.length : Int) = (c.chans.length : Int)) (TT 2 (false = (bN c s)∧True)) (TT 4 (GO (lH c s) 0 (∀ i,(lH c s).inv i → TT 1 (CD ((i : Int) < (c.procs.length : Int)) (TT 1 (IX (i : Int) c.procs.length∧TT 8 (IX (i : Int) s.procs.length∧TT 1 (CC (Kj (c.procs.getD i af) (s.procs.getD i aZ))∧TT 1 (CB (!(bw (c.procs.getD i af) (s.procs.getD i aZ))) (TT 2 (false = (bN c s)∧True)) (W6 ((i + 1 : Nat) : Int)∧TT 1 (AG (lH c s) i (i + 1)))))))) (TT 4 (GO (gM c s) 0 (∀ n,(gM c s).inv n → TT 1 (CD ((n : Int) < (c.chans.length : Int)) (TT 1 (IX (n : Int) c.chans.length∧TT 4 (CS (((c.chans.getD n ax).frm) ≥ 0) (TT 3 ((True∧(decide (((c.chans.getD n ax).frm) ≥ 0)) = true)∧TT 5 (CS ((eJ (s.chans.getD n []) ((c.chans.getD n ax).w)) = true) (CS (((c.chans.getD n ax).dst) ≥ 0) (TT 3 (IX (n : Int) s.chans.length∧TT 3 (CC (DH (s.chans.getD n []) ((c.chans.getD n ax).w))∧TT 1 ((True∧(!(eJ (s.chans.getD n []) ((c.chans.getD n ax).w))) = false)∧TT 1 ((True∧(decide (((c.chans.getD n ax).dst) ≥ 0)) = true)∧TT 3 (IX (n : Int) s.chans.length∧TT 7 (CD ((((s.chans.getD n []).length : Nat) : Int) > ((c.chans.getD n ax).cap)) (TT 2 (false = (bN c s)∧True)) (W6 ((n + 1 : Nat) : Int)∧TT 1 (AG (gM c s) n (n + 1)))))))))) (TT 3 (IX (n : Int) s.chans.length∧TT 3 (CC (DH (s.chans.getD n []) ((c.chans.getD n ax).w))∧TT 1 ((True∧(!(eJ (s.chans.getD n []) ((c.chans.getD n ax).w))) = false)∧TT 1 ((True∧(decide (((c.chans.getD n ax).dst) ≥ 0)) = false)∧TT 2 (W6 ((n + 1 : Nat) : Int)∧TT 1 (AG (gM c s) n (n + 1))))))))) (TT 3 (IX (n : Int) s.chans.length∧TT 3 (CC (DH (s.chans.getD n []) ((c.chans.getD n ax).w))∧TT 1 ((True∧(!(eJ (s.chans.getD n []) ((c.chans.getD n ax).w))) = true)∧TT 3 (false = (bN c s)∧True)))))))) (TT 3 ((True∧(decide (((c.chans.getD n ax).frm) ≥ 0)) = false)∧TT 5 (CS ((eJ (s.chans.getD n []) ((c.chans.getD n ax).w)) = true) (TT 3 (IX (n : Int) s.chans.length∧TT 3 (CC (DH (s.chans.getD n []) ((c.chans.getD n ax).w))∧TT 1 ((True∧(!(eJ (s.chans.getD n []) ((c.chans.getD n ax).w))) = false)∧TT 4 (W6 ((n + 1 : Nat) : Int)∧TT 1 (AG (gM c s) n (n + 1))))))) (TT 3 (IX (n : Int) s.chans.length∧TT 3 (CC (DH (s.chans.getD n []) ((c.chans.getD n ax).w))∧TT 1 ((True∧(!(eJ (s.chans.getD n []) ((c.chans.getD n ax).w))) = true)∧TT 3 (false = (bN c s)∧True))))))))))) (TT 2 (true = (bN c s)∧True))))))))))))) (TT 7 ((True∧(!decide ((s.procs.length : Int) = (c.procs.length : Int))) = true)∧TT 10 (false = (bN c s)∧True))))) (.s 1 ((s.procs.length : Int) = (c.procs.length : Int)) (.w 1 [(7,.val (dB false))] <| .b 25 (.e) (.l (lH c s) 0 (fun i => .b 30 (.w 6 [(6,(Kj (c.procs.getD i af) (s.procs.getD i aZ)).O)] <| .b 41 (.e) (.w 8 [(0,.val (i6 ((i + 1 : Nat) : Int)))] <| .e)) (.l (gM c s) 0 (fun n => .b 47 (.s 12 (((c.chans.getD n ax).frm) ≥ 0) (.w 12 [(3,.val (dB true))] <| .s 13 ((eJ (s.chans.getD n []) ((c.chans.getD n ax).w)) = true) (.s 13 (((c.chans.getD n ax).dst) ≥ 0) (.w 13 [(7,(DH (s.chans.getD n []) ((c.chans.getD n ax).w)).O),(9,.val (dB false)),(11,.val (dB true))] <| .b 81 (.e) (.w 15 [(0,.val (i6 ((n + 1 : Nat) : Int)))] <| .e)) (.w 13 [(7,(DH (s.chans.getD n []) ((c.chans.getD n ax).w)).O),(9,.val (dB false)),(11,.val (dB false))] <| .w 15 [(0,.val (i6 ((n + 1 : Nat) : Int)))] <| .e)) (.w 13 [(7,(DH (s.chans.getD n []) ((c.chans.getD n ax).w)).O),(9,.val (dB true))] <| .e)) (.w 12 [(3,.val (dB false))] <| .s 13 ((eJ (s.chans.getD n []) ((c.chans.getD n ax).w)) = true) (.w 13 [(7,(DH (s.chans.getD n []) ((c.chans.getD n ax).w)).O),(9,.val (dB false))] <| .w 15 [(0,.val (i6 ((n + 1 : Nat) : Int)))] <| .e) (.w 13 [(7,(DH (s.chans.getD n []) ((c.chans.getD n ax).w)).O),(9,.val (dB true))] <| .e))) (.e)))))) (.w 1 [(7,.val (dB true))] <| .e)) Try.func23 rfl rfl rfl (by kernel_rfl) ?_
 refine tt ⟨fun hs0 => ?_,fun hs0 => ?_⟩
 · refine tt ⟨(nF hs0),tt (cn (fun hc25 => ?_) (fun hc25 => ?_))⟩
   · refine tt ⟨?_,oK⟩
     first | exact (mY (by omega)).symm | exact (mZ (by omega)).symm | exact (m4 (i := i) (by omega) (by simpa using hc41)).symm | exact (fk (n := n) (by omega) (ij (by first | exact hs2 | exact hs4))).symm | exact (fk (n := n) (by omega) (ik (by show 0 ≤ (c.chans.getD n ax).frm; omega) (by show 0 ≤ (c.chans.getD n ax).dst; omega) (by show ¬((s.chans.getD n []).length : Int) ≤ (c.chans.getD n ax).cap; omega))).symm | exact (m5 (by omega) (by omega) (fun z hz => h3 z (by omega)) (fun z hz => h4 z (by omega))).symm
   · refine tt ⟨rfl,⟨by omega,fun z hz => by omega⟩,?_⟩
     intro i hinv
     obtain ⟨hi,h3⟩ := hinv
     refine tt (cd (fun hc30 => ?_) (fun hc30 => ?_))
     · refine tt ⟨ix,?_⟩
       have hpk := hc.pr i (by omega)
       refine tt ⟨ix,tt ⟨(Bx (c.procs.getD i af) (s.procs.getD i aZ) hpk),tt ⟨fun hc41 => ?_,fun hc41 => ?_⟩⟩⟩
       · refine tt ⟨?_,oK⟩
         first | exact (mY (by omega)).symm | exact (mZ (by omega)).symm | exact (m4 (i := i) (by omega) (by simpa using hc41)).symm | exact (fk (n := n) (by omega) (ij (by first | exact hs2 | exact hs4))).symm | exact (fk (n := n) (by omega) (ik (by show 0 ≤ (c.chans.getD n ax).frm; omega) (by show 0 ≤ (c.chans.getD n ax).dst; omega) (by show ¬((s.chans.getD n []).length : Int) ≤ (c.chans.getD n ax).cap; omega))).symm | exact (m5 (by omega) (by omega) (fun z hz => h3 z (by omega)) (fun z hz => h4 z (by omega))).symm
       · refine ⟨w6,tt ⟨(i + 1),rfl,?_,(?_ : c.procs.length - (i + 1) < c.procs.length - i)⟩⟩
         · exact ⟨by omega,bf h3 (by simpa using hc41)⟩
         · omega
     · refine tt ⟨rfl,⟨by omega,fun z hz => by omega⟩,?_⟩
       intro n hinv
       obtain ⟨hn,h4⟩ := hinv
       refine tt (cd (fun hc47 => ?_) (fun hc47 => ?_))
       · refine tt ⟨ix,tt ?_⟩
         have hw : 1 ≤ (c.chans.getD n ax).w∧(c.chans.getD n ax).w ≤ 8 := aP.1 (hc.cw n (by omega))
         have hlw : (s.chans.getD n []).length ≤ 9223372036854775807 := hsm n
         refine ⟨fun hs1 => ?_,fun hs1 => ?_⟩
         · refine tt ⟨(vT hs1),tt ⟨fun hs2 => ?_,fun hs2 => ?_⟩⟩
           · refine ⟨fun hs3 => ?_,fun hs3 => ?_⟩
             · refine tt ⟨ix,tt ⟨(jj (s.chans.getD n []) ((c.chans.getD n ax).w) (by omega) (by omega) hlw),tt ⟨(mF hs2),tt ⟨(vT hs3),tt ⟨ix,tt (cd (fun hc81 => ?_) (fun hc81 => ?_))⟩⟩⟩⟩⟩
               · refine tt ⟨?_,oK⟩
                 first | exact (mY (by omega)).symm | exact (mZ (by omega)).symm | exact (m4 (i := i) (by omega) (by simpa using hc41)).symm | exact (fk (n := n) (by omega) (ij (by first | exact hs2 | exact hs4))).symm | exact (fk (n := n) (by omega) (ik (by show 0 ≤ (c.chans.getD n ax).frm; omega) (by show 0 ≤ (c.chans.getD n ax).dst; omega) (by show ¬((s.chans.getD n []).length : Int) ≤ (c.chans.getD n ax).cap; omega))).symm | exact (m5 (by omega) (by omega) (fun z hz => h3 z (by omega)) (fun z hz => h4 z (by omega))).symm
               · refine ⟨w6,tt ⟨(n + 1),rfl,?_,(?_ : c.chans.length - (n + 1) < c.chans.length - n)⟩⟩
                 · refine ⟨by omega,bf h4 ?_⟩
                   first | exact yA (by first | exact hs2 | exact hs4) (by show ¬0 ≤ (c.chans.getD n ax).frm; omega) | exact yB (by first | exact hs2 | exact hs4) (by show ¬0 ≤ (c.chans.getD n ax).dst; omega) | exact yC (by first | exact hs2 | exact hs4) (by show ((s.chans.getD n []).length : Int) ≤ (c.chans.getD n ax).cap; omega)
                 · omega
             · refine tt ⟨ix,tt ⟨(jj (s.chans.getD n []) ((c.chans.getD n ax).w) (by omega) (by omega) hlw),tt ⟨(mF hs2),tt ⟨(vF hs3),tt ⟨w6,tt ⟨(n + 1),rfl,?_,(?_ : c.chans.length - (n + 1) < c.chans.length - n)⟩⟩⟩⟩⟩⟩
               · refine ⟨by omega,bf h4 ?_⟩
                 first | exact yA (by first | exact hs2 | exact hs4) (by show ¬0 ≤ (c.chans.getD n ax).frm; omega) | exact yB (by first | exact hs2 | exact hs4) (by show ¬0 ≤ (c.chans.getD n ax).dst; omega) | exact yC (by first | exact hs2 | exact hs4) (by show ((s.chans.getD n []).length : Int) ≤ (c.chans.getD n ax).cap; omega)
               · omega
           · refine tt ⟨ix,tt ⟨(jj (s.chans.getD n []) ((c.chans.getD n ax).w) (by omega) (by omega) hlw),tt ⟨(mT hs2),tt ⟨?_,oK⟩⟩⟩⟩
             first | exact (mY (by omega)).symm | exact (mZ (by omega)).symm | exact (m4 (i := i) (by omega) (by simpa using hc41)).symm | exact (fk (n := n) (by omega) (ij (by first | exact hs2 | exact hs4))).symm | exact (fk (n := n) (by omega) (ik (by show 0 ≤ (c.chans.getD n ax).frm; omega) (by show 0 ≤ (c.chans.getD n ax).dst; omega) (by show ¬((s.chans.getD n []).length : Int) ≤ (c.chans.getD n ax).cap; omega))).symm | exact (m5 (by omega) (by omega) (fun z hz => h3 z (by omega)) (fun z hz => h4 z (by omega))).symm
         · refine tt ⟨(vF hs1),tt ⟨fun hs4 => ?_,fun hs4 => ?_⟩⟩
           · refine tt ⟨ix,tt ⟨(jj (s.chans.getD n []) ((c.chans.getD n ax).w) (by omega) (by omega) hlw),tt ⟨(mF hs4),tt ⟨w6,tt ⟨(n + 1),rfl,?_,(?_ : c.chans.length - (n + 1) < c.chans.length - n)⟩⟩⟩⟩⟩
             · refine ⟨by omega,bf h4 ?_⟩
               first | exact yA (by first | exact hs2 | exact hs4) (by show ¬0 ≤ (c.chans.getD n ax).frm; omega) | exact yB (by first | exact hs2 | exact hs4) (by show ¬0 ≤ (c.chans.getD n ax).dst; omega) | exact yC (by first | exact hs2 | exact hs4) (by show ((s.chans.getD n []).length : Int) ≤ (c.chans.getD n ax).cap; omega)
             · omega
           · refine tt ⟨ix,tt ⟨(jj (s.chans.getD n []) ((c.chans.getD n ax).w) (by omega) (by omega) hlw),tt ⟨(mT hs4),tt ⟨?_,oK⟩⟩⟩⟩
             first | exact (mY (by omega)).symm | exact (mZ (by omega)).symm | exact (m4 (i := i) (by omega) (by simpa using hc41)).symm | exact (fk (n := n) (by omega) (ij (by first | exact hs2 | exact hs4))).symm | exact (fk (n := n) (by omega) (ik (by show 0 ≤ (c.chans.getD n ax).frm; omega) (by show 0 ≤ (c.chans.getD n ax).dst; omega) (by show ¬((s.chans.getD n []).length : Int) ≤ (c.chans.getD n ax).cap; omega))).symm | exact (m5 (by omega) (by omega) (fun z hz => h3 z (by omega)) (fun z hz => h4 z (by omega))).symm
       · refine tt ⟨?_,oK⟩
         first | exact (mY (by omega)).symm | exact (mZ (by omega)).symm | exact (m4 (i := i) (by omega) (by simpa using hc41)).symm | exact (fk (n := n) (by omega) (ij (by first | exact hs2 | exact hs4))).symm | exact (fk (n := n) (by omega) (ik (by show 0 ≤ (c.chans.getD n ax).frm; omega) (by show 0 ≤ (c.chans.getD n ax).dst; omega) (by show ¬((s.chans.getD n []).length : Int) ≤ (c.chans.getD n ax).cap; omega))).symm | exact (m5 (by omega) (by omega) (fun z hz => h3 z (by omega)) (fun z hz => h4 z (by omega))).symm
 · refine tt ⟨(nT hs0),tt ⟨?_,oK⟩⟩
   first | exact (mY (by omega)).symm | exact (mZ (by omega)).symm | exact (m4 (i := i) (by omega) (by simpa using hc41)).symm | exact (fk (n := n) (by omega) (ij (by first | exact hs2 | exact hs4))).symm | exact (fk (n := n) (by omega) (ik (by show 0 ≤ (c.chans.getD n ax).frm; omega) (by show 0 ≤ (c.chans.getD n ax).dst; omega) (by show ¬((s.chans.getD n []).length : Int) ≤ (c.chans.getD n ax).cap; omega))).symm | exact (m5 (by omega) (by omega) (fun z hz => h3 z (by omega)) (fun z hz => h4 z (by omega))).symm
end Go.Proofs.Ytnlmlkbaflmgcaa
