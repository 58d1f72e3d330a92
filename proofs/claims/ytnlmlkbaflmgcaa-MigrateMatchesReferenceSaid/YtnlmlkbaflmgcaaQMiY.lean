/-
  Package migrate: whether nothing is lost.
-/
import Derived.Test.YtnlmlkbaflmgcaaQMiF
import Derived.Test.YtnlmlkbaflmgcaaQMiX
namespace Go.Proofs.Ytnlmlkbaflmgcaa
open Go.RowKit
set_option linter.unusedVariables false
set_option linter.unusedSimpArgs false
abbrev Aj (o : Ci) : List D := [(dL 6 bm ac o.procs),(dL 5 bH ax o.chans)]
abbrev Ak (n : Ci) : List D := [(dL 6 bm ac n.procs),(dL 5 bH ax n.chans)]
set_option maxRecDepth 100000
abbrev FV (o n : Ci) : Ct := ⟨16,[(.agg (Aj o)),(.agg (Ak n))],true,(dB (b8 o n))⟩
abbrev eK (o : Ci) (n : Ci) : Lp (Nat) := fB [2,3,5,23,24,25] 2 (fun (k : Nat) => ⟨[(2,(.ptr 0 0 0 0)),(3,(.ptr 1 0 0 0)),(5,(.v (.sm false (aa .i64) 0 (b4 [] (bk n) n.chans.length)))),(23,(dL 5 bH ax o.chans)),(24,(i6 (o.chans.length : Int))),(25,(i6 (k : Int)))],[(.var 31 (Aj o)),(.var 31 (Ak n))]⟩) (fun (k : Nat) => k ≤ o.chans.length∧∀ z,z < k → kC o n z = true) (fun (k : Nat) => o.chans.length - k)
abbrev kf (o : Ci) (n : Ci) : Lp (Nat) := fB [3,51,52,53] 2 (fun (i : Nat) => ⟨[(3,(.ptr 1 0 0 0)),(51,(dL 6 bm ac o.procs)),(52,(i6 (o.procs.length : Int))),(53,(i6 (i : Int)))],[(.var 31 (Aj o)),(.var 31 (Ak n))]⟩) (fun (i : Nat) => i ≤ o.procs.length∧∀ z,z < i → i5 o n z = true) (fun (i : Nat) => o.procs.length - i)
abbrev iz (o : Ci) (n : Ci) (i : Nat) : Lp (Nat × Pr) := pW [3,11,12,51,52,53,58,59,60] 8 (fun (r : Nat) (q : Pr) => ⟨[(3,(.ptr 1 0 0 0)),(11,(.ptr 2 0 0 0)),(12,(.ptr 3 0 0 0)),(51,(dL 6 bm ac o.procs)),(52,(i6 (o.procs.length : Int))),(53,(i6 (i : Int))),(58,(dL 6 bm ac n.procs)),(59,(i6 (n.procs.length : Int))),(60,(i6 (r : Int)))],[(.var 31 (Aj o)),(.var 31 (Ak n)),(.var 80 [(dS ((o.procs.getD i ac).name)),(dS ((o.procs.getD i ac).clock)),(dL 13 bA aC ((o.procs.getD i ac).regs)),(dL 27 bX au ((o.procs.getD i ac).mems)),(dL 9 cP bB ((o.procs.getD i ac).takes)),(dL 16 cN bK ((o.procs.getD i ac).puts))]),(.var 80 [(dS q.name),(dS q.clock),(dL 13 bA aC q.regs),(dL 27 bX au q.mems),(dL 9 cP bB q.takes),(dL 16 cN bK q.puts)]),.dead,.dead,.dead,.dead]⟩) (fun (r : Nat) (q : Pr) => r ≤ n.procs.length∧q = fH n (eG o i) r) (fun (r : Nat) (q : Pr) => n.procs.length - r)
theorem qI (o n : Ci) (h1 : o.chans.length ≤ 1000000) (h2 : n.chans.length ≤ 1000000) (h3 : o.procs.length ≤ 1000000) (h4 : n.procs.length ≤ 1000000) (ho : ∀ i,i < o.procs.length → Ca (o.procs.getD i ac)) (hn : ∀ i,i < n.procs.length → Ca (n.procs.getD i ac)) : CC (FV o n) := by
 refine ap.vc (V := TT 5 (CC (E5 o n)∧TT 2 (CD ((((a4 o n o.chans.length).length : Nat) : Int) > 0) (TT 2 (false = (b8 o n))) (TT 1 (CC (HI n)∧TT 5 (GO (eK o n) 0 (∀ k,(eK o n).inv k → TT 1 (CD ((k : Int) < (o.chans.length : Int)) (IX (k : Int) o.chans.length∧TT 8 (CD (((o.chans.getD k ax).cap) = 0) (TT 6 (((cu (i6 0) (fC false ((aa .i64) 0)))∧(false = false → ∀ p ∈ (b4 [] (bk n) n.chans.length),((aa .i64) p.2).length = 1))∧IX (ah 0 (b4 [] (bk n) n.chans.length) ((o.chans.getD k ax).name)) n.chans.length∧TT 3 (CS (((n.chans.getD ((ah 0 (b4 [] (bk n) n.chans.length) ((o.chans.getD k ax).name)).toNat) ax).cap) > 0) (TT 2 ((True∧(decide (((n.chans.getD ((ah 0 (b4 [] (bk n) n.chans.length) ((o.chans.getD k ax).name)).toNat) ax).cap) > 0)) = true)∧TT 4 (CD (((n.chans.getD ((ah 0 (b4 [] (bk n) n.chans.length) ((o.chans.getD k ax).name)).toNat) ax).cap) < 8) (TT 2 (false = (b8 o n))) (W6 ((k + 1 : Nat) : Int)∧TT 1 (AG (eK o n) k (k + 1)))))) (TT 2 ((True∧(decide (((n.chans.getD ((ah 0 (b4 [] (bk n) n.chans.length) ((o.chans.getD k ax).name)).toNat) ax).cap) > 0)) = false)∧TT 4 (W6 ((k + 1 : Nat) : Int)∧TT 1 (AG (eK o n) k (k + 1)))))))) (TT 5 (((cu (i6 0) (fC false ((aa .i64) 0)))∧(false = false → ∀ p ∈ (b4 [] (bk n) n.chans.length),((aa .i64) p.2).length = 1))∧IX (ah 0 (b4 [] (bk n) n.chans.length) ((o.chans.getD k ax).name)) n.chans.length∧TT 3 (CS (((n.chans.getD ((ah 0 (b4 [] (bk n) n.chans.length) ((o.chans.getD k ax).name)).toNat) ax).cap) > 0) (TT 2 ((True∧(decide (((n.chans.getD ((ah 0 (b4 [] (bk n) n.chans.length) ((o.chans.getD k ax).name)).toNat) ax).cap) > 0)) = true)∧TT 4 (CD (((n.chans.getD ((ah 0 (b4 [] (bk n) n.chans.length) ((o.chans.getD k ax).name)).toNat) ax).cap) < ((o.chans.getD k ax).cap)) (TT 2 (false = (b8 o n))) (W6 ((k + 1 : Nat) : Int)∧TT 1 (AG (eK o n) k (k + 1)))))) (TT 2 ((True∧(decide (((n.chans.getD ((ah 0 (b4 [] (bk n) n.chans.length) ((o.chans.getD k ax).name)).toNat) ax).cap) > 0)) = false)∧TT 4 (W6 ((k + 1 : Nat) : Int)∧TT 1 (AG (eK o n) k (k + 1)))))))))) (TT 4 (GO (kf o n) 0 (∀ i,(kf o n).inv i → TT 1 (CD ((i : Int) < (o.procs.length : Int)) (IX (i : Int) o.procs.length∧TT 8 (GO (iz o n i) (0,ac) (∀ r q,(iz o n i).inv (r,q) → TT 1 (CD ((r : Int) < (n.procs.length : Int)) (IX (r : Int) n.procs.length∧TT 8 (CB (((n.procs.getD r ac).name).toList == ((o.procs.getD i ac).name).toList) (TT 2 (W6 ((r + 1 : Nat) : Int)∧TT 1 (AG (iz o n i) (r,q) (r + 1,(n.procs.getD r ac))))) (W6 ((r + 1 : Nat) : Int)∧TT 1 (AG (iz o n i) (r,q) (r + 1,q))))) (TT 2 (CC (K2 (o.procs.getD i ac) q)∧TT 1 (CB (!(fG (o.procs.getD i ac) q)) (TT 2 (false = (b8 o n))) (W6 ((i + 1 : Nat) : Int)∧TT 1 (AG (kf o n) i (i + 1)))))))))) (TT 2 (true = (b8 o n))))))))))))))) (.w 1 [(2,(E5 o n).O)] <| .b 19 (.e) (.w 3 [(1,(HI n).O)] <| .l (eK o n) 0 (fun k => .b 26 (.b 32 (.s 11 (((n.chans.getD ((ah 0 (b4 [] (bk n) n.chans.length) ((o.chans.getD k ax).name)).toNat) ax).cap) > 0) (.w 11 [(2,.val (dB true))] <| .b 48 (.e) (.w 13 [(0,.val (i6 ((k + 1 : Nat) : Int)))] <| .e)) (.w 11 [(2,.val (dB false))] <| .w 13 [(0,.val (i6 ((k + 1 : Nat) : Int)))] <| .e)) (.s 11 (((n.chans.getD ((ah 0 (b4 [] (bk n) n.chans.length) ((o.chans.getD k ax).name)).toNat) ax).cap) > 0) (.w 11 [(2,.val (dB true))] <| .b 48 (.e) (.w 13 [(0,.val (i6 ((k + 1 : Nat) : Int)))] <| .e)) (.w 11 [(2,.val (dB false))] <| .w 13 [(0,.val (i6 ((k + 1 : Nat) : Int)))] <| .e))) (.l (kf o n) 0 (fun i => .b 54 (.g 18 3 2 66 13 bA aC <| .g 18 3 3 70 27 bX au <| .g 18 3 4 144 9 cP bB <| .g 18 3 5 76 16 cN bK <| .f 18 4 <| .f 18 5 <| .f 18 6 <| .f 18 7 <| .l (iz o n i) (0,ac) (fun ⟨r,q⟩ => .b 61 (.b 68 (.w 23 [(0,.val (i6 ((r + 1 : Nat) : Int)))] <| .e) (.w 23 [(0,.val (i6 ((r + 1 : Nat) : Int)))] <| .e)) (.w 24 [(2,(K2 (o.procs.getD i ac) q).O)] <| .b 74 (.e) (.w 26 [(0,.val (i6 ((i + 1 : Nat) : Int)))] <| .e)))) (.e)))))) Try.func16 rfl rfl rfl (by kernel_rfl) ?_
 refine tt ⟨(lL o n h1 h2),tt (cd (fun hc19 => ?_) (fun hc19 => ?_))⟩
 · refine tt ?_
   first | exact (jx (by omega)).symm | exact (jy (i := k) (by omega) (by assumption) (by first | (rw [iw (by assumption)]; assumption) | (rw [iy (by assumption)]; assumption))).symm | exact (hC (i := i) (by omega) (by simpa [i5,eG,hq,hre] using hc74)).symm | exact (jz (by omega) (fun z hz => hrm z (by omega)) (fun z hz => hkp z (by omega))).symm
 · refine tt ⟨(nk n (by omega)),tt ⟨rfl,⟨by omega,fun z hz => by omega⟩,?_⟩⟩
   intro k hinv
   obtain ⟨hk,hrm⟩ := hinv
   refine tt (cd (fun hc26 => ?_) (fun hc26 => ?_))
   · have hxb := DU hc19 (k := k) (by omega)
     refine ⟨ix,tt (cd (fun hc32 => ?_) (fun hc32 => ?_))⟩
     · refine tt ⟨⟨(cu.refl _),(fun _ _ _ => rfl)⟩,⟨ix,tt ⟨fun hs0 => ?_,fun hs0 => ?_⟩⟩⟩
       · refine tt ⟨(vT hs0),tt (cd (fun hc48 => ?_) (fun hc48 => ?_))⟩
         · refine tt ?_
           first | exact (jx (by omega)).symm | exact (jy (i := k) (by omega) (by assumption) (by first | (rw [iw (by assumption)]; assumption) | (rw [iy (by assumption)]; assumption))).symm | exact (hC (i := i) (by omega) (by simpa [i5,eG,hq,hre] using hc74)).symm | exact (jz (by omega) (fun z hz => hrm z (by omega)) (fun z hz => hkp z (by omega))).symm
         · refine ⟨w6,tt ⟨(k + 1),rfl,?_,(?_ : o.chans.length - (k + 1) < o.chans.length - k)⟩⟩
           · exact ⟨by omega,aR hrm (by first | exact vD (by assumption) | exact vE (by first | (rw [iw (by assumption)]; assumption) | (rw [iy (by assumption)]; assumption)))⟩
           · omega
       · refine tt ⟨(vF hs0),tt ⟨w6,tt ⟨(k + 1),rfl,?_,(?_ : o.chans.length - (k + 1) < o.chans.length - k)⟩⟩⟩
         · exact ⟨by omega,aR hrm (by first | exact vD (by assumption) | exact vE (by first | (rw [iw (by assumption)]; assumption) | (rw [iy (by assumption)]; assumption)))⟩
         · omega
     · refine tt ⟨⟨(cu.refl _),(fun _ _ _ => rfl)⟩,⟨ix,tt ⟨fun hs1 => ?_,fun hs1 => ?_⟩⟩⟩
       · refine tt ⟨(vT hs1),tt (cd (fun hc48 => ?_) (fun hc48 => ?_))⟩
         · refine tt ?_
           first | exact (jx (by omega)).symm | exact (jy (i := k) (by omega) (by assumption) (by first | (rw [iw (by assumption)]; assumption) | (rw [iy (by assumption)]; assumption))).symm | exact (hC (i := i) (by omega) (by simpa [i5,eG,hq,hre] using hc74)).symm | exact (jz (by omega) (fun z hz => hrm z (by omega)) (fun z hz => hkp z (by omega))).symm
         · refine ⟨w6,tt ⟨(k + 1),rfl,?_,(?_ : o.chans.length - (k + 1) < o.chans.length - k)⟩⟩
           · exact ⟨by omega,aR hrm (by first | exact vD (by assumption) | exact vE (by first | (rw [iw (by assumption)]; assumption) | (rw [iy (by assumption)]; assumption)))⟩
           · omega
       · refine tt ⟨(vF hs1),tt ⟨w6,tt ⟨(k + 1),rfl,?_,(?_ : o.chans.length - (k + 1) < o.chans.length - k)⟩⟩⟩
         · exact ⟨by omega,aR hrm (by first | exact vD (by assumption) | exact vE (by first | (rw [iw (by assumption)]; assumption) | (rw [iy (by assumption)]; assumption)))⟩
         · omega
   · refine tt ⟨rfl,⟨by omega,fun z hz => by omega⟩,?_⟩
     intro i hinv
     obtain ⟨hi,hkp⟩ := hinv
     refine tt (cd (fun hc54 => ?_) (fun hc54 => ?_))
     · refine ⟨ix,tt ⟨rfl,⟨by omega,rfl⟩,?_⟩⟩
       intro r q hinv
       obtain ⟨hr,hq⟩ := hinv
       refine tt (cd (fun hc61 => ?_) (fun hc61 => ?_))
       · refine ⟨ix,tt ⟨fun hc68 => ?_,fun hc68 => ?_⟩⟩
         · refine tt ⟨w6,tt ⟨(r + 1,(n.procs.getD r ac)),rfl,?_,(?_ : n.procs.length - (r + 1) < n.procs.length - r)⟩⟩
           · exact ⟨by omega,by first | exact (w8 hc68).symm | (rw [hq]; exact Ah hc68)⟩
           · omega
         · refine ⟨w6,tt ⟨(r + 1,q),rfl,?_,(?_ : n.procs.length - (r + 1) < n.procs.length - r)⟩⟩
           · exact ⟨by omega,by first | exact (w8 hc68).symm | (rw [hq]; exact Ah hc68)⟩
           · omega
       · have hre : r = n.procs.length := by omega
         have hpl : Ca q := by rw [hq]; exact Ai hn r hr
         have hpo := ho i (by omega)
         refine tt ⟨(HT (o.procs.getD i ac) q hpo.1 hpo.2 hpl.1 hpl.2),tt ⟨fun hc74 => ?_,fun hc74 => ?_⟩⟩
         · refine tt ?_
           first | exact (jx (by omega)).symm | exact (jy (i := k) (by omega) (by assumption) (by first | (rw [iw (by assumption)]; assumption) | (rw [iy (by assumption)]; assumption))).symm | exact (hC (i := i) (by omega) (by simpa [i5,eG,hq,hre] using hc74)).symm | exact (jz (by omega) (fun z hz => hrm z (by omega)) (fun z hz => hkp z (by omega))).symm
         · refine ⟨w6,tt ⟨(i + 1),rfl,?_,(?_ : o.procs.length - (i + 1) < o.procs.length - i)⟩⟩
           · exact ⟨by omega,aR hkp (by simpa [i5,eG,hq,hre] using hc74)⟩
           · omega
     · refine tt ?_
       first | exact (jx (by omega)).symm | exact (jy (i := k) (by omega) (by assumption) (by first | (rw [iw (by assumption)]; assumption) | (rw [iy (by assumption)]; assumption))).symm | exact (hC (i := i) (by omega) (by simpa [i5,eG,hq,hre] using hc74)).symm | exact (jz (by omega) (fun z hz => hrm z (by omega)) (fun z hz => hkp z (by omega))).symm
end Go.Proofs.Ytnlmlkbaflmgcaa
