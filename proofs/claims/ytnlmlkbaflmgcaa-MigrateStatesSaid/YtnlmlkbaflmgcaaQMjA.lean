/-
  The reference of package migrate: whether nothing is lost, plain data.
-/
import Derived.Test.YtnlmlkbaflmgcaaQMiX
namespace Go.Proofs.Ytnlmlkbaflmgcaa
open Go.RowKit
set_option linter.unusedVariables false
set_option linter.unusedSimpArgs false
abbrev Ab (o : Ci) : List D := [(dL 6 bn af o.procs),(dL 5 bD ax o.chans)]
abbrev Ac (n : Ci) : List D := [(dL 6 bn af n.procs),(dL 5 bD ax n.chans)]
set_option maxRecDepth 100000
abbrev Ji (o n : Ci) : Ct := ⟨16,[(.agg (Ab o)),(.agg (Ac n))],true,(dB (cP o n))⟩
abbrev ex (o : Ci) (n : Ci) : Lp (Nat) := gZ [2,3,5,23,24,25] 2 (fun (k : Nat) => ⟨[(2,(.ptr 0 0 0 0)),(3,(.ptr 1 0 0 0)),(5,(.v (.sm false (aa .i64) 0 (bW [] (a6 n) n.chans.length)))),(23,(dL 5 bD ax o.chans)),(24,(i6 (o.chans.length : Int))),(25,(i6 (k : Int)))],[(.var 31 (Ab o)),(.var 31 (Ac n))]⟩) (fun (k : Nat) => k ≤ o.chans.length∧∀ z,z < k → mq o n z = true) (fun (k : Nat) => o.chans.length - k)
abbrev jX (o : Ci) (n : Ci) : Lp (Nat) := gZ [3,51,52,53] 2 (fun (i : Nat) => ⟨[(3,(.ptr 1 0 0 0)),(51,(dL 6 bn af o.procs)),(52,(i6 (o.procs.length : Int))),(53,(i6 (i : Int)))],[(.var 31 (Ab o)),(.var 31 (Ac n))]⟩) (fun (i : Nat) => i ≤ o.procs.length∧∀ z,z < i → kh o n z = true) (fun (i : Nat) => o.procs.length - i)
abbrev il (o : Ci) (n : Ci) (i : Nat) : Lp (Nat × Pr) := nU [3,11,12,51,52,53,58,59,60] 8 (fun (r : Nat) (q : Pr) => ⟨[(3,(.ptr 1 0 0 0)),(11,(.ptr 2 0 0 0)),(12,(.ptr 3 0 0 0)),(51,(dL 6 bn af o.procs)),(52,(i6 (o.procs.length : Int))),(53,(i6 (i : Int))),(58,(dL 6 bn af n.procs)),(59,(i6 (n.procs.length : Int))),(60,(i6 (r : Int)))],[(.var 31 (Ab o)),(.var 31 (Ac n)),(.var 80 [(dS ((o.procs.getD i af).name)),(dS ((o.procs.getD i af).clock)),(dL 13 bM aO ((o.procs.getD i af).regs)),(dL 27 cj aB ((o.procs.getD i af).mems)),(dL 9 dJ bO ((o.procs.getD i af).takes)),(dL 16 dD bV ((o.procs.getD i af).puts))]),(.var 80 [(dS q.name),(dS q.clock),(dL 13 bM aO q.regs),(dL 27 cj aB q.mems),(dL 9 dJ bO q.takes),(dL 16 dD bV q.puts)]),.dead,.dead,.dead,.dead]⟩) (fun (r : Nat) (q : Pr) => r ≤ n.procs.length∧q = iR n (kg o i) r) (fun (r : Nat) (q : Pr) => n.procs.length - r)
theorem Ad (o n : Ci) (h1 : o.chans.length ≤ 1000000) (h2 : n.chans.length ≤ 1000000) (h3 : o.procs.length ≤ 1000000) (h4 : n.procs.length ≤ 1000000) (ho : ∀ i,i < o.procs.length → FS (o.procs.getD i af)) (hn : ∀ i,i < n.procs.length → FS (n.procs.getD i af)) : CC (Ji o n) := by
 refine ap.vc (V := TT 5 (CC (EX o n)∧TT 2 (CD ((((aK o n o.chans.length).length : Nat) : Int) > 0) (TT 2 (false = (cP o n))) (TT 1 (CC (Hx n)∧TT 5 (GO (ex o n) 0 (∀ k,(ex o n).inv k → TT 1 (CD ((k : Int) < (o.chans.length : Int)) (IX (k : Int) o.chans.length∧TT 8 (CD (((o.chans.getD k ax).cap) = 0) (TT 6 (((cg (i6 0) (fo false ((aa .i64) 0)))∧(false = false → ∀ p ∈ (bW [] (a6 n) n.chans.length),((aa .i64) p.2).length = 1))∧IX (ah 0 (bW [] (a6 n) n.chans.length) ((o.chans.getD k ax).name)) n.chans.length∧TT 3 (CS (((n.chans.getD ((ah 0 (bW [] (a6 n) n.chans.length) ((o.chans.getD k ax).name)).toNat) ax).cap) > 0) (TT 2 ((True∧(decide (((n.chans.getD ((ah 0 (bW [] (a6 n) n.chans.length) ((o.chans.getD k ax).name)).toNat) ax).cap) > 0)) = true)∧TT 4 (CD (((n.chans.getD ((ah 0 (bW [] (a6 n) n.chans.length) ((o.chans.getD k ax).name)).toNat) ax).cap) < 8) (TT 2 (false = (cP o n))) (W6 ((k + 1 : Nat) : Int)∧TT 1 (AG (ex o n) k (k + 1)))))) (TT 2 ((True∧(decide (((n.chans.getD ((ah 0 (bW [] (a6 n) n.chans.length) ((o.chans.getD k ax).name)).toNat) ax).cap) > 0)) = false)∧TT 4 (W6 ((k + 1 : Nat) : Int)∧TT 1 (AG (ex o n) k (k + 1)))))))) (TT 5 (((cg (i6 0) (fo false ((aa .i64) 0)))∧(false = false → ∀ p ∈ (bW [] (a6 n) n.chans.length),((aa .i64) p.2).length = 1))∧IX (ah 0 (bW [] (a6 n) n.chans.length) ((o.chans.getD k ax).name)) n.chans.length∧TT 3 (CS (((n.chans.getD ((ah 0 (bW [] (a6 n) n.chans.length) ((o.chans.getD k ax).name)).toNat) ax).cap) > 0) (TT 2 ((True∧(decide (((n.chans.getD ((ah 0 (bW [] (a6 n) n.chans.length) ((o.chans.getD k ax).name)).toNat) ax).cap) > 0)) = true)∧TT 4 (CD (((n.chans.getD ((ah 0 (bW [] (a6 n) n.chans.length) ((o.chans.getD k ax).name)).toNat) ax).cap) < ((o.chans.getD k ax).cap)) (TT 2 (false = (cP o n))) (W6 ((k + 1 : Nat) : Int)∧TT 1 (AG (ex o n) k (k + 1)))))) (TT 2 ((True∧(decide (((n.chans.getD ((ah 0 (bW [] (a6 n) n.chans.length) ((o.chans.getD k ax).name)).toNat) ax).cap) > 0)) = false)∧TT 4 (W6 ((k + 1 : Nat) : Int)∧TT 1 (AG (ex o n) k (k + 1)))))))))) (TT 4 (GO (jX o n) 0 (∀ i,(jX o n).inv i → TT 1 (CD ((i : Int) < (o.procs.length : Int)) (IX (i : Int) o.procs.length∧TT 8 (GO (il o n i) (0,af) (∀ r q,(il o n i).inv (r,q) → TT 1 (CD ((r : Int) < (n.procs.length : Int)) (IX (r : Int) n.procs.length∧TT 8 (CB (((n.procs.getD r af).name).toList == ((o.procs.getD i af).name).toList) (TT 2 (W6 ((r + 1 : Nat) : Int)∧TT 1 (AG (il o n i) (r,q) (r + 1,(n.procs.getD r af))))) (W6 ((r + 1 : Nat) : Int)∧TT 1 (AG (il o n i) (r,q) (r + 1,q))))) (TT 2 (CC (KA (o.procs.getD i af) q)∧TT 1 (CB (!(iQ (o.procs.getD i af) q)) (TT 2 (false = (cP o n))) (W6 ((i + 1 : Nat) : Int)∧TT 1 (AG (jX o n) i (i + 1)))))))))) (TT 2 (true = (cP o n))))))))))))))) (.w 1 [(2,(EX o n).O)] <| .b 19 (.e) (.w 3 [(1,(Hx n).O)] <| .l (ex o n) 0 (fun k => .b 26 (.b 32 (.s 11 (((n.chans.getD ((ah 0 (bW [] (a6 n) n.chans.length) ((o.chans.getD k ax).name)).toNat) ax).cap) > 0) (.w 11 [(2,.val (dB true))] <| .b 48 (.e) (.w 13 [(0,.val (i6 ((k + 1 : Nat) : Int)))] <| .e)) (.w 11 [(2,.val (dB false))] <| .w 13 [(0,.val (i6 ((k + 1 : Nat) : Int)))] <| .e)) (.s 11 (((n.chans.getD ((ah 0 (bW [] (a6 n) n.chans.length) ((o.chans.getD k ax).name)).toNat) ax).cap) > 0) (.w 11 [(2,.val (dB true))] <| .b 48 (.e) (.w 13 [(0,.val (i6 ((k + 1 : Nat) : Int)))] <| .e)) (.w 11 [(2,.val (dB false))] <| .w 13 [(0,.val (i6 ((k + 1 : Nat) : Int)))] <| .e))) (.l (jX o n) 0 (fun i => .b 54 (.g 18 3 2 66 13 bM aO <| .g 18 3 3 70 27 cj aB <| .g 18 3 4 144 9 dJ bO <| .g 18 3 5 76 16 dD bV <| .f 18 4 <| .f 18 5 <| .f 18 6 <| .f 18 7 <| .l (il o n i) (0,af) (fun ⟨r,q⟩ => .b 61 (.b 68 (.w 23 [(0,.val (i6 ((r + 1 : Nat) : Int)))] <| .e) (.w 23 [(0,.val (i6 ((r + 1 : Nat) : Int)))] <| .e)) (.w 24 [(2,(KA (o.procs.getD i af) q).O)] <| .b 74 (.e) (.w 26 [(0,.val (i6 ((i + 1 : Nat) : Int)))] <| .e)))) (.e)))))) Try.func16 rfl rfl rfl (by kernel_rfl) ?_
 refine tt ⟨(ln o n h1 h2),tt (cd (fun hc19 => ?_) (fun hc19 => ?_))⟩
 · refine tt ?_
   first | exact (jk (by omega)).symm | exact (jl (i := k) (by omega) (by assumption) (by first | (rw [jV (by assumption)]; assumption) | (rw [jW (by assumption)]; assumption))).symm | exact (gL (i := i) (by omega) (by simpa [kh,kg,hq,hre] using hc74)).symm | exact (jm (by omega) (fun z hz => hrm z (by omega)) (fun z hz => hkp z (by omega))).symm
 · refine tt ⟨(mW n (by omega)),tt ⟨rfl,⟨by omega,fun z hz => by omega⟩,?_⟩⟩
   intro k hinv
   obtain ⟨hk,hrm⟩ := hinv
   refine tt (cd (fun hc26 => ?_) (fun hc26 => ?_))
   · have hxb := DI hc19 (k := k) (by omega)
     refine ⟨ix,tt (cd (fun hc32 => ?_) (fun hc32 => ?_))⟩
     · refine tt ⟨⟨(cg.refl _),(fun _ _ _ => rfl)⟩,⟨ix,tt ⟨fun hs0 => ?_,fun hs0 => ?_⟩⟩⟩
       · refine tt ⟨(vT hs0),tt (cd (fun hc48 => ?_) (fun hc48 => ?_))⟩
         · refine tt ?_
           first | exact (jk (by omega)).symm | exact (jl (i := k) (by omega) (by assumption) (by first | (rw [jV (by assumption)]; assumption) | (rw [jW (by assumption)]; assumption))).symm | exact (gL (i := i) (by omega) (by simpa [kh,kg,hq,hre] using hc74)).symm | exact (jm (by omega) (fun z hz => hrm z (by omega)) (fun z hz => hkp z (by omega))).symm
         · refine ⟨w6,tt ⟨(k + 1),rfl,?_,(?_ : o.chans.length - (k + 1) < o.chans.length - k)⟩⟩
           · exact ⟨by omega,bf hrm (by first | exact vC (by assumption) | exact vD (by first | (rw [jV (by assumption)]; assumption) | (rw [jW (by assumption)]; assumption)))⟩
           · omega
       · refine tt ⟨(vF hs0),tt ⟨w6,tt ⟨(k + 1),rfl,?_,(?_ : o.chans.length - (k + 1) < o.chans.length - k)⟩⟩⟩
         · exact ⟨by omega,bf hrm (by first | exact vC (by assumption) | exact vD (by first | (rw [jV (by assumption)]; assumption) | (rw [jW (by assumption)]; assumption)))⟩
         · omega
     · refine tt ⟨⟨(cg.refl _),(fun _ _ _ => rfl)⟩,⟨ix,tt ⟨fun hs1 => ?_,fun hs1 => ?_⟩⟩⟩
       · refine tt ⟨(vT hs1),tt (cd (fun hc48 => ?_) (fun hc48 => ?_))⟩
         · refine tt ?_
           first | exact (jk (by omega)).symm | exact (jl (i := k) (by omega) (by assumption) (by first | (rw [jV (by assumption)]; assumption) | (rw [jW (by assumption)]; assumption))).symm | exact (gL (i := i) (by omega) (by simpa [kh,kg,hq,hre] using hc74)).symm | exact (jm (by omega) (fun z hz => hrm z (by omega)) (fun z hz => hkp z (by omega))).symm
         · refine ⟨w6,tt ⟨(k + 1),rfl,?_,(?_ : o.chans.length - (k + 1) < o.chans.length - k)⟩⟩
           · exact ⟨by omega,bf hrm (by first | exact vC (by assumption) | exact vD (by first | (rw [jV (by assumption)]; assumption) | (rw [jW (by assumption)]; assumption)))⟩
           · omega
       · refine tt ⟨(vF hs1),tt ⟨w6,tt ⟨(k + 1),rfl,?_,(?_ : o.chans.length - (k + 1) < o.chans.length - k)⟩⟩⟩
         · exact ⟨by omega,bf hrm (by first | exact vC (by assumption) | exact vD (by first | (rw [jV (by assumption)]; assumption) | (rw [jW (by assumption)]; assumption)))⟩
         · omega
   · refine tt ⟨rfl,⟨by omega,fun z hz => by omega⟩,?_⟩
     intro i hinv
     obtain ⟨hi,hkp⟩ := hinv
     refine tt (cd (fun hc54 => ?_) (fun hc54 => ?_))
     · refine ⟨ix,tt ⟨rfl,⟨by omega,rfl⟩,?_⟩⟩
       intro r q hinv
       obtain ⟨hr,hq⟩ := hinv
       refine tt (cd (fun hc61 => ?_) (fun hc61 => ?_))
       · refine ⟨ix,tt ⟨fun hc68 => ?_,fun hc68 => ?_⟩⟩
         · refine tt ⟨w6,tt ⟨(r + 1,(n.procs.getD r af)),rfl,?_,(?_ : n.procs.length - (r + 1) < n.procs.length - r)⟩⟩
           · exact ⟨by omega,by first | exact (w5 hc68).symm | (rw [hq]; exact z8 hc68)⟩
           · omega
         · refine ⟨w6,tt ⟨(r + 1,q),rfl,?_,(?_ : n.procs.length - (r + 1) < n.procs.length - r)⟩⟩
           · exact ⟨by omega,by first | exact (w5 hc68).symm | (rw [hq]; exact z8 hc68)⟩
           · omega
       · have hre : r = n.procs.length := by omega
         have hpl : FS q := by rw [hq]; exact Aa hn r hr
         have hpo := ho i (by omega)
         refine tt ⟨(HM (o.procs.getD i af) q hpo.1 hpo.2 hpl.1 hpl.2),tt ⟨fun hc74 => ?_,fun hc74 => ?_⟩⟩
         · refine tt ?_
           first | exact (jk (by omega)).symm | exact (jl (i := k) (by omega) (by assumption) (by first | (rw [jV (by assumption)]; assumption) | (rw [jW (by assumption)]; assumption))).symm | exact (gL (i := i) (by omega) (by simpa [kh,kg,hq,hre] using hc74)).symm | exact (jm (by omega) (fun z hz => hrm z (by omega)) (fun z hz => hkp z (by omega))).symm
         · refine ⟨w6,tt ⟨(i + 1),rfl,?_,(?_ : o.procs.length - (i + 1) < o.procs.length - i)⟩⟩
           · exact ⟨by omega,bf hkp (by simpa [kh,kg,hq,hre] using hc74)⟩
           · omega
     · refine tt ?_
       first | exact (jk (by omega)).symm | exact (jl (i := k) (by omega) (by assumption) (by first | (rw [jV (by assumption)]; assumption) | (rw [jW (by assumption)]; assumption))).symm | exact (gL (i := i) (by omega) (by simpa [kh,kg,hq,hre] using hc74)).symm | exact (jm (by omega) (fun z hz => hrm z (by omega)) (fun z hz => hkp z (by omega))).symm
def oo (c : Ci) (k : ByteArray) : Int := cb (fun i => (c.chans.getD i ax).name.toList == k.toList) c.chans.length
def BB (o n : Ci) (i : Nat) : Bool := decide (oo n (a6 o i) < 0) || !decide ((n.chans.getD (oo n (a6 o i)).toNat ax).w = (o.chans.getD i ax).w)
def GS (o n : Ci) : Nat → List ByteArray
 | 0 => []
 | i + 1 => GS o n i ++ (if BB o n i = true then [a6 o i] else [])
theorem KC {o n : Ci} {i : Nat} (h : oo n (a6 o i) < 0) : BB o n i = true := by unfold BB; rw [decide_eq_true h]; rfl
def DJ (q : Pr) (k : ByteArray) : Int := cb (fun i => (q.regs.getD i aO).name.toList == k.toList) q.regs.length
def BC (q : Pr) (k : ByteArray) : Int := cb (fun i => (q.mems.getD i aB).name.toList == k.toList) q.mems.length
def FT (c : Ci) (k : ByteArray) : Int := cb (fun i => (c.procs.getD i af).name.toList == k.toList) c.procs.length
end Go.Proofs.Ytnlmlkbaflmgcaa
