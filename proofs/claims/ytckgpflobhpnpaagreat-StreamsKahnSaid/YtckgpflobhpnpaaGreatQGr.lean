/-
  Steps that no code takes: what is known of memory, told otherwise; arrays whose elements own arrays. Generic: over any program.
-/
import Derived.Test.YtckgpflobhpnpaaGreatQDr
namespace Go.Proofs.YtckgpflobhpnpaaGreat
open Go.RowKit
set_option linter.unusedVariables false
set_option linter.unusedSimpArgs false
def Gh (st st':St):Prop:=∀(C:lC) (S:Nat→Prop) (μ:Nat→Value) (a:Act) (w:World), aX C S μ st a w→∃S' μ', aX C S' μ' st' a w
structure Fs:Type 1 where
 F:St→St×Prop
 ok:∀st, (F st).2→Gh st (F st).1
section
variable {C:lC} {S:Nat→Prop} {μ μ':Nat→Value} {st:St} {a:Act} {w:World}
theorem aX.retell (h:aX C S μ st a w) {env':List (Nat×D)} {H':List aq} (henv:∀t d, (t, d)∈env'→∃e, (t, e)∈st.env∧∀u, ak S μ w e u→ak S μ' w d u)
  (hbox:∀(i:Nat) (B:aq), H'[i]?=some B→aJ S μ' w (μ' i) B)
  (hown:∀(i:Nat) (B:aq) (b:Nat), H'[i]?=some B→B.live=true→bE (μ' i) b→∃(j:Nat) (A:aq), st.heap[j]?=some A∧A.live=true∧bE (μ j) b)
  (hap:∀(i j:Nat) (A B:aq) (b:Nat), H'[i]?=some A→H'[j]?=some B→A.live=true→B.live=true→bE (μ' i) b→bE (μ' j) b→i=j)
  (hro:∀(i:Nat) (B:aq), H'[i]?=some B→B.isRo=true→st.heap[i]?=some B∧μ' i=μ i):aX C S μ' ⟨env', H'⟩ a w:=by
 refine⟨h.os, h.tape, h.output, h.size, h.old, h.mono, h.new, h.slt, fun t d hm=>?_, ⟨hbox, hap, fun i A b hA la hb=>?_⟩, fun i A b hA la hb=>?_, ?_, h.tsize, fun i A b hA la hb=>?_⟩
 ·obtain⟨e, h1, h2⟩:=henv t d hm
  obtain⟨q1, q2⟩:=h.env t e h1
  exact⟨q1, h2 _ q2⟩
 ·obtain⟨j, B, h1, h2, h3⟩:=hown i A b hA la hb
  exact h.heap.notS j B b h1 h2 h3
 ·obtain⟨j, B, h1, h2, h3⟩:=hown i A b hA la hb
  exact h.may j B b h1 h2 h3
 ·obtain⟨mk, d1, d2, d3⟩:=h.defers
  refine⟨mk, d1, d2, fun b hb=>?_⟩
  obtain⟨q1, q2, q3, q4⟩:=d3 b hb
  refine⟨q1, q2, q3, fun i A hA hl hbi=>?_⟩
  obtain⟨j, B, h1, h2, h3⟩:=hown i A b hA hl hbi
  exact q4 j B h1 h2 h3
 ·obtain⟨h1, h2⟩:=hro i A hA la
  rw[h2]at hb
  exact h.ro i A b h1 la hb
theorem aX.boxTo2 (h:aX C S μ st a w) {id:Nat} {A B:aq} (hA:st.heap[id]?=some A) (hAl:A.live=true) (hB:aJ S μ w (μ id) B) (hro:B.isRo=false:=by rfl):aX C S μ ⟨st.env, st.heap.set id B⟩ a w:=by
 have hid:id<st.heap.length:=(List.getElem?_eq_some_iff.1 hA).1
 have hg:∀(i:Nat) (X:aq), (st.heap.set id B)[i]?=some X→(i=id∧X=B)∨(i≠id∧st.heap[i]?=some X):=by
  intro i X hX
  by_cases hi:i=id
  ·subst hi
   rw[List.getElem?_set_self hid]at hX
   cases hX
   exact .inl ⟨rfl, rfl⟩
  ·rw[List.getElem?_set_ne (fun e=>hi e.symm)]at hX
   exact .inr ⟨hi, hX⟩
 have hl:∀(i:Nat) (X:aq), (st.heap.set id B)[i]?=some X→X.live=true→∃Y, st.heap[i]?=some Y∧Y.live=true:=by
  intro i X hX hXl
  rcases hg i X hX with ⟨rfl, rfl⟩ | ⟨_, hX'⟩
  ·exact⟨A, hA, hAl⟩
  ·exact⟨X, hX', hXl⟩
 refine h.retell (fun t d hm=>⟨d, hm, fun _ h=>h⟩) (fun i X hX=>?_) (fun i X b hX lX hb=>?_) (fun i k X Y b hX hY lX lY=>?_) (fun i X hX lX=>?_)
 ·rcases hg i X hX with ⟨rfl, rfl⟩ | ⟨_, hX'⟩
  ·exact hB
  ·exact h.heap.box i X hX'
 ·obtain⟨Y, h1, h2⟩:=hl i X hX lX
  exact⟨i, Y, h1, h2, hb⟩
 ·obtain⟨X', q1, q2⟩:=hl i X hX lX
  obtain⟨Y', q3, q4⟩:=hl k Y hY lY
  exact h.heap.apart i k X' Y' b q1 q3 q2 q4
 ·rcases hg i X hX with ⟨rfl, rfl⟩ | ⟨_, hX'⟩
  ·rw[hro]at lX;cases lX
  ·exact⟨hX', rfl⟩
theorem Gh.trans {st1 st2 st3:St} (h1:Gh st1 st2) (h2:Gh st2 st3):Gh st1 st3:=fun C S μ a w h=>by
 obtain⟨S1, μ1, h'⟩:=h1 C S μ a w h
 exact h2 C S1 μ1 a w h'
theorem Gh.kill (id:Nat) (st:St):Gh st (st.kill id):=fun C S μ a w h=>⟨S, μ, h.kill id⟩
def iL {α:Type} (enc:α→List V) (d:α) (l:List α) (i j:Nat):D:=.v ((enc (l.getD i d)).getD j .nilf)
def HU (id:Nat) (st:St):St×Prop:=match st.heap[id]? with
 | some (.arr E sz enc d l)=>(⟨st.env, st.heap.set id (.arrD E sz l.length [] (iL enc d l))⟩, True)
 | _=>(st, False)
theorem J1 (id:Nat) (st:St) (hp:(HU id st).2):Gh st (HU id st).1:=fun C S μ a w h=>by
 unfold HU at hp ⊢
 split
 ·rename_i E sz α enc d l hb
  refine⟨S, μ, h.boxTo2 hb rfl ?_⟩
  obtain⟨r0, xs, r1, r2⟩:=h.heap.box id _ hb
  refine⟨fun i j k hi hj _=>rfl, xs, r1, fun i j hi hj=>?_⟩
  have hx0:l[i]?=some (l.getD i d):=by rw[d9 _ _ hi];exact List.getElem?_eq_getElem hi
  have hel:=r0 i _ hx0
  have hj':j<(enc (l.getD i d)).length:=by omega
  have hy:(enc (l.getD i d))[j]?=some ((enc (l.getD i d)).getD j .nilf):=by
   generalize enc (l.getD i d)=q at hj' ⊢
   rw[List.getD_eq_getElem?_getD, List.getElem?_eq_getElem hj']
   rfl
  obtain⟨z, hz, hr⟩:=r2 i _ j _ hx0 hy
  exact⟨z, hz, hr.one, .v _ _ hr⟩
 ·rename_i hn
  split at hp
  ·rename_i E sz α enc d l hb;exact(hn _ _ _ _ _ _ hb).elim
  ·exact hp.elim
def M8 (id:Nat):Fs:=⟨HU id, J1 id⟩
def HV (id:Nat) {α:Type} (enc:α→List V) (d:α) (l:List α) (st:St):St×Prop:=match st.heap[id]? with
 | some (.arrD E sz n _ cell)=>(⟨st.env, st.heap.set id (.arr E sz enc d l)⟩, l.length=n∧(∀x∈l, (enc x).length=sz)∧∀i j, i<n→j<sz→cell i j=iL enc d l i j)
 | _=>(st, False)
theorem J2 (id:Nat) {α:Type} (enc:α→List V) (d:α) (l:List α) (st:St) (hp:(HV id enc d l st).2):Gh st (HV id enc d l st).1:=fun C S μ a w h=>by
 unfold HV at hp ⊢
 split
 ·rename_i E sz n gs cell hb
  rw[hb]at hp
  obtain⟨rfl, p1, p2⟩:=hp
  refine⟨S, μ, h.boxTo2 hb rfl ?_⟩
  obtain⟨r0, xs, r1, r2⟩:=h.heap.box id _ hb
  refine⟨fun i x hx=>p1 x (List.mem_of_getElem? hx), xs, r1, fun i x j y hx hy=>?_⟩
  have hi:=(List.getElem?_eq_some_iff.1 hx).1
  have hj:=(List.getElem?_eq_some_iff.1 hy).1
  rw[p1 x (List.mem_of_getElem? hx)]at hj
  obtain⟨z, hz, _, hr⟩:=r2 i j hi hj
  rw[p2 i j hi hj]at hr
  have hx0:l.getD i d=x:=by rw[List.getD_eq_getElem?_getD, hx];rfl
  unfold iL at hr
  rw[hx0, List.getD_eq_getElem?_getD, hy]at hr
  exact⟨z, hz, bg hr⟩
 ·rename_i hn
  split at hp
  ·rename_i E sz n gs cell hb;exact(hn _ _ _ _ _ hb).elim
  ·exact hp.elim
def LO (id:Nat) {α:Type} (enc:α→List V) (d:α) (l:List α):Fs:=⟨HV id enc d l, J2 id enc d l⟩
def HW (id n':Nat) (gs':List Nat) (cell':Nat→Nat→D) (st:St):St×Prop:=match st.heap[id]? with
 | some (.arrD E sz n gs cell)=>(⟨st.env, st.heap.set id (.arrD E sz n' gs' cell')⟩, n'=n∧∀i j, i<n'→j<sz→cell' i j=cell i j∧∀k, gs'.all (fun g=>!(Nat.beq g k))=true→(cell' i j).free k=true)
 | _=>(st, False)
theorem J3 (id n':Nat) (gs':List Nat) (cell':Nat→Nat→D) (st:St) (hp:(HW id n' gs' cell' st).2):Gh st (HW id n' gs' cell' st).1:=fun C S μ a w h=>by
 unfold HW at hp ⊢
 split
 ·rename_i E sz n gs cell hb
  rw[hb]at hp
  obtain⟨rfl, hp⟩:=hp
  refine⟨S, μ, h.boxTo2 hb rfl ?_⟩
  obtain⟨r0, xs, r1, r2⟩:=h.heap.box id _ hb
  refine⟨fun i j k hi hj hk=>(hp i j hi hj).2 k hk, xs, r1, fun i j hi hj=>?_⟩
  rw[(hp i j hi hj).1]
  exact r2 i j hi hj
 ·rename_i hn
  split at hp
  ·rename_i E sz n gs cell hb;exact(hn _ _ _ _ _ hb).elim
  ·exact hp.elim
def jE (id n':Nat) (gs':List Nat) (cell':Nat→Nat→D):Fs:=⟨HW id n' gs' cell', J3 id n' gs' cell'⟩
def HX (g m':Nat) (f':Nat→rH) (st:St):St×Prop:=match st.heap[g]? with
 | some (.grp m f)=>(⟨st.env, st.heap.set g (.grp m' f')⟩, m'=m∧∀k, k<m'→f' k=f k)
 | _=>(st, False)
theorem J4 (g m':Nat) (f':Nat→rH) (st:St) (hp:(HX g m' f' st).2):Gh st (HX g m' f' st).1:=fun C S μ a w h=>by
 unfold HX at hp ⊢
 split
 ·rename_i m f hb
  rw[hb]at hp
  obtain⟨rfl, hp⟩:=hp
  refine⟨S, μ, h.boxTo2 hb rfl ?_⟩
  obtain⟨us, h0, h1, h2, h3⟩:=h.heap.box g _ hb
  refine⟨us, h0, h1, fun r v hv=>?_, h3⟩
  have hr:=(Array.getElem?_eq_some_iff.1 hv).1
  rw[hp r (by omega)]
  exact h2 r v hv
 ·rename_i hn
  split at hp
  ·rename_i m f hb;exact(hn _ _ hb).elim
  ·exact hp.elim
def Ft (g m':Nat) (f':Nat→rH):Fs:=⟨HX g m' f', J4 g m' f'⟩
def Cu (f:Nat→rH) (st:St):St×Prop:=if bN st.heap.length st.env&&bx st.heap.length st.heap then (⟨st.env, st.heap++[.grp 0 f]⟩, True)else (st, False)
theorem HY (f:Nat→rH) (st:St) (hp:(Cu f st).2):Gh st (Cu f st).1:=fun C S μ a w h=>by
 unfold Cu at hp ⊢
 split
 ·rename_i hc
  simp only[Bool.and_eq_true]at hc
  have:=h.upd0 (id:=st.heap.length) (B:=.grp 0 f) (row:=none) (u:=.tuple #[]) (kD w) (fun k hk=>by cases hk) (Nat.le_refl _)
   ⟨#[], rfl, rfl, fun r v hv=>by simp at hv, fun r r' v v' b hv=>by simp at hv⟩ (fun b hb=>by
    rcases hb with hb | ⟨us, e, k, x, hk, _⟩
    ·cases hb
    ·cases e;simp at hk) (.inr hc)
  rw[show bG st.heap st.heap.length (.grp 0 f)=st.heap++[.grp 0 f]from by simp[bG]]at this
  exact⟨_, _, this⟩
 ·rename_i hc
  rw[if_neg hc]at hp
  exact hp.elim
def M9 (f:Nat→rH):Fs:=⟨Cu f, HY f⟩
def Fu (g r q:Nat) (c c':D):Prop:=(c=.gr g r∧c'=.own q)∨(c'=c∧((∃r', c=.gr g r'∧r'≠r)∨(∃x, c=.v x)∨(c=.nils)∨∃p, c=.own p∧p≠q∧p≠g))
def rH.box (x:rH):aq:=.arr x.E x.sz x.enc x.d x.l
def oO (x:rH):rH:=⟨x.E, x.sz, x.α, x.enc, x.d, []⟩
def pQ (f:Nat→rH) (r:Nat) (x:rH):Nat→rH:=fun i=>if i=r then x else f i
def Cv (a g r:Nat) (cell':Nat→Nat→D) (st:St):St×Prop:=match st.heap[a]?, st.heap[g]? with
 | some (.arrD E sz n gs cell), some (.grp m f) =>
  if bN st.heap.length st.env&&bx st.heap.length st.heap then
   (⟨l6 g st.env, (((bX g st.heap).set a (.arrD E sz n (st.heap.length::gs) cell')).set g (.grp m (pQ f r (oO (f r)))))++[(f r).box]⟩,
    r<m∧∀i j, i<n→j<sz→Fu g r st.heap.length (cell i j) (cell' i j))
  else (st, False)
 | _, _=>(st, False)
theorem Fv (S:Nat→Prop) (w:World) (x:rH):rI S w (.slice none 0 0) (oO x) :=
 ⟨fun i y hy=>(List.not_mem_nil (List.mem_of_getElem? (show([]:List x.α)[i]?=some y from hy))).elim, [], World.ownsRow_nil w 0 _ _, fun i z j y hz=>(List.not_mem_nil (List.mem_of_getElem? (show([]:List x.α)[i]?=some z from hz))).elim⟩
theorem ak.two {d:D} {u x y:Value} {g q:Nat} (h:ak S μ w d u) (hq:D.free q d=true):ak S (aV (aV μ q x) g y) w (Proofs.YtckgpflobhpnpaaGreat.killD g d) u:=by
 have h1:ak S (aV μ q x) w d u:=h.stable (fun _ h _=>h) (fun _ _ _=>rfl) (Nat.le_refl _) (fun id hid=>aF _ _ (fun e=>by rw[e, hq]at hid;cases hid))
 exact(h1.killD (id:=g)).stable (fun _ h _=>h) (fun _ _ _=>rfl) (Nat.le_refl _) (fun id hid=>aF _ _ (fun e=>by rw[e, kz]at hid;cases hid))
theorem wx (g:Nat) (B:aq):aq.free g (B.kill g)=true:=by
 have:=pG g [B]
 simp only[bX, bx, Bool.and_true]at this
 exact this
theorem aJ.two {B:aq} {u x y:Value} {g q:Nat} (h:aJ S μ w u B) (hq:aq.free q B=true):aJ S (aV (aV μ q x) g y) w u (B.kill g):=by
 have h1:aJ S (aV μ q x) w u B:=h.stable (fun _ h _=>h) (fun _ _ _=>rfl) (Nat.le_refl _) (fun id hid=>aF _ _ (fun e=>by rw[e, hq]at hid;cases hid)) (fun _ _=>rfl)
 exact(h1.kill (id:=g)).stable (fun _ h _=>h) (fun _ _ _=>rfl) (Nat.le_refl _) (fun id hid=>aF _ _ (fun e=>by rw[e, wx]at hid;cases hid)) (fun _ _=>rfl)
theorem xJ {g r:Nat} {u:Value} (h:ak S μ w (.gr g r) u):∃us:Array Value, μ g=.tuple us∧us[r]?=some u∧u.oneCell'=true:=by
 cases h with
 | gr _ _ us _ h1 h2 h3=>exact⟨us, h1, h2, h3⟩
theorem Fw {H:List aq} {g a i:Nat} {A G X B:aq} (ha:a<H.length) (hg:g<H.length) (h:(((bX g H).set a A).set g G++[X])[i]?=some B) :
  (i=H.length∧B=X)∨(i=g∧B=G)∨(i=a∧i≠g∧B=A)∨(i≠H.length∧i≠g∧i≠a∧∃B0, H[i]?=some B0∧B=B0.kill g):=by
 have hl:(((bX g H).set a A).set g G).length=H.length:=by rw[List.length_set, List.length_set, bR]
 by_cases hi:i<H.length
 ·rw[List.getElem?_append_left (by omega)]at h
  refine .inr ?_
  by_cases e1:i=g
  ·subst e1
   rw[List.getElem?_set_self (by rw[List.length_set, bR];exact hg)]at h
   cases h
   exact .inl ⟨rfl, rfl⟩
  ·rw[List.getElem?_set_ne (fun e=>e1 e.symm)]at h
   refine .inr ?_
   by_cases e2:i=a
   ·subst e2
    rw[List.getElem?_set_self (by rw[bR];exact ha)]at h
    cases h
    exact .inl ⟨rfl, e1, rfl⟩
   ·rw[List.getElem?_set_ne (fun e=>e2 e.symm), eX]at h
    cases hc:H[i]? with
    | none=>rw[hc]at h;cases h
    | some B0=>rw[hc]at h;simp at h;exact .inr ⟨by omega, e1, e2, B0, rfl, h.symm⟩
 ·rw[List.getElem?_append_right (by omega), hl]at h
  have:i=H.length:=by
   have:=(List.getElem?_eq_some_iff.1 h).1
   simp at this
   omega
  subst this
  simp at h
  exact .inl ⟨rfl, h.symm⟩
theorem HZ (a g r:Nat) (cell':Nat→Nat→D) (st:St) (hp:(Cv a g r cell' st).2):Gh st (Cv a g r cell' st).1:=fun C S μ act w h=>by
 unfold Cv at hp ⊢
 split
 rotate_left
 ·rename_i hn
  split at hp
  ·rename_i E sz n gs cell m f h1 h2;exact(hn _ _ _ _ _ _ _ h1 h2).elim
  ·exact hp.elim
 rename_i E sz n gs cell m f hba hbg
 rw[hba, hbg]at hp
 split
 rotate_left
 ·rename_i hc;simp only at hp;rw[if_neg hc]at hp;exact hp.elim
 rename_i hc
 simp only at hp
 rw[if_pos hc]at hp
 simp only[Bool.and_eq_true]at hc
 obtain⟨fE, fH⟩:=hc
 obtain⟨hr, hcell⟩:=hp
 generalize hq:st.heap.length=q at *
 have hag:a≠g:=fun e=>by rw[e, hbg]at hba;cases hba
 have hal:a<q:=by rw[← hq];exact(List.getElem?_eq_some_iff.1 hba).1
 have hgl:g<q:=by rw[← hq];exact(List.getElem?_eq_some_iff.1 hbg).1
 obtain⟨us, hus, hsz, hrow, hdis⟩:=h.heap.box g _ hbg
 obtain⟨a0, xs, a1, a2⟩:=h.heap.box a _ hba
 have hrl:r<us.size:=by omega
 obtain⟨hone, hRr⟩:=hrow r us[r] (Array.getElem?_eq_getElem hrl)
 generalize hv:us[r]=v at *
 have hvr:us[r]?=some v:=by rw[Array.getElem?_eq_getElem hrl, hv]
 let us':=us.setIfInBounds r (.slice none 0 0)
 have get':∀k, us'[k]?=if k=r then some (.slice none 0 0)else us[k]?:=by
  intro k
  by_cases hk:k=r
  ·subst hk;rw[if_pos rfl];simp[us', hrl]
  ·rw[if_neg hk];simp only[us'];exact Array.getElem?_setIfInBounds_ne (fun e=>hk e.symm)
 have get:∀(i:Nat) (B:aq), ((((bX g st.heap).set a (.arrD E sz n (q::gs) cell')).set g (.grp m (pQ f r (oO (f r)))))++[(f r).box])[i]?=some B→_:=fun i B hB=>Fw (by rw[hq];exact hal) (by rw[hq];exact hgl) hB
 rw[hq]at get
 have mq:aV (aV μ q v) g (.tuple us') q=v:=by rw[aF _ _ (by omega), av]
 have mg:aV (aV μ q v) g (.tuple us') g=.tuple us':=av _ _ _
 have mo:∀i, i≠g→i≠q→aV (aV μ q v) g (.tuple us') i=μ i:=fun i h1 h2=>by rw[aF _ _ h1, aF _ _ h2]
 have own:∀(i:Nat) (B:aq) (b:Nat), ((((bX g st.heap).set a (.arrD E sz n (q::gs) cell')).set g (.grp m (pQ f r (oO (f r)))))++[(f r).box])[i]?=some B→B.live=true→bE (aV (aV μ q v) g (.tuple us') i) b →
   (i=q∧aG v=some b)∨(i=g∧∃k x, k≠r∧us[k]?=some x∧aG x=some b)∨(i≠q∧i≠g∧∃A, st.heap[i]?=some A∧A.live=true∧bE (μ i) b):=by
  intro i B b hB hl hb
  rcases get i B hB with ⟨rfl, rfl⟩ | ⟨rfl, rfl⟩ | ⟨rfl, hne, rfl⟩ | ⟨h1, h2, h3, B0, hB0, rfl⟩
  ·rw[mq]at hb
   exact .inl ⟨rfl, hb.bl hone⟩
  ·rw[mg]at hb
   rcases hb with hb | ⟨us2, e, k, x, hk, hx⟩
   ·cases hb
   ·cases e
    rw[get']at hk
    split at hk
    ·cases hk;cases hx
    ·rename_i hkr;exact .inr (.inl ⟨rfl, k, x, hkr, hk, hx⟩)
  ·rw[mo i hne (by omega)]at hb
   exact .inr (.inr ⟨by omega, hne, _, hba, rfl, hb⟩)
  ·rw[mo i h2 h1]at hb
   rw[ed]at hl
   exact .inr (.inr ⟨h1, h2, B0, hB0, hl, hb⟩)
 have inG:∀(k:Nat) (x:Value) (b:Nat), us[k]?=some x→aG x=some b→bE (μ g) b:=fun k x b hk hx=>.inr ⟨us, hus, k, x, hk, hx⟩
 refine⟨S, aV (aV μ q v) g (.tuple us'), h.retell ?_ ?_ ?_ ?_ ?_⟩
 ·intro t d hm
  obtain⟨e, he, rfl⟩:=fZ hm
  exact⟨e, he, fun u hu=>hu.two (b5 fE he)⟩
 ·intro i B hB
  rcases get i B hB with ⟨rfl, rfl⟩ | ⟨rfl, rfl⟩ | ⟨rfl, hne, rfl⟩ | ⟨h1, h2, h3, B0, hB0, rfl⟩
  ·rw[mq];exact hRr
  ·rw[mg]
   refine⟨us', rfl, by simp[us', hsz], fun k x hk=>?_, fun k k' x x' b hk hk' hx hx'=>?_⟩
   ·rw[get']at hk
    split at hk
    ·rename_i e
     cases hk
     subst e
     refine⟨rfl, ?_⟩
     rw[show pQ f k (oO (f k)) k=oO (f k)from if_pos rfl]
     exact Fv S w (f k)
    ·rename_i e
     rw[show pQ f r (oO (f r)) k=f k from if_neg e]
     exact hrow k x hk
   ·rw[get']at hk hk'
    split at hk
    ·cases hk;cases hx
    ·split at hk'
     ·cases hk';cases hx'
     ·exact hdis k k' x x' b hk hk' hx hx'
  ·rw[mo i hne (by omega)]
   refine⟨fun j k id hj hk hid=>?_, xs, a1, fun j k hj hk=>?_⟩
   ·simp only[List.all_cons, Bool.and_eq_true]at hid
    rcases hcell j k hj hk with ⟨_, e⟩ | ⟨e, _⟩
    ·rw[e];exact hid.1
    ·rw[e];exact a0 j k id hj hk hid.2
   ·obtain⟨z, hz, ho, hd⟩:=a2 j k hj hk
    refine⟨z, hz, ho, ?_⟩
    rcases hcell j k hj hk with ⟨e1, e2⟩ | ⟨e, hc⟩
    ·rw[e1]at hd
     obtain⟨us2, g1, g2, _⟩:=xJ hd
     rw[hus]at g1
     cases g1
     rw[hvr]at g2
     cases g2
     rw[e2]
     have:=ak.own (S:=S) (μ:=aV (aV μ q v) g (.tuple us')) (w:=w) q
     rwa [mq]at this
    ·rw[e]
     rcases hc with ⟨r', e1, e2⟩ | ⟨x, e1⟩ | e1 | ⟨p, e1, e2, e3⟩
     ·rw[e1]at hd ⊢
      obtain⟨us2, g1, g2, g3⟩:=xJ hd
      rw[hus]at g1
      cases g1
      exact .gr g r' us' z mg (by rw[get', if_neg e2];exact g2) g3
     ·rw[e1]at hd ⊢
      exact .v _ _ (bg hd)
     ·rw[e1]at hd ⊢
      cases hd
      exact .nils
     ·rw[e1]at hd ⊢
      have hu:=bQ hd
      have:=ak.own (S:=S) (μ:=aV (aV μ q v) g (.tuple us')) (w:=w) p
      rw[mo p e3 e2]at this
      rw[hu]
      exact this
  ·rw[mo i h2 h1]
   exact(h.heap.box i B0 hB0).two (b7 fH hB0)
 ·intro i B b hB hl hb
  rcases own i B b hB hl hb with ⟨rfl, hv'⟩ | ⟨rfl, k, x, _, hk, hx⟩ | ⟨_, _, A, hA, hAl, hb⟩
  ·exact⟨g, _, hbg, rfl, inG r v b hvr hv'⟩
  ·exact⟨i, _, hbg, rfl, inG k x b hk hx⟩
  ·exact⟨i, A, hA, hAl, hb⟩
 ·intro i j A B b hA hB lA lB hbi hbj
  rcases own i A b hA lA hbi with ⟨rfl, hv1⟩ | ⟨rfl, k, x, hkr, hk, hx⟩ | ⟨n1, n2, A0, hA0, hl0, hb0⟩<;>rcases own j B b hB lB hbj with ⟨rfl, hv2⟩ | ⟨rfl, k', x', hkr', hk', hx'⟩ | ⟨n3, n4, B0, hB0, hl0', hb0'⟩
  ·rfl
  ·exact(hkr' (hdis r k' v x' b hvr hk' hv1 hx').symm).elim
  ·exact(n4 (h.heap.apart j g B0 _ b hB0 hbg hl0' rfl hb0' (inG r v b hvr hv1))).elim
  ·exact(hkr (hdis k r x v b hk hvr hx hv2)).elim
  ·rfl
  ·exact(n4 (h.heap.apart j i B0 _ b hB0 hbg hl0' rfl hb0' (inG k x b hk hx))).elim
  ·exact(n2 (h.heap.apart i g A0 _ b hA0 hbg hl0 rfl hb0 (inG r v b hvr hv2))).elim
  ·exact(n2 (h.heap.apart i j A0 _ b hA0 hbg hl0 rfl hb0 (inG k' x' b hk' hx'))).elim
  ·exact h.heap.apart i j A0 B0 b hA0 hB0 hl0 hl0' hb0 hb0'
 ·intro i B hB hro
  rcases get i B hB with ⟨rfl, rfl⟩ | ⟨rfl, rfl⟩ | ⟨rfl, hne, rfl⟩ | ⟨h1, h2, h3, B0, hB0, rfl⟩
  ·cases hro
  ·cases hro
  ·cases hro
  ·rw[nk]at hro
   rw[show B0.kill g=B0 from by cases B0<;>first | rfl | cases hro]
   exact⟨hB0, mo i h2 h1⟩
def take (a g r:Nat) (cell':Nat→Nat→D):Fs:=⟨Cv a g r cell', HZ a g r cell'⟩
def D1 (g r q:Nat) (c c':D):Prop:=(c=.own q∧c'=.gr g r)∨(c'=c∧((∃r', c=.gr g r'∧r'≠r)∨(∃x, c=.v x)∨(c=.nils)∨∃p, c=.own p∧p≠q∧p≠g))
def H0 (a g q r m':Nat) (cell':Nat→Nat→D) (f':Nat→rH) (st:St):St×Prop:=match st.heap[a]?, st.heap[g]?, st.heap[q]? with
 | some (.arrD E sz n gs cell), some (.grp m f), some (.arr E2 sz2 enc d l) =>
   (⟨l6 q (l6 g st.env), (((bX q (bX g st.heap)).set a (.arrD E sz n (g::gs) cell')).set g (.grp m' f')).set q .dead⟩,
    r≤m∧m'=max m (r+1)∧(∀k, k<m'→f' k=if k=r then ⟨E2, sz2, _, enc, d, l⟩else f k)∧∀i j, i<n→j<sz→D1 g r q (cell i j) (cell' i j))
 | _, _, _=>(st, False)
theorem Fx {H:List aq} {q g a i:Nat} {A G B:aq} (ha:a<H.length) (hg:g<H.length) (hq:q<H.length) (h:((((bX q (bX g H)).set a A).set g G).set q .dead)[i]?=some B) :
  (i=q∧B=.dead)∨(i=g∧i≠q∧B=G)∨(i=a∧i≠g∧i≠q∧B=A)∨(i≠q∧i≠g∧i≠a∧∃B0, H[i]?=some B0∧B=(B0.kill g).kill q):=by
 by_cases e0:i=q
 ·subst e0
  rw[List.getElem?_set_self (by simp only[List.length_set, bR];exact hq)]at h
  cases h
  exact .inl ⟨rfl, rfl⟩
 ·rw[List.getElem?_set_ne (fun e=>e0 e.symm)]at h
  refine .inr ?_
  by_cases e1:i=g
  ·subst e1
   rw[List.getElem?_set_self (by simp only[List.length_set, bR];exact hg)]at h
   cases h
   exact .inl ⟨rfl, e0, rfl⟩
  ·rw[List.getElem?_set_ne (fun e=>e1 e.symm)]at h
   refine .inr ?_
   by_cases e2:i=a
   ·subst e2
    rw[List.getElem?_set_self (by simp only[bR];exact ha)]at h
    cases h
    exact .inl ⟨rfl, e1, e0, rfl⟩
   ·rw[List.getElem?_set_ne (fun e=>e2 e.symm), eX, eX]at h
    cases hc:H[i]? with
    | none=>rw[hc]at h;cases h
    | some B0=>rw[hc]at h;simp at h;exact .inr ⟨e0, e1, e2, B0, rfl, h.symm⟩
theorem J5 (a g q r m':Nat) (cell':Nat→Nat→D) (f':Nat→rH) (st:St) (hp:(H0 a g q r m' cell' f' st).2):Gh st (H0 a g q r m' cell' f' st).1:=fun C S μ act w h=>by
 unfold H0 at hp ⊢
 split
 rotate_left
 ·rename_i hn
  split at hp
  ·rename_i E sz n gs cell m f E2 sz2 α enc d l h1 h2 h3;exact(hn _ _ _ _ _ _ _ _ _ _ _ _ _ h1 h2 h3).elim
  ·exact hp.elim
 rename_i E sz n gs cell m f E2 sz2 α enc d l hba hbg hbq
 rw[hba, hbg, hbq]at hp
 obtain⟨hr, rfl, hf', hcell⟩:=hp
 have hag:a≠g:=fun e=>by rw[e, hbg]at hba;cases hba
 have haq:a≠q:=fun e=>by rw[e, hbq]at hba;cases hba
 have hgq:g≠q:=fun e=>by rw[e, hbq]at hbg;cases hbg
 have hal:=(List.getElem?_eq_some_iff.1 hba).1
 have hgl:=(List.getElem?_eq_some_iff.1 hbg).1
 have hql:=(List.getElem?_eq_some_iff.1 hbq).1
 obtain⟨us, hus, hsz, hrow, hdis⟩:=h.heap.box g _ hbg
 obtain⟨a0, xs, a1, a2⟩:=h.heap.box a _ hba
 have hB:=h.heap.box q _ hbq
 have hone:(μ q).oneCell'=true:=by
  obtain⟨p', c', hm, _⟩:=b6 hB
  rw[hm]
  rfl
 obtain⟨us', hsz', get'⟩:∃us':Array Value, us'.size=max m (r+1)∧∀k, us'[k]?=if k=r then some (μ q)else us[k]?:=by
  by_cases hrm:r<m
  ·refine⟨us.setIfInBounds r (μ q), by rw[Array.size_setIfInBounds];omega, fun k=>?_⟩
   by_cases hk:k=r
   ·subst hk;rw[if_pos rfl];simp[hsz, hrm]
   ·rw[if_neg hk];exact Array.getElem?_setIfInBounds_ne (fun e=>hk e.symm)
  ·refine⟨us.push (μ q), by rw[Array.size_push];omega, fun k=>?_⟩
   have hrm':r=us.size:=by omega
   rw[Array.getElem?_push]
   by_cases hk:k=r
   ·rw[if_pos hk, if_pos (by omega)]
   ·rw[if_neg hk, if_neg (by omega)]
 have get:∀(i:Nat) (B:aq), ((((bX q (bX g st.heap)).set a (.arrD E sz n (g::gs) cell')).set g (.grp (max m (r+1)) f')).set q .dead)[i]?=some B→_:=fun i B hB=>Fx hal hgl hql hB
 have mg:aV μ g (.tuple us') g=.tuple us':=av _ _ _
 have mo:∀i, i≠g→aV μ g (.tuple us') i=μ i:=fun i h1=>aF _ _ h1
 have own:∀(i:Nat) (B:aq) (b:Nat), ((((bX q (bX g st.heap)).set a (.arrD E sz n (g::gs) cell')).set g (.grp (max m (r+1)) f')).set q .dead)[i]?=some B→B.live=true→bE (aV μ g (.tuple us') i) b →
   (i=g∧aG (μ q)=some b)∨(i=g∧∃k x, k≠r∧us[k]?=some x∧aG x=some b)∨(i≠q∧i≠g∧∃A, st.heap[i]?=some A∧A.live=true∧bE (μ i) b):=by
  intro i B b hB hl hb
  rcases get i B hB with ⟨rfl, rfl⟩ | ⟨rfl, hne, rfl⟩ | ⟨rfl, hne, hne2, rfl⟩ | ⟨h1, h2, h3, B0, hB0, rfl⟩
  ·cases hl
  ·rw[mg]at hb
   rcases hb with hb | ⟨us2, e, k, x, hk, hx⟩
   ·cases hb
   ·cases e
    rw[get']at hk
    split at hk
    ·cases hk;exact .inl ⟨rfl, hx⟩
    ·rename_i hkr;exact .inr (.inl ⟨rfl, k, x, hkr, hk, hx⟩)
  ·rw[mo i hne]at hb
   exact .inr (.inr ⟨hne2, hne, _, hba, rfl, hb⟩)
  ·rw[mo i h2]at hb
   rw[ed, ed]at hl
   exact .inr (.inr ⟨h1, h2, B0, hB0, hl, hb⟩)
 have inG:∀(k:Nat) (x:Value) (b:Nat), us[k]?=some x→aG x=some b→bE (μ g) b:=fun k x b hk hx=>.inr ⟨us, hus, k, x, hk, hx⟩
 refine⟨S, aV μ g (.tuple us'), h.retell ?_ ?_ ?_ ?_ ?_⟩
 ·intro t d hm
  obtain⟨e, he, rfl⟩:=fZ hm
  obtain⟨e', he', rfl⟩:=fZ he
  exact⟨e', he', fun u hu=>((hu.killD (id:=g)).stable (fun _ h _=>h) (fun _ _ _=>rfl) (Nat.le_refl _) (fun id hid=>aF _ _ (fun e=>by rw[e, kz]at hid;cases hid))).killD⟩
 ·intro i B hBi
  rcases get i B hBi with ⟨rfl, rfl⟩ | ⟨rfl, hne, rfl⟩ | ⟨rfl, hne, hne2, rfl⟩ | ⟨h1, h2, h3, B0, hB0, rfl⟩
  ·trivial
  ·rw[mg]
   refine⟨us', rfl, hsz', fun k x hk=>?_, fun k k' x x' b hk hk' hx hx'=>?_⟩
   ·rw[get']at hk
    split at hk
    ·rename_i e
     cases hk
     subst e
     refine⟨hone, ?_⟩
     rw[hf' k (by omega), if_pos rfl]
     exact hB
    ·rename_i e
     have hkl:=(Array.getElem?_eq_some_iff.1 hk).1
     rw[hf' k (by omega), if_neg e]
     exact hrow k x hk
   ·rw[get']at hk hk'
    split at hk
    ·rename_i e1
     split at hk'
     ·rename_i e2;rw[e1, e2]
     ·cases hk;exact(hgq (h.heap.apart i q _ _ b hbg hbq rfl rfl (inG k' x' b hk' hx') (.inl hx))).elim
    ·split at hk'
     ·cases hk';exact(hgq (h.heap.apart i q _ _ b hbg hbq rfl rfl (inG k x b hk hx) (.inl hx'))).elim
     ·exact hdis k k' x x' b hk hk' hx hx'
  ·rw[mo i hne]
   refine⟨fun j k id hj hk hid=>?_, xs, a1, fun j k hj hk=>?_⟩
   ·simp only[List.all_cons, Bool.and_eq_true]at hid
    rcases hcell j k hj hk with ⟨_, e⟩ | ⟨e, _⟩
    ·rw[e];exact hid.1
    ·rw[e];exact a0 j k id hj hk hid.2
   ·obtain⟨z, hz, ho, hd⟩:=a2 j k hj hk
    refine⟨z, hz, ho, ?_⟩
    rcases hcell j k hj hk with ⟨e1, e2⟩ | ⟨e, hc⟩
    ·rw[e1]at hd
     have hu:=bQ hd
     rw[e2]
     exact .gr g r us' z mg (by rw[get', if_pos rfl, hu]) ho
    ·rw[e]
     rcases hc with ⟨r', e1, e2⟩ | ⟨x, e1⟩ | e1 | ⟨p, e1, e2, e3⟩
     ·rw[e1]at hd ⊢
      obtain⟨us2, g1, g2, g3⟩:=xJ hd
      rw[hus]at g1
      cases g1
      exact .gr g r' us' z mg (by rw[get', if_neg e2];exact g2) g3
     ·rw[e1]at hd ⊢
      exact .v _ _ (bg hd)
     ·rw[e1]at hd ⊢
      cases hd
      exact .nils
     ·rw[e1]at hd ⊢
      have hu:=bQ hd
      have:=ak.own (S:=S) (μ:=aV μ g (.tuple us')) (w:=w) p
      rw[mo p e3]at this
      rw[hu]
      exact this
  ·rw[mo i h2]
   exact(((h.heap.box i B0 hB0).kill (id:=g)).stable (fun _ h _=>h) (fun _ _ _=>rfl) (Nat.le_refl _) (fun id hid=>aF _ _ (fun e=>by rw[e, wx]at hid;cases hid)) (fun _ _=>rfl)).kill
 ·intro i B b hBi hl hb
  rcases own i B b hBi hl hb with ⟨rfl, hv'⟩ | ⟨rfl, k, x, _, hk, hx⟩ | ⟨_, _, A, hA, hAl, hb⟩
  ·exact⟨q, _, hbq, rfl, .inl hv'⟩
  ·exact⟨i, _, hbg, rfl, inG k x b hk hx⟩
  ·exact⟨i, A, hA, hAl, hb⟩
 ·intro i j A B b hA hBj lA lB hbi hbj
  rcases own i A b hA lA hbi with ⟨rfl, hv1⟩ | ⟨rfl, k, x, hkr, hk, hx⟩ | ⟨n1, n2, A0, hA0, hl0, hb0⟩<;>rcases own j B b hBj lB hbj with ⟨rfl, hv2⟩ | ⟨rfl, k', x', hkr', hk', hx'⟩ | ⟨n3, n4, B0, hB0, hl0', hb0'⟩<;>first | rfl | skip
  ·exact(n3 (h.heap.apart j q B0 _ b hB0 hbq hl0' rfl hb0' (.inl hv1))).elim
  ·exact(n4 (h.heap.apart j i B0 _ b hB0 hbg hl0' rfl hb0' (inG k x b hk hx))).elim
  ·exact(n1 (h.heap.apart i q A0 _ b hA0 hbq hl0 rfl hb0 (.inl hv2))).elim
  ·exact(n2 (h.heap.apart i j A0 _ b hA0 hbg hl0 rfl hb0 (inG k' x' b hk' hx'))).elim
  ·exact h.heap.apart i j A0 B0 b hA0 hB0 hl0 hl0' hb0 hb0'
 ·intro i B hBi hro
  rcases get i B hBi with ⟨rfl, rfl⟩ | ⟨rfl, hne, rfl⟩ | ⟨rfl, hne, hne2, rfl⟩ | ⟨h1, h2, h3, B0, hB0, rfl⟩
  ·cases hro
  ·cases hro
  ·cases hro
  ·rw[nk, nk]at hro
   rw[show(B0.kill g).kill q=B0 from by cases B0<;>first | rfl | cases hro]
   exact⟨hB0, mo i h2⟩
def put (a g q r m':Nat) (cell':Nat→Nat→D) (f':Nat→rH):Fs:=⟨H0 a g q r m' cell' f', J5 a g q r m' cell' f'⟩
def Ow (a g q:Nat):D→D
 | .own i=>if Nat.beq i a then .gr q 0 else killD g (.own i)
 | d=>killD g (killD a d)
def Na (a g q:Nat):List (Nat×D)→List (Nat×D)
 | []=>[]
 | (t, d)::r=>(t, Ow a g q d)::Na a g q r
theorem Cw {a g q:Nat}:∀{env:List (Nat×D)} {t:Nat} {d:D}, (t, d)∈Na a g q env→∃e, (t, e)∈env∧d=Ow a g q e
 | (s, e)::r, t, d, h=>by
  rcases List.mem_cons.1 h with h | h
  ·cases h;exact⟨e, List.mem_cons_self .., rfl⟩
  ·obtain⟨e', h1, h2⟩:=Cw h
   exact⟨e', List.mem_cons_of_mem _ h1, h2⟩
def A2 (g:Nat) (c:D) (x:Ce):Prop:=(∃r, c=.gr g r∧x=.me r)∨∃y, c=.v y∧x=.v y
def xK (a g:Nat) (ce:Nat→Nat→Ce) (st:St):St×Prop:=match st.heap[a]?, st.heap[g]? with
 | some (.arrD E sz n gs cell), some (.grp m f) =>
  if bN st.heap.length st.env&&bx st.heap.length st.heap then
   (⟨Na a g st.heap.length st.env, ((bX g (bX a st.heap)).set a .dead).set g .dead++[.nest E sz n ce m f]⟩, ∀i j, i<n→j<sz→A2 g (cell i j) (ce i j))
  else (st, False)
 | _, _=>(st, False)
theorem Fy (a g:Nat) (ce:Nat→Nat→Ce) (st:St) (hp:(xK a g ce st).2):Gh st (xK a g ce st).1:=fun C S μ act w h=>by
 unfold xK at hp ⊢
 split
 rotate_left
 ·rename_i hn
  split at hp
  ·rename_i E sz n gs cell m f h1 h2;exact(hn _ _ _ _ _ _ _ h1 h2).elim
  ·exact hp.elim
 rename_i E sz n gs cell m f hba hbg
 rw[hba, hbg]at hp
 split
 rotate_left
 ·rename_i hc;simp only at hp;rw[if_neg hc]at hp;exact hp.elim
 rename_i hc
 simp only at hp
 rw[if_pos hc]at hp
 simp only[Bool.and_eq_true]at hc
 obtain⟨fE, fH⟩:=hc
 have hag:a≠g:=fun e=>by rw[e, hbg]at hba;cases hba
 have hal:=(List.getElem?_eq_some_iff.1 hba).1
 have hgl:=(List.getElem?_eq_some_iff.1 hbg).1
 obtain⟨us, hus, hsz, hrow, hdis⟩:=h.heap.box g _ hbg
 obtain⟨a0, xs, a1, a2⟩:=h.heap.box a _ hba
 have hone:(μ a).oneCell'=true:=by
  obtain⟨p', c', hm, _⟩:=iA (h.heap.box a _ hba)
  rw[hm]
  rfl
 let us2:Array Value:=(μ a::us.toList).toArray
 have g0:us2[0]?=some (μ a):=by simp[us2]
 have gS:∀k, us2[k+1]?=us[k]?:=fun k=>by simp[us2]
 have mq:aV μ st.heap.length (.tuple us2) st.heap.length=.tuple us2:=av _ _ _
 have mo:∀i, i≠st.heap.length→aV μ st.heap.length (.tuple us2) i=μ i:=fun i h=>aF _ _ h
 have get:∀(i:Nat) (B:aq), (((bX g (bX a st.heap)).set a .dead).set g .dead++[aq.nest E sz n ce m f])[i]?=some B→(i=st.heap.length∧B=.nest E sz n ce m f)∨B=.dead∨(i≠st.heap.length∧i≠a∧i≠g∧∃B0, st.heap[i]?=some B0∧B=(B0.kill a).kill g):=by
  intro i B hB
  have hl:(((bX g (bX a st.heap)).set a .dead).set g aq.dead).length=st.heap.length:=by simp only[List.length_set, bR]
  by_cases hi:i<st.heap.length
  ·rw[List.getElem?_append_left (by omega)]at hB
   refine .inr ?_
   by_cases e1:i=g
   ·subst e1
    rw[List.getElem?_set_self (by simp only[List.length_set, bR];exact hgl)]at hB
    cases hB;exact .inl rfl
   ·rw[List.getElem?_set_ne (fun e=>e1 e.symm)]at hB
    by_cases e2:i=a
    ·subst e2
     rw[List.getElem?_set_self (by simp only[bR];exact hal)]at hB
     cases hB;exact .inl rfl
    ·rw[List.getElem?_set_ne (fun e=>e2 e.symm), eX, eX]at hB
     cases hc:st.heap[i]? with
     | none=>rw[hc]at hB;cases hB
     | some B0=>rw[hc]at hB;simp at hB;exact .inr ⟨by omega, e2, e1, B0, rfl, hB.symm⟩
  ·rw[List.getElem?_append_right (by omega), hl]at hB
   have:i=st.heap.length:=by
    have:=(List.getElem?_eq_some_iff.1 hB).1
    simp at this
    omega
   subst this
   simp at hB
   exact .inl ⟨rfl, hB.symm⟩
 have inA:∀b, aG (μ a)=some b→bE (μ a) b:=fun b h=>.inl h
 have inG:∀(k:Nat) (x:Value) (b:Nat), us[k]?=some x→aG x=some b→bE (μ g) b:=fun k x b hk hx=>.inr ⟨us, hus, k, x, hk, hx⟩
 have apAG:∀b, bE (μ a) b→bE (μ g) b→False:=fun b h1 h2=>hag (h.heap.apart a g _ _ b hba hbg rfl rfl h1 h2)
 have own:∀(i:Nat) (B:aq) (b:Nat), (((bX g (bX a st.heap)).set a .dead).set g .dead++[aq.nest E sz n ce m f])[i]?=some B→B.live=true→bE (aV μ st.heap.length (.tuple us2) i) b →
   (i=st.heap.length∧(bE (μ a) b∨bE (μ g) b))∨(i≠st.heap.length∧i≠a∧i≠g∧∃A, st.heap[i]?=some A∧A.live=true∧bE (μ i) b):=by
  intro i B b hB hl hb
  rcases get i B hB with ⟨rfl, rfl⟩ | rfl | ⟨h1, h2, h3, B0, hB0, rfl⟩
  ·rw[mq]at hb
   refine .inl ⟨rfl, ?_⟩
   rcases hb with hb | ⟨us3, e, k, x, hk, hx⟩
   ·cases hb
   ·cases e
    cases k with
    | zero=>rw[g0]at hk;cases hk;exact .inl (inA b hx)
    | succ k=>rw[gS]at hk;exact .inr (inG k x b hk hx)
  ·cases hl
  ·rw[mo i h1]at hb
   rw[ed, ed]at hl
   exact .inr ⟨h1, h2, h3, B0, hB0, hl, hb⟩
 refine⟨S, aV μ st.heap.length (.tuple us2), h.retell ?_ ?_ ?_ ?_ ?_⟩
 ·intro t d hm
  obtain⟨e, he, rfl⟩:=Cw hm
  refine⟨e, he, fun u hu=>?_⟩
  have hst:∀d:D, D.free st.heap.length d=true→ak S μ w d u→ak S (aV μ st.heap.length (.tuple us2)) w d u:=fun d hd h=>h.stable (fun _ h _=>h) (fun _ _ _=>rfl) (Nat.le_refl _) (fun id hid=>mo id (fun e=>by rw[e, hd]at hid;cases hid))
  have hfe:=b5 fE he
  have key:ak S (aV μ st.heap.length (.tuple us2)) w (killD g (killD a e)) u:=((hst e hfe hu).killD (id:=a)).killD
  cases e<;>first | exact key | skip
  rename_i i
  show ak S _ w (if Nat.beq i a=true then .gr st.heap.length 0 else killD g (.own i)) u
  split
  ·rename_i hi
   rw[Nat.beq_eq]at hi
   subst hi
   have:=bQ hu
   subst this
   exact .gr _ 0 us2 _ mq g0 hone
  ·exact(hst _ hfe hu).killD
 ·intro i B hB
  rcases get i B hB with ⟨rfl, rfl⟩ | rfl | ⟨h1, h2, h3, B0, hB0, rfl⟩
  ·rw[mq]
   refine⟨us2, rfl, by simp[us2, hsz], ⟨μ a, xs, g0, hone, a1, fun i j hi hj=>?_⟩, fun r v hv=>?_, fun k k' x x' b hk hk' hx hx'=>?_⟩
   ·obtain⟨z, hz, ho, hd⟩:=a2 i j hi hj
    refine⟨z, hz, ho, ?_⟩
    rcases hp i j hi hj with ⟨r, e1, e2⟩ | ⟨y, e1, e2⟩
    ·rw[e1]at hd
     rw[e2]
     obtain⟨us3, q1, q2, _⟩:=xJ hd
     rw[hus]at q1
     cases q1
     show us2[r+1]?=some z
     rw[gS];exact q2
    ·rw[e1]at hd
     rw[e2]
     exact bg hd
   ·rw[gS]at hv;exact hrow r v hv
   ·cases k with
    | zero =>
     rw[g0]at hk;cases hk
     cases k' with
     | zero=>rfl
     | succ k'=>rw[gS]at hk';exact(apAG b (inA b hx) (inG k' x' b hk' hx')).elim
    | succ k =>
     rw[gS]at hk
     cases k' with
     | zero=>rw[g0]at hk';cases hk';exact(apAG b (inA b hx') (inG k x b hk hx)).elim
     | succ k'=>rw[gS]at hk';rw[hdis k k' x x' b hk hk' hx hx']
  ·trivial
  ·rw[mo i h1]
   have hb0:aJ S (aV μ st.heap.length (.tuple us2)) w (μ i) B0:=(h.heap.box i B0 hB0).stable (fun _ h _=>h) (fun _ _ _=>rfl) (Nat.le_refl _) (fun id hid=>mo id (fun e=>by rw[e, b7 fH hB0]at hid;cases hid)) (fun _ _=>rfl)
   exact(hb0.kill (id:=a)).kill
 ·intro i B b hB hl hb
  rcases own i B b hB hl hb with ⟨rfl, hb | hb⟩ | ⟨_, _, _, A, hA, hAl, hb⟩
  ·exact⟨a, _, hba, rfl, hb⟩
  ·exact⟨g, _, hbg, rfl, hb⟩
  ·exact⟨i, A, hA, hAl, hb⟩
 ·intro i j A B b hA hB lA lB hbi hbj
  rcases own i A b hA lA hbi with ⟨rfl, hv1⟩ | ⟨n1, n2, n3, A0, hA0, hl0, hb0⟩<;>rcases own j B b hB lB hbj with ⟨rfl, hv2⟩ | ⟨n4, n5, n6, B0, hB0, hl0', hb0'⟩
  ·rfl
  ·rcases hv1 with hv1 | hv1
   ·exact(n5 (h.heap.apart j a B0 _ b hB0 hba hl0' rfl hb0' hv1)).elim
   ·exact(n6 (h.heap.apart j g B0 _ b hB0 hbg hl0' rfl hb0' hv1)).elim
  ·rcases hv2 with hv1 | hv1
   ·exact(n2 (h.heap.apart i a A0 _ b hA0 hba hl0 rfl hb0 hv1)).elim
   ·exact(n3 (h.heap.apart i g A0 _ b hA0 hbg hl0 rfl hb0 hv1)).elim
  ·exact h.heap.apart i j A0 B0 b hA0 hB0 hl0 hl0' hb0 hb0'
 ·intro i B hB hro
  rcases get i B hB with ⟨rfl, rfl⟩ | rfl | ⟨h1, h2, h3, B0, hB0, rfl⟩
  ·cases hro
  ·cases hro
  ·rw[nk, nk]at hro
   rw[show(B0.kill a).kill g=B0 from by cases B0<;>first | rfl | cases hro]
   exact⟨hB0, mo i h1⟩
def LP (a g:Nat) (ce:Nat→Nat→Ce):Fs:=⟨xK a g ce, Fy a g ce⟩
mutual
def H2 (q a:Nat):D→D
 | .own i=>if Nat.beq i q then .junk else .own i
 | .ptr i k sz off=>if Nat.beq i q then .junk else .ptr i k sz off
 | .gr i r=>if Nat.beq i q then (match r with | 0=>.own a | _+1=>.junk)else .gr i r
 | .yld i=>if Nat.beq i q then .junk else .yld i
 | .agg cs=>.agg (EO q a cs)
 | .tup cs=>.tup (EO q a cs)
 | .fn f x y=>.fn f (EO q a x) (EO q a y)
 | .v y=>.v y
 | .nils=>.nils
 | .iptr cs off=>.iptr cs off
 | .capd y=>.capd y
 | .junk=>.junk
def EO (q a:Nat):List D→List D
 | []=>[]
 | d::r=>H2 q a d::EO q a r
end
def LQ (q a:Nat):List (Nat×D)→List (Nat×D)
 | []=>[]
 | (t, d)::r=>(t, H2 q a d)::LQ q a r
def Jm (q a:Nat):aq→aq
 | .var T cs=>.var T (EO q a cs)
 | .loop l tm nt env ps as bd s p=>.loop l tm nt (LQ q a env) ps as bd s p
 | .frame tm env=>.frame tm (LQ q a env)
 | .arrD E sz n gs cell=>if gs.all (fun g=>!(Nat.beq g q))then .arrD E sz n gs cell else .dead
 | .ro E sz enc d l=>.ro E sz enc d l
 | .dead=>.dead
 | .arr E sz enc d l=>.arr E sz enc d l
 | .mpb t ag enc d l=>.mpb t ag enc d l
 | .grp n f=>.grp n f
 | .nest E sz n ce m f=>.nest E sz n ce m f
def FA (q a:Nat):List aq→List aq
 | []=>[]
 | B::r=>Jm q a B::FA q a r
theorem nA (q a:Nat):∀(cs:List D) (j:Nat), (EO q a cs)[j]?=(cs[j]?).map (H2 q a)
 | [], j=>by simp[EO]
 | d::r, 0=>by simp[EO]
 | d::r, j+1=>by simp[EO, nA q a r j]
theorem gd (q a:Nat):∀(cs:List D), (EO q a cs).length=cs.length
 | []=>rfl
 | d::r=>by simp[EO, gd q a r]
theorem Cx (q a:Nat):∀(H:List aq) (j:Nat), (FA q a H)[j]?=(H[j]?).map (Jm q a)
 | [], j=>by simp[FA]
 | d::r, 0=>by simp[FA]
 | d::r, j+1=>by simp[FA, Cx q a r j]
theorem pR (q a:Nat):∀(H:List aq), (FA q a H).length=H.length
 | []=>rfl
 | d::r=>by simp[FA, pR q a r]
theorem tE {q a:Nat}:∀{env:List (Nat×D)} {t:Nat} {d:D}, (t, d)∈LQ q a env→∃e, (t, e)∈env∧d=H2 q a e
 | (s, e)::r, t, d, h=>by
  rcases List.mem_cons.1 h with h | h
  ·cases h;exact⟨e, List.mem_cons_self .., rfl⟩
  ·obtain⟨e', h1, h2⟩:=tE h
   exact⟨e', List.mem_cons_of_mem _ h1, h2⟩
section
variable {q a:Nat} {us:Array Value}
theorem xL {d:D} {u:Value} (h:ak S μ w d u) (hq:μ q=.tuple us) (h0:us[0]?=some (μ' a)) (ho:∀i, i≠q→i≠a→μ' i=μ i) (hf:D.free a d=true):ak S μ' w (H2 q a d) u:=by
 induction h with
 | v y u h=>exact .v y u h
 | nils=>exact .nils
 | own i =>
  unfold H2
  split
  ·exact .junk _
  ·rename_i hi
   rw[← ho i (fun e=>hi (by rw[e];exact Nat.beq_refl q)) (fun e=>by simp[D.free, e]at hf)]
   exact .own i
 | ptr i k sz off b h =>
  unfold H2
  split
  ·exact .junk _
  ·rename_i hi
   exact .ptr i k sz off b (by rw[ho i (fun e=>hi (by rw[e];exact Nat.beq_refl q)) (fun e=>by simp[D.free, e]at hf)];exact h)
 | iptr cs off b o us h1 h2 h3 h4=>exact .iptr cs off b o us h1 h2 h3 h4
 | yld i l h =>
  unfold H2
  split
  ·exact .junk _
  ·rename_i hi
   exact .yld i l (by rw[ho i (fun e=>hi (by rw[e];exact Nat.beq_refl q)) (fun e=>by simp[D.free, e]at hf)];exact h)
 | capd y p n h=>exact .capd y p n h
 | junk u=>exact .junk u
 | gr i r us2 u h h1 h2 =>
  unfold H2
  split
  ·rename_i hi
   rw[Nat.beq_eq]at hi
   subst hi
   cases r with
   | zero =>
    rw[hq]at h
    cases h
    rw[h0]at h1
    cases h1
    exact .own a
   | succ r=>exact .junk _
  ·rename_i hi
   exact .gr i r us2 u (by rw[ho i (fun e=>hi (by rw[e];exact Nat.beq_refl q)) (fun e=>by simp[D.free, e]at hf)];exact h) h1 h2
 | agg cs us h1 _ ih =>
  refine .agg _ us (by rw[gd];exact h1) (fun j y u hy hu=>?_)
  rw[nA]at hy
  cases hc:cs[j]? with
  | none=>rw[hc]at hy;cases hy
  | some e=>rw[hc]at hy;simp at hy;subst hy;exact ih j e u hc hu (D.freeL_get (by simpa only [D.free]using hf) hc)
 | tup cs us h1 _ ih =>
  refine .tup _ us (by rw[gd];exact h1) (fun j y u hy hu=>?_)
  rw[nA]at hy
  cases hc:cs[j]? with
  | none=>rw[hc]at hy;cases hy
  | some e=>rw[hc]at hy;simp at hy;subst hy;exact ih j e u hc hu (D.freeL_get (by simpa only [D.free]using hf) hc)
 | fn f x y us vs h1 _ h2 _ ih1 ih2 =>
  simp only[D.free, Bool.and_eq_true]at hf
  refine .fn f _ _ us vs (by rw[gd];exact h1) (fun j y u hy hu=>?_) (by rw[gd];exact h2) (fun j z u hy hu=>?_)
  ·rw[nA]at hy
   cases hc:x[j]? with
   | none=>rw[hc]at hy;cases hy
   | some e=>rw[hc]at hy;simp at hy;subst hy;exact ih1 j e u hc hu (D.freeL_get hf.1 hc)
  ·rw[nA]at hy
   cases hc:y[j]? with
   | none=>rw[hc]at hy;cases hy
   | some e=>rw[hc]at hy;simp at hy;subst hy;exact ih2 j e u hc hu (D.freeL_get hf.2 hc)
theorem J6 {B:aq} {u:Value} (h:aJ S μ w u B) (hq:μ q=.tuple us) (h0:us[0]?=some (μ' a)) (ho:∀i, i≠q→i≠a→μ' i=μ i) (hf:aq.free a B=true):aJ S μ' w u (Jm q a B):=by
 cases B with
 | dead=>trivial
 | arr E sz enc d l=>exact h
 | ro E sz enc d l=>exact h
 | grp n f=>exact h
 | nest E sz n ce m f=>exact h
 | mpb t ag enc d l=>exact h.stable (fun _ h _=>h) (fun _ _ _=>rfl) (Nat.le_refl _) (fun id hid=>by cases hid) (fun _ _=>rfl)
 | arrD E sz n gs cell =>
  simp only[Jm]
  split
  ·rename_i hg
   refine h.stable (fun _ h _=>h) (fun _ _ _=>rfl) (Nat.le_refl _) (fun id hid=>ho id (fun e=>?_) (fun e=>?_)) (fun _ _=>rfl)
   ·rw[e]at hid;simp only[aq.free]at hid;rw[hg]at hid;cases hid
   ·rw[e, hf]at hid;cases hid
  ·trivial
 | var T cs =>
  obtain⟨b, vs, e, q1, q2, q3⟩:=h
  refine⟨b, vs, e, q1, by rw[gd];exact q2, fun j y z hy hz=>?_⟩
  rw[nA]at hy
  cases hc:cs[j]? with
  | none=>rw[hc]at hy;cases hy
  | some y'=>rw[hc]at hy;simp at hy;subst hy;exact xL (q3 j y' z hc hz) hq h0 ho (D.freeL_get (by simpa only [aq.free]using hf) hc)
 | loop l tm nt env ps as bd s pe =>
  obtain⟨r, h0', h1, h2, h3, h4, h5, h6, h7, h8, h9⟩:=h
  refine⟨r, h0', h1, h2, h3, h4, h5, h6, h7, h8, fun t e hm=>?_⟩
  obtain⟨e', k1, rfl⟩:=tE hm
  exact⟨(h9 t e' k1).1, xL (h9 t e' k1).2 hq h0 ho (b5 (by simpa only [aq.free]using hf) k1)⟩
 | frame tm env =>
  obtain⟨h1, h9⟩:=h
  refine⟨h1, fun t e hm=>?_⟩
  obtain⟨e', k1, rfl⟩:=tE hm
  exact⟨(h9 t e' k1).1, xL (h9 t e' k1).2 hq h0 ho (b5 (by simpa only [aq.free]using hf) k1)⟩
end
def Hy (q:Nat):Ce→D
 | .v x=>.v x
 | .me r=>.gr q r
def Cy (q:Nat) (st:St):St×Prop:=match st.heap[q]? with
 | some (.nest E sz n ce m f)=>if bN st.heap.length st.env&&bx st.heap.length st.heap then
   (⟨LQ q st.heap.length st.env, (FA q st.heap.length st.heap).set q (.grp m f)++[.arrD E sz n [q] (fun i j=>Hy q (ce i j))]⟩, True)
  else (st, False)
 | _=>(st, False)
theorem H3 (q:Nat) (st:St) (hp:(Cy q st).2):Gh st (Cy q st).1:=fun C S μ act w h=>by
 unfold Cy at hp ⊢
 split
 rotate_left
 ·rename_i hn
  split at hp
  ·rename_i E sz n ce m f h1;exact(hn _ _ _ _ _ _ h1).elim
  ·exact hp.elim
 rename_i E sz n ce m f hbq
 rw[hbq]at hp
 split
 rotate_left
 ·rename_i hc;simp only at hp;rw[if_neg hc]at hp;exact hp.elim
 rename_i hc
 simp only[Bool.and_eq_true]at hc
 obtain⟨fE, fH⟩:=hc
 have hql:=(List.getElem?_eq_some_iff.1 hbq).1
 obtain⟨us, hus, hsz, ⟨v0, xs, g0, gone, gr, gc⟩, hrow, hdis⟩:=h.heap.box q _ hbq
 obtain⟨vs, hvs⟩:∃vs:Array Value, vs.size=m∧∀k, vs[k]?=us[k+1]?:=⟨us.toList.tail.toArray, by simp;omega, fun k=>by simp⟩
 obtain⟨hvl, hvs⟩:=hvs
 let μ':=aV (aV μ st.heap.length v0) q (.tuple vs)
 have mq:μ' q=.tuple vs:=av _ _ _
 have ma:μ' st.heap.length=v0:=by show aV _ _ _ _=_;rw[aF _ _ (by omega), av]
 have mo:∀i, i≠q→i≠st.heap.length→μ' i=μ i:=fun i h1 h2=>by show aV _ _ _ _=_;rw[aF _ _ h1, aF _ _ h2]
 have h0:us[0]?=some (μ' st.heap.length):=by rw[ma];exact g0
 have get:∀(i:Nat) (B:aq), ((FA q st.heap.length st.heap).set q (.grp m f)++[aq.arrD E sz n [q] (fun i j=>Hy q (ce i j))])[i]?=some B→(i=st.heap.length∧B=.arrD E sz n [q] (fun i j=>Hy q (ce i j)))∨(i=q∧B=.grp m f)∨(i≠st.heap.length∧i≠q∧∃B0, st.heap[i]?=some B0∧B=Jm q st.heap.length B0):=by
  intro i B hB
  have hl:((FA q st.heap.length st.heap).set q (aq.grp m f)).length=st.heap.length:=by simp only[List.length_set, pR]
  by_cases hi:i<st.heap.length
  ·rw[List.getElem?_append_left (by omega)]at hB
   refine .inr ?_
   by_cases e1:i=q
   ·subst e1
    rw[List.getElem?_set_self (by simp only[pR];exact hql)]at hB
    cases hB;exact .inl ⟨rfl, rfl⟩
   ·rw[List.getElem?_set_ne (fun e=>e1 e.symm), Cx]at hB
    cases hc:st.heap[i]? with
    | none=>rw[hc]at hB;cases hB
    | some B0=>rw[hc]at hB;simp at hB;exact .inr ⟨by omega, e1, B0, rfl, hB.symm⟩
  ·rw[List.getElem?_append_right (by omega), hl]at hB
   have:i=st.heap.length:=by
    have:=(List.getElem?_eq_some_iff.1 hB).1
    simp at this
    omega
   subst this
   simp at hB
   exact .inl ⟨rfl, hB.symm⟩
 have inQ:∀(k:Nat) (x:Value) (b:Nat), us[k]?=some x→aG x=some b→bE (μ q) b:=fun k x b hk hx=>.inr ⟨us, hus, k, x, hk, hx⟩
 have opl:∀B:aq, (Jm q st.heap.length B).live=true→B.live=true:=by
  intro B hB
  cases B<;>first | exact hB | rfl
 have own:∀(i:Nat) (B:aq) (b:Nat), ((FA q st.heap.length st.heap).set q (.grp m f)++[aq.arrD E sz n [q] (fun i j=>Hy q (ce i j))])[i]?=some B→B.live=true→bE (μ' i) b →
   (i=st.heap.length∧aG v0=some b)∨(i=q∧∃k x, us[k+1]?=some x∧aG x=some b)∨(i≠st.heap.length∧i≠q∧∃A, st.heap[i]?=some A∧A.live=true∧bE (μ i) b):=by
  intro i B b hB hl hb
  rcases get i B hB with ⟨rfl, rfl⟩ | ⟨rfl, rfl⟩ | ⟨h1, h2, B0, hB0, rfl⟩
  ·rw[ma]at hb;exact .inl ⟨rfl, hb.bl gone⟩
  ·rw[mq]at hb
   rcases hb with hb | ⟨us3, e, k, x, hk, hx⟩
   ·cases hb
   ·cases e;rw[hvs]at hk;exact .inr (.inl ⟨rfl, k, x, hk, hx⟩)
  ·rw[mo i h2 h1]at hb
   exact .inr (.inr ⟨h1, h2, B0, hB0, opl B0 hl, hb⟩)
 refine⟨S, μ', h.retell ?_ ?_ ?_ ?_ ?_⟩
 ·intro t d hm
  obtain⟨e, he, rfl⟩:=tE hm
  exact⟨e, he, fun u hu=>xL hu hus h0 mo (b5 fE he)⟩
 ·intro i B hB
  rcases get i B hB with ⟨rfl, rfl⟩ | ⟨rfl, rfl⟩ | ⟨h1, h2, B0, hB0, rfl⟩
  ·rw[ma]
   refine⟨fun i j id hi hj hid=>?_, xs, gr, fun i j hi hj=>?_⟩
   ·show D.free id (Hy q (ce i j))=true
    cases hc:ce i j with
    | v x=>rfl
    | me r=>simpa[Hy, D.free]using hid
   ·obtain⟨z, hz, ho, hr⟩:=gc i j hi hj
    refine⟨z, hz, ho, ?_⟩
    show ak S μ' w (Hy q (ce i j)) z
    cases hc:ce i j with
    | v x=>rw[hc]at hr;exact .v _ _ hr
    | me r=>rw[hc]at hr;exact .gr q r vs z mq (by rw[hvs];exact hr) ho
  ·rw[mq]
   exact⟨vs, rfl, hvl, fun r v hv=>hrow r v (by rw[← hvs];exact hv), fun r r' v v' b hr hr' hb hb'=>by
    rw[hvs]at hr hr'
    have:=hdis (r+1) (r'+1) v v' b hr hr' hb hb'
    omega⟩
  ·rw[mo i h2 h1]
   exact J6 (h.heap.box i B0 hB0) hus h0 mo (b7 fH hB0)
 ·intro i B b hB hl hb
  rcases own i B b hB hl hb with ⟨rfl, hv⟩ | ⟨rfl, k, x, hk, hx⟩ | ⟨_, _, A, hA, hAl, hb⟩
  ·exact⟨q, _, hbq, rfl, inQ 0 v0 b g0 hv⟩
  ·exact⟨i, _, hbq, rfl, inQ (k+1) x b hk hx⟩
  ·exact⟨i, A, hA, hAl, hb⟩
 ·intro i j A B b hA hB lA lB hbi hbj
  rcases own i A b hA lA hbi with ⟨rfl, hv1⟩ | ⟨rfl, k, x, hk, hx⟩ | ⟨n1, n2, A0, hA0, hl0, hb0⟩<;>rcases own j B b hB lB hbj with ⟨rfl, hv2⟩ | ⟨rfl, k', x', hk', hx'⟩ | ⟨n4, n5, B0, hB0, hl0', hb0'⟩<;>first | rfl | skip
  ·have:=hdis 0 (k'+1) v0 x' b g0 hk' hv1 hx';omega
  ·exact(n5 (h.heap.apart j q B0 _ b hB0 hbq hl0' rfl hb0' (inQ 0 v0 b g0 hv1))).elim
  ·have:=hdis (k+1) 0 x v0 b hk g0 hx hv2;omega
  ·exact(n5 (h.heap.apart j i B0 _ b hB0 hbq hl0' rfl hb0' (inQ (k+1) x b hk hx))).elim
  ·exact(n2 (h.heap.apart i q A0 _ b hA0 hbq hl0 rfl hb0 (inQ 0 v0 b g0 hv2))).elim
  ·exact(n2 (h.heap.apart i j A0 _ b hA0 hbq hl0 rfl hb0 (inQ (k'+1) x' b hk' hx'))).elim
  ·exact h.heap.apart i j A0 B0 b hA0 hB0 hl0 hl0' hb0 hb0'
 ·intro i B hB hro
  rcases get i B hB with ⟨rfl, rfl⟩ | ⟨rfl, rfl⟩ | ⟨h1, h2, B0, hB0, rfl⟩
  ·cases hro
  ·cases hro
  ·have:Jm q st.heap.length B0=B0:=by
    cases B0<;>first | rfl | (cases hro;done) | (simp only[Jm]at hro;split at hro<;>cases hro)
   rw[this]
   exact⟨hB0, mo i h2 h1⟩
def FB (q:Nat):Fs:=⟨Cy q, H3 q⟩
def Nb (j i:Nat) (d:D):D:=if D.free i d&&D.free j d then d else match d with
 | .ptr k a b c=>if Nat.beq k j then .ptr i a b c else .junk
 | _=>.junk
def Nc (j i:Nat):List (Nat×D)→List (Nat×D)
 | []=>[]
 | (t, d)::r=>(t, Nb j i d)::Nc j i r
theorem Cz {j i:Nat}:∀{env:List (Nat×D)} {t:Nat} {d:D}, (t, d)∈Nc j i env→∃e, (t, e)∈env∧d=Nb j i e
 | (s, e)::r, t, d, h=>by
  rcases List.mem_cons.1 h with h | h
  ·cases h;exact⟨e, List.mem_cons_self .., rfl⟩
  ·obtain⟨e', h1, h2⟩:=Cz h
   exact⟨e', List.mem_cons_of_mem _ h1, h2⟩
def H4 (j i:Nat) (st:St):St×Prop:=match st.heap[j]? with
 | some (.var T cs)=>if bx i st.heap&&bx j st.heap&&!(Nat.beq i j)&&Nat.blt i st.heap.length then (⟨Nc j i st.env, (st.heap.set i (.var T cs)).set j .dead⟩, True)else (st, False)
 | _=>(st, False)
theorem J7 (j i:Nat) (st:St) (hp:(H4 j i st).2):Gh st (H4 j i st).1:=fun C S μ a w h=>by
 unfold H4 at hp ⊢
 split
 rotate_left
 ·rename_i hn
  split at hp
  ·rename_i T cs h1;exact(hn _ _ h1).elim
  ·exact hp.elim
 rename_i T cs hbj
 rw[hbj]at hp
 split
 rotate_left
 ·rename_i hc;simp only at hp;rw[if_neg hc]at hp;exact hp.elim
 rename_i hc
 simp only[Bool.and_eq_true, Bool.not_eq_true', Nat.blt_eq]at hc
 obtain⟨⟨⟨f1, f2⟩, hne⟩, hil⟩:=hc
 have hij:i≠j:=fun e=>by subst e;rw[Nat.beq_refl]at hne;cases hne
 have hjl:j<st.heap.length:=(List.getElem?_eq_some_iff.1 hbj).1
 have get:∀(k:Nat) (B:aq), ((st.heap.set i (.var T cs)).set j .dead)[k]?=some B→(k=j∧B=.dead)∨(k=i∧k≠j∧B=.var T cs)∨(k≠i∧k≠j∧st.heap[k]?=some B):=by
  intro k B hB
  by_cases e1:k=j
  ·subst e1;rw[List.getElem?_set_self (by rw[List.length_set];exact hjl)]at hB;cases hB;exact .inl ⟨rfl, rfl⟩
  ·rw[List.getElem?_set_ne (Ne.symm e1)]at hB
   by_cases e2:k=i
   ·subst e2;rw[List.getElem?_set_self hil]at hB;cases hB;exact .inr (.inl ⟨rfl, e1, rfl⟩)
   ·rw[List.getElem?_set_ne (Ne.symm e2)]at hB;exact .inr (.inr ⟨e2, e1, hB⟩)
 have mo:∀k, k≠i→aV μ i (μ j) k=μ k:=fun k hk=>aF _ _ hk
 refine⟨S, aV μ i (μ j), h.retell ?_ ?_ ?_ ?_ ?_⟩
 ·intro t d hm
  obtain⟨e, he, rfl⟩:=Cz hm
  refine⟨e, he, fun u hu=>?_⟩
  unfold Nb
  split
  ·rename_i hf
   simp only[Bool.and_eq_true]at hf
   exact hu.stable (fun _ h _=>h) (fun _ _ _=>rfl) (Nat.le_refl _) (fun id hid=>mo id (fun e=>by rw[e, hf.1]at hid;cases hid))
  ·split
   ·rename_i k a' b c
    split
    ·rename_i hk
     rw[Nat.beq_eq]at hk
     subst hk
     cases hu with
     | ptr _ _ _ _ b' hb=>exact .ptr i _ _ _ b' (by rw[av];exact hb)
    ·exact .junk _
   ·exact .junk _
 ·intro k B hB
  rcases get k B hB with ⟨rfl, rfl⟩ | ⟨rfl, hkj, rfl⟩ | ⟨h1, h2, h3⟩
  ·exact trivial
  ·rw[av]
   exact(h.heap.box j _ hbj).stable (fun _ h _=>h) (fun _ _ _=>rfl) (Nat.le_refl _) (fun id hid=>mo id (fun e=>by rw[e, b7 f1 hbj]at hid;cases hid)) (fun _ _=>rfl)
  ·rw[mo k h1]
   exact(h.heap.box k B h3).stable (fun _ h _=>h) (fun _ _ _=>rfl) (Nat.le_refl _) (fun id hid=>mo id (fun e=>by rw[e, b7 f1 h3]at hid;cases hid)) (fun _ _=>rfl)
 ·intro k B b hB hl hb
  rcases get k B hB with ⟨rfl, rfl⟩ | ⟨rfl, hkj, rfl⟩ | ⟨h1, h2, h3⟩
  ·cases hl
  ·rw[av]at hb;exact⟨j, _, hbj, rfl, hb⟩
  ·rw[mo k h1]at hb;exact⟨k, B, h3, hl, hb⟩
 ·intro k l A B b hA hB lA lB hbk hbl
  rcases get k A hA with ⟨rfl, rfl⟩ | ⟨rfl, hkj, rfl⟩ | ⟨h1, h2, h3⟩
  ·cases lA
  ·rcases get l B hB with ⟨rfl, rfl⟩ | ⟨rfl, hlj, rfl⟩ | ⟨q1, q2, q3⟩
   ·cases lB
   ·rfl
   ·rw[av]at hbk
    rw[mo l q1]at hbl
    exact(q2 (h.heap.apart j l _ B b hbj q3 rfl lB hbk hbl).symm).elim
  ·rw[mo k h1]at hbk
   rcases get l B hB with ⟨rfl, rfl⟩ | ⟨rfl, hlj, rfl⟩ | ⟨q1, q2, q3⟩
   ·cases lB
   ·rw[av]at hbl
    exact(h2 (h.heap.apart k j A _ b h3 hbj lA rfl hbk hbl)).elim
   ·rw[mo l q1]at hbl
    exact h.heap.apart k l A B b h3 q3 lA lB hbk hbl
 ·intro k B hB hro
  rcases get k B hB with ⟨rfl, rfl⟩ | ⟨rfl, hkj, rfl⟩ | ⟨h1, h2, h3⟩
  ·cases hro
  ·cases hro
  ·exact⟨h3, mo k h1⟩
def OA (j i:Nat):Fs:=⟨H4 j i, J7 j i⟩
theorem wy {α:Type} {enc:α→List V} {d:α} {l l':List α} {sz:Nat} (h:l'=l) (hs:∀x, (enc x).length=sz):l'.length=l.length∧(∀x∈l', (enc x).length=sz)∧∀i j, i<l.length→j<sz→iL enc d l i j=iL enc d l' i j:=by
 subst h;exact⟨rfl, fun x _=>hs x, fun _ _ _ _=>rfl⟩
end
end Go.Proofs.YtckgpflobhpnpaaGreat
