/- Parts of a proof. -/
import Derived.Test.YtnlmlkbaflmgcaaQMjN
namespace Go.Proofs.Ytnlmlkbaflmgcaa
open Go.RowKit
set_option linter.unusedVariables false
set_option linter.unusedSimpArgs false
set_option maxRecDepth 100000
abbrev c8:Ct:=⟨8,[],false,(dB true)⟩
abbrev t3:List ax:=[(.var 51 [(i6 1),(dS e0),(i6 0)]),(.var 51 [(i6 2),(dS (bs [114])),(i6 0)]),(.var 51 [(i6 3),(dS (bs [114])),(i6 2)]),.dead,.dead,.dead,.dead,.dead,.dead,.dead,(.var 31 [(dL 6 bp ac ((am [ab (bs [114]) 2 (⟨1,e0,0⟩:ah)] [ak (bs [109]) 2 (⟨1,e0,0⟩:ah)]).U)),(dL 5 bP aF ((am [ab (bs [114]) 2 (⟨1,e0,0⟩:ah)] [ak (bs [109]) 2 (⟨1,e0,0⟩:ah)]).J))]),.dead,.dead,.dead,.dead,(.var 35 [(dL 2 bo a8 [(⟨[3],[[1,2]]⟩:Ps)]),.nils]),.dead,.dead,.dead,.dead,.dead,.dead,.dead,(.var 42 [(dL 2 bo a8 (((ae (am [ab (bs [114]) 2 (⟨1,e0,0⟩:ah)] [ak (bs [109]) 2 (⟨1,e0,0⟩:ah)]) (am [ab (bs [114]) 2 (⟨1,e0,0⟩:ah)] []) (⟨[(⟨[3],[[1,2]]⟩:Ps)],[]⟩:Ns)).1).U)),(dL 1 af [] (((ae (am [ab (bs [114]) 2 (⟨1,e0,0⟩:ah)] [ak (bs [109]) 2 (⟨1,e0,0⟩:ah)]) (am [ab (bs [114]) 2 (⟨1,e0,0⟩:ah)] []) (⟨[(⟨[3],[[1,2]]⟩:Ps)],[]⟩:Ns)).1).J)),(i6 ((ae (am [ab (bs [114]) 2 (⟨1,e0,0⟩:ah)] [ak (bs [109]) 2 (⟨1,e0,0⟩:ah)]) (am [ab (bs [114]) 2 (⟨1,e0,0⟩:ah)] []) (⟨[(⟨[3],[[1,2]]⟩:Ps)],[]⟩:Ns)).2))]),.dead,.dead,.dead,.dead,.dead,.dead,.dead,.dead,.dead,.dead,(.var 42 [(dL 2 bo a8 (((ae (am [ab (bs [114]) 2 (⟨1,e0,0⟩:ah)] [ak (bs [109]) 2 (⟨1,e0,0⟩:ah)]) (am [ab (bs [120]) 1 (⟨2,(bs [114]),0⟩:ah)] [ak (bs [110]) 4 (⟨2,(bs [109]),0⟩:ah)]) (⟨[(⟨[3],[[1,2]]⟩:Ps)],[]⟩:Ns)).1).U)),(dL 1 af [] (((ae (am [ab (bs [114]) 2 (⟨1,e0,0⟩:ah)] [ak (bs [109]) 2 (⟨1,e0,0⟩:ah)]) (am [ab (bs [120]) 1 (⟨2,(bs [114]),0⟩:ah)] [ak (bs [110]) 4 (⟨2,(bs [109]),0⟩:ah)]) (⟨[(⟨[3],[[1,2]]⟩:Ps)],[]⟩:Ns)).1).J)),(i6 ((ae (am [ab (bs [114]) 2 (⟨1,e0,0⟩:ah)] [ak (bs [109]) 2 (⟨1,e0,0⟩:ah)]) (am [ab (bs [120]) 1 (⟨2,(bs [114]),0⟩:ah)] [ak (bs [110]) 4 (⟨2,(bs [109]),0⟩:ah)]) (⟨[(⟨[3],[[1,2]]⟩:Ps)],[]⟩:Ns)).2))]),.dead,.dead,.dead,.dead,.dead,.dead,.dead,.dead,.dead,.dead,(.var 42 [(dL 2 bo a8 (((ae (am [ab (bs [114]) 2 (⟨1,e0,0⟩:ah)] [ak (bs [109]) 2 (⟨1,e0,0⟩:ah)]) (am [ab (bs [120]) 3 (⟨3,(bs [114]),2⟩:ah)] [ak (bs [110]) 4 (⟨3,(bs [109]),1⟩:ah)]) (⟨[(⟨[3],[[1,2]]⟩:Ps)],[]⟩:Ns)).1).U)),(dL 1 af [] (((ae (am [ab (bs [114]) 2 (⟨1,e0,0⟩:ah)] [ak (bs [109]) 2 (⟨1,e0,0⟩:ah)]) (am [ab (bs [120]) 3 (⟨3,(bs [114]),2⟩:ah)] [ak (bs [110]) 4 (⟨3,(bs [109]),1⟩:ah)]) (⟨[(⟨[3],[[1,2]]⟩:Ps)],[]⟩:Ns)).1).J)),(i6 ((ae (am [ab (bs [114]) 2 (⟨1,e0,0⟩:ah)] [ak (bs [109]) 2 (⟨1,e0,0⟩:ah)]) (am [ab (bs [120]) 3 (⟨3,(bs [114]),2⟩:ah)] [ak (bs [110]) 4 (⟨3,(bs [109]),1⟩:ah)]) (⟨[(⟨[3],[[1,2]]⟩:Ps)],[]⟩:Ns)).2))]),.dead,.dead,.dead,.dead,.dead,.dead,.dead,.dead,.dead,.dead]
abbrev fC:List (Nat×D):=[(4,(.ptr 10 0 0 0))]
abbrev i8:List ax:=[(.var 51 [(i6 1),(dS e0),(i6 0)]),(.var 51 [(i6 2),(dS (bs [114])),(i6 0)]),(.var 51 [(i6 3),(dS (bs [114])),(i6 2)]),.dead,.dead,.dead,.dead,.dead,.dead,.dead,(.var 31 [(dL 6 bp ac ((am [ab (bs [114]) 2 (⟨1,e0,0⟩:ah)] [ak (bs [109]) 2 (⟨1,e0,0⟩:ah)]).U)),(dL 5 bP aF ((am [ab (bs [114]) 2 (⟨1,e0,0⟩:ah)] [ak (bs [109]) 2 (⟨1,e0,0⟩:ah)]).J))]),.dead,.dead,.dead,.dead,(.var 35 [(dL 2 bo a8 [(⟨[3],[[1,2]]⟩:Ps)]),.nils]),.dead,.dead,.dead,.dead,.dead,.dead,.dead,(.var 42 [(dL 2 bo a8 (((ae (am [ab (bs [114]) 2 (⟨1,e0,0⟩:ah)] [ak (bs [109]) 2 (⟨1,e0,0⟩:ah)]) (am [ab (bs [114]) 2 (⟨1,e0,0⟩:ah)] []) (⟨[(⟨[3],[[1,2]]⟩:Ps)],[]⟩:Ns)).1).U)),(dL 1 af [] (((ae (am [ab (bs [114]) 2 (⟨1,e0,0⟩:ah)] [ak (bs [109]) 2 (⟨1,e0,0⟩:ah)]) (am [ab (bs [114]) 2 (⟨1,e0,0⟩:ah)] []) (⟨[(⟨[3],[[1,2]]⟩:Ps)],[]⟩:Ns)).1).J)),(i6 ((ae (am [ab (bs [114]) 2 (⟨1,e0,0⟩:ah)] [ak (bs [109]) 2 (⟨1,e0,0⟩:ah)]) (am [ab (bs [114]) 2 (⟨1,e0,0⟩:ah)] []) (⟨[(⟨[3],[[1,2]]⟩:Ps)],[]⟩:Ns)).2))]),.dead,.dead,.dead,.dead,.dead,.dead,.dead,.dead,.dead,.dead,(.var 42 [(dL 2 bo a8 (((ae (am [ab (bs [114]) 2 (⟨1,e0,0⟩:ah)] [ak (bs [109]) 2 (⟨1,e0,0⟩:ah)]) (am [ab (bs [120]) 1 (⟨2,(bs [114]),0⟩:ah)] [ak (bs [110]) 4 (⟨2,(bs [109]),0⟩:ah)]) (⟨[(⟨[3],[[1,2]]⟩:Ps)],[]⟩:Ns)).1).U)),(dL 1 af [] (((ae (am [ab (bs [114]) 2 (⟨1,e0,0⟩:ah)] [ak (bs [109]) 2 (⟨1,e0,0⟩:ah)]) (am [ab (bs [120]) 1 (⟨2,(bs [114]),0⟩:ah)] [ak (bs [110]) 4 (⟨2,(bs [109]),0⟩:ah)]) (⟨[(⟨[3],[[1,2]]⟩:Ps)],[]⟩:Ns)).1).J)),(i6 ((ae (am [ab (bs [114]) 2 (⟨1,e0,0⟩:ah)] [ak (bs [109]) 2 (⟨1,e0,0⟩:ah)]) (am [ab (bs [120]) 1 (⟨2,(bs [114]),0⟩:ah)] [ak (bs [110]) 4 (⟨2,(bs [109]),0⟩:ah)]) (⟨[(⟨[3],[[1,2]]⟩:Ps)],[]⟩:Ns)).2))]),.dead,.dead,.dead,.dead,.dead,.dead,.dead,.dead,.dead,.dead,(.var 42 [(dL 2 bo a8 (((ae (am [ab (bs [114]) 2 (⟨1,e0,0⟩:ah)] [ak (bs [109]) 2 (⟨1,e0,0⟩:ah)]) (am [ab (bs [120]) 3 (⟨3,(bs [114]),2⟩:ah)] [ak (bs [110]) 4 (⟨3,(bs [109]),1⟩:ah)]) (⟨[(⟨[3],[[1,2]]⟩:Ps)],[]⟩:Ns)).1).U)),(dL 1 af [] (((ae (am [ab (bs [114]) 2 (⟨1,e0,0⟩:ah)] [ak (bs [109]) 2 (⟨1,e0,0⟩:ah)]) (am [ab (bs [120]) 3 (⟨3,(bs [114]),2⟩:ah)] [ak (bs [110]) 4 (⟨3,(bs [109]),1⟩:ah)]) (⟨[(⟨[3],[[1,2]]⟩:Ps)],[]⟩:Ns)).1).J)),(i6 ((ae (am [ab (bs [114]) 2 (⟨1,e0,0⟩:ah)] [ak (bs [109]) 2 (⟨1,e0,0⟩:ah)]) (am [ab (bs [120]) 3 (⟨3,(bs [114]),2⟩:ah)] [ak (bs [110]) 4 (⟨3,(bs [109]),1⟩:ah)]) (⟨[(⟨[3],[[1,2]]⟩:Ps)],[]⟩:Ns)).2))]),.dead,.dead,.dead,.dead,.dead,.dead,.dead,.dead,.dead,.dead]
abbrev i9:List ax:=[(.var 31 [(.own 58),.nils]),(.arr 80 6 bp ac [(⟨(bs [112]),(bs [97]),[],[],[],[]⟩:Pr)])]
theorem zl  : CC c8:=by
 refine aq.vc (V:=TT 11 (CC (I2 (bs [114]) 2 (⟨1,e0,0⟩:ah))∧an [[(dS ((ab (bs [114]) 2 (⟨1,e0,0⟩:ah)).name)),(i6 ((ab (bs [114]) 2 (⟨1,e0,0⟩:ah)).w)),(i6 ((ab (bs [114]) 2 (⟨1,e0,0⟩:ah)).init)),(i6 (((ab (bs [114]) 2 (⟨1,e0,0⟩:ah)).next).op)),(dS (((ab (bs [114]) 2 (⟨1,e0,0⟩:ah)).next).name)),(i6 ((((ab (bs [114]) 2 (⟨1,e0,0⟩:ah)).next).k).n)),(dS ((((ab (bs [114]) 2 (⟨1,e0,0⟩:ah)).next).k).p)),(i6 ((((ab (bs [114]) 2 (⟨1,e0,0⟩:ah)).next).w).n)),(dS ((((ab (bs [114]) 2 (⟨1,e0,0⟩:ah)).next).w).p)),(dL 7 (eA 2) dE (((ab (bs [114]) 2 (⟨1,e0,0⟩:ah)).next).args)),(i6 (((ab (bs [114]) 2 (⟨1,e0,0⟩:ah)).rule).kind)),(dS (((ab (bs [114]) 2 (⟨1,e0,0⟩:ah)).rule).src)),(i6 (((ab (bs [114]) 2 (⟨1,e0,0⟩:ah)).rule).n))]] ([ab (bs [114]) 2 (⟨1,e0,0⟩:ah)].map bG)∧TT 1 (CC (K4 (bs [109]) 2 (⟨1,e0,0⟩:ah))∧an [[(dS ((ak (bs [109]) 2 (⟨1,e0,0⟩:ah)).name)),(i6 ((ak (bs [109]) 2 (⟨1,e0,0⟩:ah)).w)),(i6 ((ak (bs [109]) 2 (⟨1,e0,0⟩:ah)).words)),(i6 (((ak (bs [109]) 2 (⟨1,e0,0⟩:ah)).enable).op)),(dS (((ak (bs [109]) 2 (⟨1,e0,0⟩:ah)).enable).name)),(i6 ((((ak (bs [109]) 2 (⟨1,e0,0⟩:ah)).enable).k).n)),(dS ((((ak (bs [109]) 2 (⟨1,e0,0⟩:ah)).enable).k).p)),(i6 ((((ak (bs [109]) 2 (⟨1,e0,0⟩:ah)).enable).w).n)),(dS ((((ak (bs [109]) 2 (⟨1,e0,0⟩:ah)).enable).w).p)),(dL 7 (eA 2) dE (((ak (bs [109]) 2 (⟨1,e0,0⟩:ah)).enable).args)),(i6 (((ak (bs [109]) 2 (⟨1,e0,0⟩:ah)).addr).op)),(dS (((ak (bs [109]) 2 (⟨1,e0,0⟩:ah)).addr).name)),(i6 ((((ak (bs [109]) 2 (⟨1,e0,0⟩:ah)).addr).k).n)),(dS ((((ak (bs [109]) 2 (⟨1,e0,0⟩:ah)).addr).k).p)),(i6 ((((ak (bs [109]) 2 (⟨1,e0,0⟩:ah)).addr).w).n)),(dS ((((ak (bs [109]) 2 (⟨1,e0,0⟩:ah)).addr).w).p)),(dL 7 (eA 2) dE (((ak (bs [109]) 2 (⟨1,e0,0⟩:ah)).addr).args)),(i6 (((ak (bs [109]) 2 (⟨1,e0,0⟩:ah)).data).op)),(dS (((ak (bs [109]) 2 (⟨1,e0,0⟩:ah)).data).name)),(i6 ((((ak (bs [109]) 2 (⟨1,e0,0⟩:ah)).data).k).n)),(dS ((((ak (bs [109]) 2 (⟨1,e0,0⟩:ah)).data).k).p)),(i6 ((((ak (bs [109]) 2 (⟨1,e0,0⟩:ah)).data).w).n)),(dS ((((ak (bs [109]) 2 (⟨1,e0,0⟩:ah)).data).w).p)),(dL 7 (eA 2) dE (((ak (bs [109]) 2 (⟨1,e0,0⟩:ah)).data).args)),(i6 (((ak (bs [109]) 2 (⟨1,e0,0⟩:ah)).rule).kind)),(dS (((ak (bs [109]) 2 (⟨1,e0,0⟩:ah)).rule).src)),(i6 (((ak (bs [109]) 2 (⟨1,e0,0⟩:ah)).rule).n))]] ([ak (bs [109]) 2 (⟨1,e0,0⟩:ah)].map bS)∧CC (Eg [ab (bs [114]) 2 (⟨1,e0,0⟩:ah)] [ak (bs [109]) 2 (⟨1,e0,0⟩:ah)])∧TT 2 (an [[(i6 3)]] ([3].map (aa .i64))∧an [[(i6 1)],[(i6 2)]] ([1,2].map (aa .i64))∧an [[(LI [1,2])]] ([[1,2]].map af)∧TT 1 (an [[(LI [3]),(dL 1 af [] [[1,2]])]] ([(⟨[3],[[1,2]]⟩:Ps)].map bo)∧TT 5 (CC (I2 (bs [114]) 2 (⟨1,e0,0⟩:ah))∧an [[(dS ((ab (bs [114]) 2 (⟨1,e0,0⟩:ah)).name)),(i6 ((ab (bs [114]) 2 (⟨1,e0,0⟩:ah)).w)),(i6 ((ab (bs [114]) 2 (⟨1,e0,0⟩:ah)).init)),(i6 (((ab (bs [114]) 2 (⟨1,e0,0⟩:ah)).next).op)),(dS (((ab (bs [114]) 2 (⟨1,e0,0⟩:ah)).next).name)),(i6 ((((ab (bs [114]) 2 (⟨1,e0,0⟩:ah)).next).k).n)),(dS ((((ab (bs [114]) 2 (⟨1,e0,0⟩:ah)).next).k).p)),(i6 ((((ab (bs [114]) 2 (⟨1,e0,0⟩:ah)).next).w).n)),(dS ((((ab (bs [114]) 2 (⟨1,e0,0⟩:ah)).next).w).p)),(dL 7 (eA 2) dE (((ab (bs [114]) 2 (⟨1,e0,0⟩:ah)).next).args)),(i6 (((ab (bs [114]) 2 (⟨1,e0,0⟩:ah)).rule).kind)),(dS (((ab (bs [114]) 2 (⟨1,e0,0⟩:ah)).rule).src)),(i6 (((ab (bs [114]) 2 (⟨1,e0,0⟩:ah)).rule).n))]] ([ab (bs [114]) 2 (⟨1,e0,0⟩:ah)].map bG)∧(rz [] [(dL 13 bG aK [ab (bs [114]) 2 (⟨1,e0,0⟩:ah)]),.nils] (Eg [ab (bs [114]) 2 (⟨1,e0,0⟩:ah)] []).q'∧CC (Eg [ab (bs [114]) 2 (⟨1,e0,0⟩:ah)] []))∧TT 1 ((rz [] [(.agg [(dL 6 bp ac ((am [ab (bs [114]) 2 (⟨1,e0,0⟩:ah)] [ak (bs [109]) 2 (⟨1,e0,0⟩:ah)]).U)),(dL 5 bP aF ((am [ab (bs [114]) 2 (⟨1,e0,0⟩:ah)] [ak (bs [109]) 2 (⟨1,e0,0⟩:ah)]).J))]),(.agg [(dL 6 bp ac ((am [ab (bs [114]) 2 (⟨1,e0,0⟩:ah)] []).U)),(dL 5 bP aF ((am [ab (bs [114]) 2 (⟨1,e0,0⟩:ah)] []).J))]),(.agg [(dL 2 bo a8 [(⟨[3],[[1,2]]⟩:Ps)]),.nils])] (rL (am [ab (bs [114]) 2 (⟨1,e0,0⟩:ah)] [ak (bs [109]) 2 (⟨1,e0,0⟩:ah)]) (am [ab (bs [114]) 2 (⟨1,e0,0⟩:ah)] []) (⟨[(⟨[3],[[1,2]]⟩:Ps)],[]⟩:Ns)).q'∧CC (rL (am [ab (bs [114]) 2 (⟨1,e0,0⟩:ah)] [ak (bs [109]) 2 (⟨1,e0,0⟩:ah)]) (am [ab (bs [114]) 2 (⟨1,e0,0⟩:ah)] []) (⟨[(⟨[3],[[1,2]]⟩:Ps)],[]⟩:Ns)))∧TT 4 (CC (I2 (bs [120]) 1 (⟨2,(bs [114]),0⟩:ah))∧an [[(dS ((ab (bs [120]) 1 (⟨2,(bs [114]),0⟩:ah)).name)),(i6 ((ab (bs [120]) 1 (⟨2,(bs [114]),0⟩:ah)).w)),(i6 ((ab (bs [120]) 1 (⟨2,(bs [114]),0⟩:ah)).init)),(i6 (((ab (bs [120]) 1 (⟨2,(bs [114]),0⟩:ah)).next).op)),(dS (((ab (bs [120]) 1 (⟨2,(bs [114]),0⟩:ah)).next).name)),(i6 ((((ab (bs [120]) 1 (⟨2,(bs [114]),0⟩:ah)).next).k).n)),(dS ((((ab (bs [120]) 1 (⟨2,(bs [114]),0⟩:ah)).next).k).p)),(i6 ((((ab (bs [120]) 1 (⟨2,(bs [114]),0⟩:ah)).next).w).n)),(dS ((((ab (bs [120]) 1 (⟨2,(bs [114]),0⟩:ah)).next).w).p)),(dL 7 (eA 2) dE (((ab (bs [120]) 1 (⟨2,(bs [114]),0⟩:ah)).next).args)),(i6 (((ab (bs [120]) 1 (⟨2,(bs [114]),0⟩:ah)).rule).kind)),(dS (((ab (bs [120]) 1 (⟨2,(bs [114]),0⟩:ah)).rule).src)),(i6 (((ab (bs [120]) 1 (⟨2,(bs [114]),0⟩:ah)).rule).n))]] ([ab (bs [120]) 1 (⟨2,(bs [114]),0⟩:ah)].map bG)∧TT 1 (CC (K4 (bs [110]) 4 (⟨2,(bs [109]),0⟩:ah))∧an [[(dS ((ak (bs [110]) 4 (⟨2,(bs [109]),0⟩:ah)).name)),(i6 ((ak (bs [110]) 4 (⟨2,(bs [109]),0⟩:ah)).w)),(i6 ((ak (bs [110]) 4 (⟨2,(bs [109]),0⟩:ah)).words)),(i6 (((ak (bs [110]) 4 (⟨2,(bs [109]),0⟩:ah)).enable).op)),(dS (((ak (bs [110]) 4 (⟨2,(bs [109]),0⟩:ah)).enable).name)),(i6 ((((ak (bs [110]) 4 (⟨2,(bs [109]),0⟩:ah)).enable).k).n)),(dS ((((ak (bs [110]) 4 (⟨2,(bs [109]),0⟩:ah)).enable).k).p)),(i6 ((((ak (bs [110]) 4 (⟨2,(bs [109]),0⟩:ah)).enable).w).n)),(dS ((((ak (bs [110]) 4 (⟨2,(bs [109]),0⟩:ah)).enable).w).p)),(dL 7 (eA 2) dE (((ak (bs [110]) 4 (⟨2,(bs [109]),0⟩:ah)).enable).args)),(i6 (((ak (bs [110]) 4 (⟨2,(bs [109]),0⟩:ah)).addr).op)),(dS (((ak (bs [110]) 4 (⟨2,(bs [109]),0⟩:ah)).addr).name)),(i6 ((((ak (bs [110]) 4 (⟨2,(bs [109]),0⟩:ah)).addr).k).n)),(dS ((((ak (bs [110]) 4 (⟨2,(bs [109]),0⟩:ah)).addr).k).p)),(i6 ((((ak (bs [110]) 4 (⟨2,(bs [109]),0⟩:ah)).addr).w).n)),(dS ((((ak (bs [110]) 4 (⟨2,(bs [109]),0⟩:ah)).addr).w).p)),(dL 7 (eA 2) dE (((ak (bs [110]) 4 (⟨2,(bs [109]),0⟩:ah)).addr).args)),(i6 (((ak (bs [110]) 4 (⟨2,(bs [109]),0⟩:ah)).data).op)),(dS (((ak (bs [110]) 4 (⟨2,(bs [109]),0⟩:ah)).data).name)),(i6 ((((ak (bs [110]) 4 (⟨2,(bs [109]),0⟩:ah)).data).k).n)),(dS ((((ak (bs [110]) 4 (⟨2,(bs [109]),0⟩:ah)).data).k).p)),(i6 ((((ak (bs [110]) 4 (⟨2,(bs [109]),0⟩:ah)).data).w).n)),(dS ((((ak (bs [110]) 4 (⟨2,(bs [109]),0⟩:ah)).data).w).p)),(dL 7 (eA 2) dE (((ak (bs [110]) 4 (⟨2,(bs [109]),0⟩:ah)).data).args)),(i6 (((ak (bs [110]) 4 (⟨2,(bs [109]),0⟩:ah)).rule).kind)),(dS (((ak (bs [110]) 4 (⟨2,(bs [109]),0⟩:ah)).rule).src)),(i6 (((ak (bs [110]) 4 (⟨2,(bs [109]),0⟩:ah)).rule).n))]] ([ak (bs [110]) 4 (⟨2,(bs [109]),0⟩:ah)].map bS)∧CC (Eg [ab (bs [120]) 1 (⟨2,(bs [114]),0⟩:ah)] [ak (bs [110]) 4 (⟨2,(bs [109]),0⟩:ah)])∧TT 1 ((rz [] [(.agg [(dL 6 bp ac ((am [ab (bs [114]) 2 (⟨1,e0,0⟩:ah)] [ak (bs [109]) 2 (⟨1,e0,0⟩:ah)]).U)),(dL 5 bP aF ((am [ab (bs [114]) 2 (⟨1,e0,0⟩:ah)] [ak (bs [109]) 2 (⟨1,e0,0⟩:ah)]).J))]),(.agg [(dL 6 bp ac ((am [ab (bs [120]) 1 (⟨2,(bs [114]),0⟩:ah)] [ak (bs [110]) 4 (⟨2,(bs [109]),0⟩:ah)]).U)),(dL 5 bP aF ((am [ab (bs [120]) 1 (⟨2,(bs [114]),0⟩:ah)] [ak (bs [110]) 4 (⟨2,(bs [109]),0⟩:ah)]).J))]),(.agg [(dL 2 bo a8 [(⟨[3],[[1,2]]⟩:Ps)]),.nils])] (rL (am [ab (bs [114]) 2 (⟨1,e0,0⟩:ah)] [ak (bs [109]) 2 (⟨1,e0,0⟩:ah)]) (am [ab (bs [120]) 1 (⟨2,(bs [114]),0⟩:ah)] [ak (bs [110]) 4 (⟨2,(bs [109]),0⟩:ah)]) (⟨[(⟨[3],[[1,2]]⟩:Ps)],[]⟩:Ns)).q'∧CC (rL (am [ab (bs [114]) 2 (⟨1,e0,0⟩:ah)] [ak (bs [109]) 2 (⟨1,e0,0⟩:ah)]) (am [ab (bs [120]) 1 (⟨2,(bs [114]),0⟩:ah)] [ak (bs [110]) 4 (⟨2,(bs [109]),0⟩:ah)]) (⟨[(⟨[3],[[1,2]]⟩:Ps)],[]⟩:Ns)))∧TT 4 (CC (I2 (bs [120]) 3 (⟨3,(bs [114]),2⟩:ah))∧an [[(dS ((ab (bs [120]) 3 (⟨3,(bs [114]),2⟩:ah)).name)),(i6 ((ab (bs [120]) 3 (⟨3,(bs [114]),2⟩:ah)).w)),(i6 ((ab (bs [120]) 3 (⟨3,(bs [114]),2⟩:ah)).init)),(i6 (((ab (bs [120]) 3 (⟨3,(bs [114]),2⟩:ah)).next).op)),(dS (((ab (bs [120]) 3 (⟨3,(bs [114]),2⟩:ah)).next).name)),(i6 ((((ab (bs [120]) 3 (⟨3,(bs [114]),2⟩:ah)).next).k).n)),(dS ((((ab (bs [120]) 3 (⟨3,(bs [114]),2⟩:ah)).next).k).p)),(i6 ((((ab (bs [120]) 3 (⟨3,(bs [114]),2⟩:ah)).next).w).n)),(dS ((((ab (bs [120]) 3 (⟨3,(bs [114]),2⟩:ah)).next).w).p)),(dL 7 (eA 2) dE (((ab (bs [120]) 3 (⟨3,(bs [114]),2⟩:ah)).next).args)),(i6 (((ab (bs [120]) 3 (⟨3,(bs [114]),2⟩:ah)).rule).kind)),(dS (((ab (bs [120]) 3 (⟨3,(bs [114]),2⟩:ah)).rule).src)),(i6 (((ab (bs [120]) 3 (⟨3,(bs [114]),2⟩:ah)).rule).n))]] ([ab (bs [120]) 3 (⟨3,(bs [114]),2⟩:ah)].map bG)∧TT 1 (CC (K4 (bs [110]) 4 (⟨3,(bs [109]),1⟩:ah))∧an [[(dS ((ak (bs [110]) 4 (⟨3,(bs [109]),1⟩:ah)).name)),(i6 ((ak (bs [110]) 4 (⟨3,(bs [109]),1⟩:ah)).w)),(i6 ((ak (bs [110]) 4 (⟨3,(bs [109]),1⟩:ah)).words)),(i6 (((ak (bs [110]) 4 (⟨3,(bs [109]),1⟩:ah)).enable).op)),(dS (((ak (bs [110]) 4 (⟨3,(bs [109]),1⟩:ah)).enable).name)),(i6 ((((ak (bs [110]) 4 (⟨3,(bs [109]),1⟩:ah)).enable).k).n)),(dS ((((ak (bs [110]) 4 (⟨3,(bs [109]),1⟩:ah)).enable).k).p)),(i6 ((((ak (bs [110]) 4 (⟨3,(bs [109]),1⟩:ah)).enable).w).n)),(dS ((((ak (bs [110]) 4 (⟨3,(bs [109]),1⟩:ah)).enable).w).p)),(dL 7 (eA 2) dE (((ak (bs [110]) 4 (⟨3,(bs [109]),1⟩:ah)).enable).args)),(i6 (((ak (bs [110]) 4 (⟨3,(bs [109]),1⟩:ah)).addr).op)),(dS (((ak (bs [110]) 4 (⟨3,(bs [109]),1⟩:ah)).addr).name)),(i6 ((((ak (bs [110]) 4 (⟨3,(bs [109]),1⟩:ah)).addr).k).n)),(dS ((((ak (bs [110]) 4 (⟨3,(bs [109]),1⟩:ah)).addr).k).p)),(i6 ((((ak (bs [110]) 4 (⟨3,(bs [109]),1⟩:ah)).addr).w).n)),(dS ((((ak (bs [110]) 4 (⟨3,(bs [109]),1⟩:ah)).addr).w).p)),(dL 7 (eA 2) dE (((ak (bs [110]) 4 (⟨3,(bs [109]),1⟩:ah)).addr).args)),(i6 (((ak (bs [110]) 4 (⟨3,(bs [109]),1⟩:ah)).data).op)),(dS (((ak (bs [110]) 4 (⟨3,(bs [109]),1⟩:ah)).data).name)),(i6 ((((ak (bs [110]) 4 (⟨3,(bs [109]),1⟩:ah)).data).k).n)),(dS ((((ak (bs [110]) 4 (⟨3,(bs [109]),1⟩:ah)).data).k).p)),(i6 ((((ak (bs [110]) 4 (⟨3,(bs [109]),1⟩:ah)).data).w).n)),(dS ((((ak (bs [110]) 4 (⟨3,(bs [109]),1⟩:ah)).data).w).p)),(dL 7 (eA 2) dE (((ak (bs [110]) 4 (⟨3,(bs [109]),1⟩:ah)).data).args)),(i6 (((ak (bs [110]) 4 (⟨3,(bs [109]),1⟩:ah)).rule).kind)),(dS (((ak (bs [110]) 4 (⟨3,(bs [109]),1⟩:ah)).rule).src)),(i6 (((ak (bs [110]) 4 (⟨3,(bs [109]),1⟩:ah)).rule).n))]] ([ak (bs [110]) 4 (⟨3,(bs [109]),1⟩:ah)].map bS)∧CC (Eg [ab (bs [120]) 3 (⟨3,(bs [114]),2⟩:ah)] [ak (bs [110]) 4 (⟨3,(bs [109]),1⟩:ah)])∧TT 1 ((rz [] [(.agg [(dL 6 bp ac ((am [ab (bs [114]) 2 (⟨1,e0,0⟩:ah)] [ak (bs [109]) 2 (⟨1,e0,0⟩:ah)]).U)),(dL 5 bP aF ((am [ab (bs [114]) 2 (⟨1,e0,0⟩:ah)] [ak (bs [109]) 2 (⟨1,e0,0⟩:ah)]).J))]),(.agg [(dL 6 bp ac ((am [ab (bs [120]) 3 (⟨3,(bs [114]),2⟩:ah)] [ak (bs [110]) 4 (⟨3,(bs [109]),1⟩:ah)]).U)),(dL 5 bP aF ((am [ab (bs [120]) 3 (⟨3,(bs [114]),2⟩:ah)] [ak (bs [110]) 4 (⟨3,(bs [109]),1⟩:ah)]).J))]),(.agg [(dL 2 bo a8 [(⟨[3],[[1,2]]⟩:Ps)]),.nils])] (rL (am [ab (bs [114]) 2 (⟨1,e0,0⟩:ah)] [ak (bs [109]) 2 (⟨1,e0,0⟩:ah)]) (am [ab (bs [120]) 3 (⟨3,(bs [114]),2⟩:ah)] [ak (bs [110]) 4 (⟨3,(bs [109]),1⟩:ah)]) (⟨[(⟨[3],[[1,2]]⟩:Ps)],[]⟩:Ns)).q'∧CC (rL (am [ab (bs [114]) 2 (⟨1,e0,0⟩:ah)] [ak (bs [109]) 2 (⟨1,e0,0⟩:ah)]) (am [ab (bs [120]) 3 (⟨3,(bs [114]),2⟩:ah)] [ak (bs [110]) 4 (⟨3,(bs [109]),1⟩:ah)]) (⟨[(⟨[3],[[1,2]]⟩:Ps)],[]⟩:Ns)))∧TT 3 (an [[(i6 3)]] ([3].map (aa .i64))∧TT 1 (an [[(LI [3]),.nils]] ([(⟨[3],[]⟩:Ps)].map bo)∧TT 2 ((rz [] [(.agg [(dL 2 bo a8 (((ae (am [ab (bs [114]) 2 (⟨1,e0,0⟩:ah)] [ak (bs [109]) 2 (⟨1,e0,0⟩:ah)]) (am [ab (bs [114]) 2 (⟨1,e0,0⟩:ah)] []) (⟨[(⟨[3],[[1,2]]⟩:Ps)],[]⟩:Ns)).1).U)),(dL 1 af [] (((ae (am [ab (bs [114]) 2 (⟨1,e0,0⟩:ah)] [ak (bs [109]) 2 (⟨1,e0,0⟩:ah)]) (am [ab (bs [114]) 2 (⟨1,e0,0⟩:ah)] []) (⟨[(⟨[3],[[1,2]]⟩:Ps)],[]⟩:Ns)).1).J)),(i6 ((ae (am [ab (bs [114]) 2 (⟨1,e0,0⟩:ah)] [ak (bs [109]) 2 (⟨1,e0,0⟩:ah)]) (am [ab (bs [114]) 2 (⟨1,e0,0⟩:ah)] []) (⟨[(⟨[3],[[1,2]]⟩:Ps)],[]⟩:Ns)).2))]),(.agg [(dL 2 bo a8 [(⟨[3],[]⟩:Ps)]),.nils,(i6 0)])] (CX ((ae (am [ab (bs [114]) 2 (⟨1,e0,0⟩:ah)] [ak (bs [109]) 2 (⟨1,e0,0⟩:ah)]) (am [ab (bs [114]) 2 (⟨1,e0,0⟩:ah)] []) (⟨[(⟨[3],[[1,2]]⟩:Ps)],[]⟩:Ns)).1) (⟨[(⟨[3],[]⟩:Ps)],[]⟩:Ns) ((ae (am [ab (bs [114]) 2 (⟨1,e0,0⟩:ah)] [ak (bs [109]) 2 (⟨1,e0,0⟩:ah)]) (am [ab (bs [114]) 2 (⟨1,e0,0⟩:ah)] []) (⟨[(⟨[3],[[1,2]]⟩:Ps)],[]⟩:Ns)).2) 0).q'∧CC (CX ((ae (am [ab (bs [114]) 2 (⟨1,e0,0⟩:ah)] [ak (bs [109]) 2 (⟨1,e0,0⟩:ah)]) (am [ab (bs [114]) 2 (⟨1,e0,0⟩:ah)] []) (⟨[(⟨[3],[[1,2]]⟩:Ps)],[]⟩:Ns)).1) (⟨[(⟨[3],[]⟩:Ps)],[]⟩:Ns) ((ae (am [ab (bs [114]) 2 (⟨1,e0,0⟩:ah)] [ak (bs [109]) 2 (⟨1,e0,0⟩:ah)]) (am [ab (bs [114]) 2 (⟨1,e0,0⟩:ah)] []) (⟨[(⟨[3],[[1,2]]⟩:Ps)],[]⟩:Ns)).2) 0))∧TT 1 ((True∧(!(ez ((ae (am [ab (bs [114]) 2 (⟨1,e0,0⟩:ah)] [ak (bs [109]) 2 (⟨1,e0,0⟩:ah)]) (am [ab (bs [114]) 2 (⟨1,e0,0⟩:ah)] []) (⟨[(⟨[3],[[1,2]]⟩:Ps)],[]⟩:Ns)).1) (⟨[(⟨[3],[]⟩:Ps)],[]⟩:Ns) ((ae (am [ab (bs [114]) 2 (⟨1,e0,0⟩:ah)] [ak (bs [109]) 2 (⟨1,e0,0⟩:ah)]) (am [ab (bs [114]) 2 (⟨1,e0,0⟩:ah)] []) (⟨[(⟨[3],[[1,2]]⟩:Ps)],[]⟩:Ns)).2) 0))=false)∧TT 1 (an [[(i6 1)]] ([1].map (aa .i64))∧an [[(i6 1)],[(i6 2)],[(i6 0)],[(i6 0)]] ([1,2,0,0].map (aa .i64))∧an [[(LI [1,2,0,0])]] ([[1,2,0,0]].map af)∧TT 1 (an [[(LI [1]),(dL 1 af [] [[1,2,0,0]])]] ([(⟨[1],[[1,2,0,0]]⟩:Ps)].map bo)∧TT 2 ((rz [] [(.agg [(dL 2 bo a8 (((ae (am [ab (bs [114]) 2 (⟨1,e0,0⟩:ah)] [ak (bs [109]) 2 (⟨1,e0,0⟩:ah)]) (am [ab (bs [120]) 1 (⟨2,(bs [114]),0⟩:ah)] [ak (bs [110]) 4 (⟨2,(bs [109]),0⟩:ah)]) (⟨[(⟨[3],[[1,2]]⟩:Ps)],[]⟩:Ns)).1).U)),(dL 1 af [] (((ae (am [ab (bs [114]) 2 (⟨1,e0,0⟩:ah)] [ak (bs [109]) 2 (⟨1,e0,0⟩:ah)]) (am [ab (bs [120]) 1 (⟨2,(bs [114]),0⟩:ah)] [ak (bs [110]) 4 (⟨2,(bs [109]),0⟩:ah)]) (⟨[(⟨[3],[[1,2]]⟩:Ps)],[]⟩:Ns)).1).J)),(i6 ((ae (am [ab (bs [114]) 2 (⟨1,e0,0⟩:ah)] [ak (bs [109]) 2 (⟨1,e0,0⟩:ah)]) (am [ab (bs [120]) 1 (⟨2,(bs [114]),0⟩:ah)] [ak (bs [110]) 4 (⟨2,(bs [109]),0⟩:ah)]) (⟨[(⟨[3],[[1,2]]⟩:Ps)],[]⟩:Ns)).2))]),(.agg [(dL 2 bo a8 [(⟨[1],[[1,2,0,0]]⟩:Ps)]),.nils,(i6 0)])] (CX ((ae (am [ab (bs [114]) 2 (⟨1,e0,0⟩:ah)] [ak (bs [109]) 2 (⟨1,e0,0⟩:ah)]) (am [ab (bs [120]) 1 (⟨2,(bs [114]),0⟩:ah)] [ak (bs [110]) 4 (⟨2,(bs [109]),0⟩:ah)]) (⟨[(⟨[3],[[1,2]]⟩:Ps)],[]⟩:Ns)).1) (⟨[(⟨[1],[[1,2,0,0]]⟩:Ps)],[]⟩:Ns) ((ae (am [ab (bs [114]) 2 (⟨1,e0,0⟩:ah)] [ak (bs [109]) 2 (⟨1,e0,0⟩:ah)]) (am [ab (bs [120]) 1 (⟨2,(bs [114]),0⟩:ah)] [ak (bs [110]) 4 (⟨2,(bs [109]),0⟩:ah)]) (⟨[(⟨[3],[[1,2]]⟩:Ps)],[]⟩:Ns)).2) 0).q'∧CC (CX ((ae (am [ab (bs [114]) 2 (⟨1,e0,0⟩:ah)] [ak (bs [109]) 2 (⟨1,e0,0⟩:ah)]) (am [ab (bs [120]) 1 (⟨2,(bs [114]),0⟩:ah)] [ak (bs [110]) 4 (⟨2,(bs [109]),0⟩:ah)]) (⟨[(⟨[3],[[1,2]]⟩:Ps)],[]⟩:Ns)).1) (⟨[(⟨[1],[[1,2,0,0]]⟩:Ps)],[]⟩:Ns) ((ae (am [ab (bs [114]) 2 (⟨1,e0,0⟩:ah)] [ak (bs [109]) 2 (⟨1,e0,0⟩:ah)]) (am [ab (bs [120]) 1 (⟨2,(bs [114]),0⟩:ah)] [ak (bs [110]) 4 (⟨2,(bs [109]),0⟩:ah)]) (⟨[(⟨[3],[[1,2]]⟩:Ps)],[]⟩:Ns)).2) 0))∧TT 2 ((True∧(!(ez ((ae (am [ab (bs [114]) 2 (⟨1,e0,0⟩:ah)] [ak (bs [109]) 2 (⟨1,e0,0⟩:ah)]) (am [ab (bs [120]) 1 (⟨2,(bs [114]),0⟩:ah)] [ak (bs [110]) 4 (⟨2,(bs [109]),0⟩:ah)]) (⟨[(⟨[3],[[1,2]]⟩:Ps)],[]⟩:Ns)).1) (⟨[(⟨[1],[[1,2,0,0]]⟩:Ps)],[]⟩:Ns) ((ae (am [ab (bs [114]) 2 (⟨1,e0,0⟩:ah)] [ak (bs [109]) 2 (⟨1,e0,0⟩:ah)]) (am [ab (bs [120]) 1 (⟨2,(bs [114]),0⟩:ah)] [ak (bs [110]) 4 (⟨2,(bs [109]),0⟩:ah)]) (⟨[(⟨[3],[[1,2]]⟩:Ps)],[]⟩:Ns)).2) 0))=false)∧TT 1 (an [[(i6 5)]] ([5].map (aa .i64))∧an [[(i6 2)],[(i6 3)],[(i6 1)],[(i6 1)]] ([2,3,1,1].map (aa .i64))∧an [[(LI [2,3,1,1])]] ([[2,3,1,1]].map af)∧TT 1 (an [[(LI [5]),(dL 1 af [] [[2,3,1,1]])]] ([(⟨[5],[[2,3,1,1]]⟩:Ps)].map bo)∧TT 2 ((rz [] [(.agg [(dL 2 bo a8 (((ae (am [ab (bs [114]) 2 (⟨1,e0,0⟩:ah)] [ak (bs [109]) 2 (⟨1,e0,0⟩:ah)]) (am [ab (bs [120]) 3 (⟨3,(bs [114]),2⟩:ah)] [ak (bs [110]) 4 (⟨3,(bs [109]),1⟩:ah)]) (⟨[(⟨[3],[[1,2]]⟩:Ps)],[]⟩:Ns)).1).U)),(dL 1 af [] (((ae (am [ab (bs [114]) 2 (⟨1,e0,0⟩:ah)] [ak (bs [109]) 2 (⟨1,e0,0⟩:ah)]) (am [ab (bs [120]) 3 (⟨3,(bs [114]),2⟩:ah)] [ak (bs [110]) 4 (⟨3,(bs [109]),1⟩:ah)]) (⟨[(⟨[3],[[1,2]]⟩:Ps)],[]⟩:Ns)).1).J)),(i6 ((ae (am [ab (bs [114]) 2 (⟨1,e0,0⟩:ah)] [ak (bs [109]) 2 (⟨1,e0,0⟩:ah)]) (am [ab (bs [120]) 3 (⟨3,(bs [114]),2⟩:ah)] [ak (bs [110]) 4 (⟨3,(bs [109]),1⟩:ah)]) (⟨[(⟨[3],[[1,2]]⟩:Ps)],[]⟩:Ns)).2))]),(.agg [(dL 2 bo a8 [(⟨[5],[[2,3,1,1]]⟩:Ps)]),.nils,(i6 0)])] (CX ((ae (am [ab (bs [114]) 2 (⟨1,e0,0⟩:ah)] [ak (bs [109]) 2 (⟨1,e0,0⟩:ah)]) (am [ab (bs [120]) 3 (⟨3,(bs [114]),2⟩:ah)] [ak (bs [110]) 4 (⟨3,(bs [109]),1⟩:ah)]) (⟨[(⟨[3],[[1,2]]⟩:Ps)],[]⟩:Ns)).1) (⟨[(⟨[5],[[2,3,1,1]]⟩:Ps)],[]⟩:Ns) ((ae (am [ab (bs [114]) 2 (⟨1,e0,0⟩:ah)] [ak (bs [109]) 2 (⟨1,e0,0⟩:ah)]) (am [ab (bs [120]) 3 (⟨3,(bs [114]),2⟩:ah)] [ak (bs [110]) 4 (⟨3,(bs [109]),1⟩:ah)]) (⟨[(⟨[3],[[1,2]]⟩:Ps)],[]⟩:Ns)).2) 0).q'∧CC (CX ((ae (am [ab (bs [114]) 2 (⟨1,e0,0⟩:ah)] [ak (bs [109]) 2 (⟨1,e0,0⟩:ah)]) (am [ab (bs [120]) 3 (⟨3,(bs [114]),2⟩:ah)] [ak (bs [110]) 4 (⟨3,(bs [109]),1⟩:ah)]) (⟨[(⟨[3],[[1,2]]⟩:Ps)],[]⟩:Ns)).1) (⟨[(⟨[5],[[2,3,1,1]]⟩:Ps)],[]⟩:Ns) ((ae (am [ab (bs [114]) 2 (⟨1,e0,0⟩:ah)] [ak (bs [109]) 2 (⟨1,e0,0⟩:ah)]) (am [ab (bs [120]) 3 (⟨3,(bs [114]),2⟩:ah)] [ak (bs [110]) 4 (⟨3,(bs [109]),1⟩:ah)]) (⟨[(⟨[3],[[1,2]]⟩:Ps)],[]⟩:Ns)).2) 0))∧TT 2 ((!(ez ((ae (am [ab (bs [114]) 2 (⟨1,e0,0⟩:ah)] [ak (bs [109]) 2 (⟨1,e0,0⟩:ah)]) (am [ab (bs [120]) 3 (⟨3,(bs [114]),2⟩:ah)] [ak (bs [110]) 4 (⟨3,(bs [109]),1⟩:ah)]) (⟨[(⟨[3],[[1,2]]⟩:Ps)],[]⟩:Ns)).1) (⟨[(⟨[5],[[2,3,1,1]]⟩:Ps)],[]⟩:Ns) ((ae (am [ab (bs [114]) 2 (⟨1,e0,0⟩:ah)] [ak (bs [109]) 2 (⟨1,e0,0⟩:ah)]) (am [ab (bs [120]) 3 (⟨3,(bs [114]),2⟩:ah)] [ak (bs [110]) 4 (⟨3,(bs [109]),1⟩:ah)]) (⟨[(⟨[3],[[1,2]]⟩:Ps)],[]⟩:Ns)).2) 0))=false∧LO Try.prog 24 [.nils,.nils] t3 fC i8 i9 (.agg [(.own 58),.nils])∧TT 9 (an [[(i6 0),(i6 2),(i6 1),(dS e0),(i6 0),(dS e0),(i6 1),(dS e0),.nils,(i6 1),(dS e0),(i6 0),(dS e0),(i6 2),(dS e0),.nils]] ([(⟨0,2,⟨1,e0,⟨0,e0⟩,⟨1,e0⟩,[]⟩,⟨1,e0,⟨0,e0⟩,⟨2,e0⟩,[]⟩⟩:Pt)].map dT)∧IX 0 ([(⟨(bs [112]),(bs [97]),[],[],[],[]⟩:Pr)].length)∧TT 1 ((0<[(⟨(bs [112]),(bs [97]),[],[],[],[]⟩:Pr)].length∧([(⟨(bs [112]),(bs [97]),[],[],[],[]⟩:Pr)].map bp).set 0 ((bp ([(⟨(bs [112]),(bs [97]),[],[],[],[]⟩:Pr)].getD 0 ac)).take 5++[(.sl 16 dT b4 [(⟨0,2,⟨1,e0,⟨0,e0⟩,⟨1,e0⟩,[]⟩,⟨1,e0,⟨0,e0⟩,⟨2,e0⟩,[]⟩⟩:Pt)])]++(bp ([(⟨(bs [112]),(bs [97]),[],[],[],[]⟩:Pr)].getD 0 ac)).drop (5+1))=lf.U.map bp)∧TT 1 (an [[(dS (bs [99])),(i6 2),(i6 0),(i6 0),(i6 (-1))]] ([(⟨(bs [99]),2,0,0,(-1)⟩:Ch)].map bP)∧TT 3 (an [[.nils,.nils]] ([(⟨[],[]⟩:Ps)].map bo)∧an [[(i6 1)]] ([1].map (aa .i64))∧an [[(LI [1])]] ([[1]].map af)∧TT 5 (CC (Mx (am [ab (bs [114]) 2 (⟨1,e0,0⟩:ah)] [ak (bs [109]) 2 (⟨1,e0,0⟩:ah)]) (am [ab (bs [114]) 2 (⟨1,e0,0⟩:ah)] [ak (bs [109]) 2 (⟨1,e0,0⟩:ah)]))∧(True∧(de (am [ab (bs [114]) 2 (⟨1,e0,0⟩:ah)] [ak (bs [109]) 2 (⟨1,e0,0⟩:ah)]) (am [ab (bs [114]) 2 (⟨1,e0,0⟩:ah)] [ak (bs [109]) 2 (⟨1,e0,0⟩:ah)]))=true)∧TT 1 ((rz [] [.nils,.nils] (Eg [] []).q'∧CC (Eg [] []))∧CC (Mx (am [ab (bs [114]) 2 (⟨1,e0,0⟩:ah)] [ak (bs [109]) 2 (⟨1,e0,0⟩:ah)]) (am [] []))∧TT 2 ((True∧(!(de (am [ab (bs [114]) 2 (⟨1,e0,0⟩:ah)] [ak (bs [109]) 2 (⟨1,e0,0⟩:ah)]) (am [] [])))=true)∧TT 3 ((rz [] [(.agg [(dL 6 bp ac lf.U),(dL 5 bP aF [(⟨(bs [99]),2,0,0,(-1)⟩:Ch)])]),(.agg [.nils,.nils]),(.agg [(dL 2 bo a8 [(⟨[],[]⟩:Ps)]),(dL 1 af [] [[1]])])] (rL (⟨lf.U,[(⟨(bs [99]),2,0,0,(-1)⟩:Ch)]⟩:Ci) (⟨[],[]⟩:Ci) (⟨[(⟨[],[]⟩:Ps)],[[1]]⟩:Ns)).q'∧CC (rL (⟨lf.U,[(⟨(bs [99]),2,0,0,(-1)⟩:Ch)]⟩:Ci) (⟨[],[]⟩:Ci) (⟨[(⟨[],[]⟩:Ps)],[[1]]⟩:Ns)))∧TT 3 ((True∧(decide (((ae (⟨lf.U,[(⟨(bs [99]),2,0,0,(-1)⟩:Ch)]⟩:Ci) (⟨[],[]⟩:Ci) (⟨[(⟨[],[]⟩:Ps)],[[1]]⟩:Ns)).2)=150))=true)∧TT 3 (CC (rL (⟨lf.U,[(⟨(bs [99]),2,0,0,(-1)⟩:Ch)]⟩:Ci) (⟨lf.U,[(⟨(bs [99]),2,0,0,(-1)⟩:Ch)]⟩:Ci) (⟨[(⟨[],[]⟩:Ps)],[[1]]⟩:Ns))∧TT 3 ((True∧(decide (((ae (⟨lf.U,[(⟨(bs [99]),2,0,0,(-1)⟩:Ch)]⟩:Ci) (⟨lf.U,[(⟨(bs [99]),2,0,0,(-1)⟩:Ch)]⟩:Ci) (⟨[(⟨[],[]⟩:Ps)],[[1]]⟩:Ns)).2)=0))=true)∧TT 2 ((rz [] [(.agg [(dL 6 bp ac lf.U),(dL 5 bP aF [(⟨(bs [99]),2,0,0,(-1)⟩:Ch)])]),(.agg [.nils,.nils])] (JE (⟨lf.U,[(⟨(bs [99]),2,0,0,(-1)⟩:Ch)]⟩:Ci) (⟨[],[]⟩:Ci)).q'∧CC (JE (⟨lf.U,[(⟨(bs [99]),2,0,0,(-1)⟩:Ch)]⟩:Ci) (⟨[],[]⟩:Ci)))∧an [[(dS (bs [99]))]] ([(bs [99])].map dk)∧CC (Og (bc (⟨lf.U,[(⟨(bs [99]),2,0,0,(-1)⟩:Ch)]⟩:Ci) (⟨[],[]⟩:Ci) (⟨lf.U,[(⟨(bs [99]),2,0,0,(-1)⟩:Ch)]⟩:Ci).J.length) [(bs [99])])∧TT 3 ((decide ((bc (⟨lf.U,[(⟨(bs [99]),2,0,0,(-1)⟩:Ch)]⟩:Ci) (⟨[],[]⟩:Ci) (⟨lf.U,[(⟨(bs [99]),2,0,0,(-1)⟩:Ch)]⟩:Ci).J.length)=[(bs [99])]))=true∧True)))))))))))))))))))))))))))))))))))))) (.w 3 [(1,(I2 (bs [114]) 2 (⟨1,e0,0⟩:ah)).O),(2,.box 66 13 bG aK [ab (bs [114]) 2 (⟨1,e0,0⟩:ah)]),(4,(K4 (bs [109]) 2 (⟨1,e0,0⟩:ah)).O),(5,.box 70 27 bS aA [ak (bs [109]) 2 (⟨1,e0,0⟩:ah)]),(6,(Eg [ab (bs [114]) 2 (⟨1,e0,0⟩:ah)] [ak (bs [109]) 2 (⟨1,e0,0⟩:ah)]).O)]<|.w 4 [(0,.frz 3 1 (aa .i64) 0 [3]),(1,.frz 3 1 (aa .i64) 0 [1,2]),(2,.frz 54 1 af [] [[1,2]]),(4,.frz 74 2 bo a8 [(⟨[3],[[1,2]]⟩:Ps)])]<|.w 5 [(2,(I2 (bs [114]) 2 (⟨1,e0,0⟩:ah)).O),(3,.box 66 13 bG aK [ab (bs [114]) 2 (⟨1,e0,0⟩:ah)]),(4,(Eg [ab (bs [114]) 2 (⟨1,e0,0⟩:ah)] []).O'),(6,(rL (am [ab (bs [114]) 2 (⟨1,e0,0⟩:ah)] [ak (bs [109]) 2 (⟨1,e0,0⟩:ah)]) (am [ab (bs [114]) 2 (⟨1,e0,0⟩:ah)] []) (⟨[(⟨[3],[[1,2]]⟩:Ps)],[]⟩:Ns)).O')]<|.w 6 [(2,(I2 (bs [120]) 1 (⟨2,(bs [114]),0⟩:ah)).O),(3,.box 66 13 bG aK [ab (bs [120]) 1 (⟨2,(bs [114]),0⟩:ah)]),(5,(K4 (bs [110]) 4 (⟨2,(bs [109]),0⟩:ah)).O),(6,.box 70 27 bS aA [ak (bs [110]) 4 (⟨2,(bs [109]),0⟩:ah)]),(7,(Eg [ab (bs [120]) 1 (⟨2,(bs [114]),0⟩:ah)] [ak (bs [110]) 4 (⟨2,(bs [109]),0⟩:ah)]).O),(9,(rL (am [ab (bs [114]) 2 (⟨1,e0,0⟩:ah)] [ak (bs [109]) 2 (⟨1,e0,0⟩:ah)]) (am [ab (bs [120]) 1 (⟨2,(bs [114]),0⟩:ah)] [ak (bs [110]) 4 (⟨2,(bs [109]),0⟩:ah)]) (⟨[(⟨[3],[[1,2]]⟩:Ps)],[]⟩:Ns)).O')]<|.w 7 [(2,(I2 (bs [120]) 3 (⟨3,(bs [114]),2⟩:ah)).O),(3,.box 66 13 bG aK [ab (bs [120]) 3 (⟨3,(bs [114]),2⟩:ah)]),(5,(K4 (bs [110]) 4 (⟨3,(bs [109]),1⟩:ah)).O),(6,.box 70 27 bS aA [ak (bs [110]) 4 (⟨3,(bs [109]),1⟩:ah)]),(7,(Eg [ab (bs [120]) 3 (⟨3,(bs [114]),2⟩:ah)] [ak (bs [110]) 4 (⟨3,(bs [109]),1⟩:ah)]).O),(9,(rL (am [ab (bs [114]) 2 (⟨1,e0,0⟩:ah)] [ak (bs [109]) 2 (⟨1,e0,0⟩:ah)]) (am [ab (bs [120]) 3 (⟨3,(bs [114]),2⟩:ah)] [ak (bs [110]) 4 (⟨3,(bs [109]),1⟩:ah)]) (⟨[(⟨[3],[[1,2]]⟩:Ps)],[]⟩:Ns)).O')]<|.w 8 [(1,.frz 3 1 (aa .i64) 0 [3]),(3,.frz 74 2 bo a8 [(⟨[3],[]⟩:Ps)]),(6,(CX ((ae (am [ab (bs [114]) 2 (⟨1,e0,0⟩:ah)] [ak (bs [109]) 2 (⟨1,e0,0⟩:ah)]) (am [ab (bs [114]) 2 (⟨1,e0,0⟩:ah)] []) (⟨[(⟨[3],[[1,2]]⟩:Ps)],[]⟩:Ns)).1) (⟨[(⟨[3],[]⟩:Ps)],[]⟩:Ns) ((ae (am [ab (bs [114]) 2 (⟨1,e0,0⟩:ah)] [ak (bs [109]) 2 (⟨1,e0,0⟩:ah)]) (am [ab (bs [114]) 2 (⟨1,e0,0⟩:ah)] []) (⟨[(⟨[3],[[1,2]]⟩:Ps)],[]⟩:Ns)).2) 0).O'),(8,.val (dB false)),(10,.frz 3 1 (aa .i64) 0 [1]),(11,.frz 3 1 (aa .i64) 0 [1,2,0,0]),(12,.frz 54 1 af [] [[1,2,0,0]]),(14,.frz 74 2 bo a8 [(⟨[1],[[1,2,0,0]]⟩:Ps)]),(17,(CX ((ae (am [ab (bs [114]) 2 (⟨1,e0,0⟩:ah)] [ak (bs [109]) 2 (⟨1,e0,0⟩:ah)]) (am [ab (bs [120]) 1 (⟨2,(bs [114]),0⟩:ah)] [ak (bs [110]) 4 (⟨2,(bs [109]),0⟩:ah)]) (⟨[(⟨[3],[[1,2]]⟩:Ps)],[]⟩:Ns)).1) (⟨[(⟨[1],[[1,2,0,0]]⟩:Ps)],[]⟩:Ns) ((ae (am [ab (bs [114]) 2 (⟨1,e0,0⟩:ah)] [ak (bs [109]) 2 (⟨1,e0,0⟩:ah)]) (am [ab (bs [120]) 1 (⟨2,(bs [114]),0⟩:ah)] [ak (bs [110]) 4 (⟨2,(bs [109]),0⟩:ah)]) (⟨[(⟨[3],[[1,2]]⟩:Ps)],[]⟩:Ns)).2) 0).O'),(20,.val (dB false)),(22,.frz 3 1 (aa .i64) 0 [5]),(23,.frz 3 1 (aa .i64) 0 [2,3,1,1]),(24,.frz 54 1 af [] [[2,3,1,1]]),(26,.frz 74 2 bo a8 [(⟨[5],[[2,3,1,1]]⟩:Ps)]),(29,(CX ((ae (am [ab (bs [114]) 2 (⟨1,e0,0⟩:ah)] [ak (bs [109]) 2 (⟨1,e0,0⟩:ah)]) (am [ab (bs [120]) 3 (⟨3,(bs [114]),2⟩:ah)] [ak (bs [110]) 4 (⟨3,(bs [109]),1⟩:ah)]) (⟨[(⟨[3],[[1,2]]⟩:Ps)],[]⟩:Ns)).1) (⟨[(⟨[5],[[2,3,1,1]]⟩:Ps)],[]⟩:Ns) ((ae (am [ab (bs [114]) 2 (⟨1,e0,0⟩:ah)] [ak (bs [109]) 2 (⟨1,e0,0⟩:ah)]) (am [ab (bs [120]) 3 (⟨3,(bs [114]),2⟩:ah)] [ak (bs [110]) 4 (⟨3,(bs [109]),1⟩:ah)]) (⟨[(⟨[3],[[1,2]]⟩:Ps)],[]⟩:Ns)).2) 0).O')]<|.u 85 (.q 10 [4] 56<|.w 10 [(0,.inl (.agg [(.own 58),.nils]) fC (i8++.dead::i9))]<|.w 11 [(7,.frz 76 16 dT b4 [(⟨0,2,⟨1,e0,⟨0,e0⟩,⟨1,e0⟩,[]⟩,⟨1,e0,⟨0,e0⟩,⟨2,e0⟩,[]⟩⟩:Pt)]),(10,.box 80 6 bp ac lf.U)]<|.w 12 [(1,.frz 53 5 bP aF [(⟨(bs [99]),2,0,0,(-1)⟩:Ch)])]<|.w 13 [(1,.frz 74 2 bo a8 [(⟨[],[]⟩:Ps)]),(2,.frz 3 1 (aa .i64) 0 [1]),(3,.frz 54 1 af [] [[1]])]<|.f 14 58<|.w 14 [(2,(Mx (am [ab (bs [114]) 2 (⟨1,e0,0⟩:ah)] [ak (bs [109]) 2 (⟨1,e0,0⟩:ah)]) (am [ab (bs [114]) 2 (⟨1,e0,0⟩:ah)] [ak (bs [109]) 2 (⟨1,e0,0⟩:ah)])).O),(3,.val (dB true)),(5,(Eg [] []).O'),(6,(Mx (am [ab (bs [114]) 2 (⟨1,e0,0⟩:ah)] [ak (bs [109]) 2 (⟨1,e0,0⟩:ah)]) (am [] [])).O),(9,.val (dB true)),(13,(rL (⟨lf.U,[(⟨(bs [99]),2,0,0,(-1)⟩:Ch)]⟩:Ci) (⟨[],[]⟩:Ci) (⟨[(⟨[],[]⟩:Ps)],[[1]]⟩:Ns)).O'),(17,.val (dB true)),(21,(rL (⟨lf.U,[(⟨(bs [99]),2,0,0,(-1)⟩:Ch)]⟩:Ci) (⟨lf.U,[(⟨(bs [99]),2,0,0,(-1)⟩:Ch)]⟩:Ci) (⟨[(⟨[],[]⟩:Ps)],[[1]]⟩:Ns)).O),(25,.val (dB true)),(28,(JE (⟨lf.U,[(⟨(bs [99]),2,0,0,(-1)⟩:Ch)]⟩:Ci) (⟨[],[]⟩:Ci)).O'),(29,.box 9 1 dk .empty [(bs [99])]),(30,(Og (bc (⟨lf.U,[(⟨(bs [99]),2,0,0,(-1)⟩:Ch)]⟩:Ci) (⟨[],[]⟩:Ci) (⟨lf.U,[(⟨(bs [99]),2,0,0,(-1)⟩:Ch)]⟩:Ci).J.length) [(bs [99])]).O)]<|.e)) Try.func8 rfl rfl rfl (by kernel_rfl) ?_
 refine tt ⟨(xy (bs [114]) 2 (⟨1,e0,0⟩:ah)),⟨⟨⟨rfl,rfl,rfl,rfl,rfl,rfl,rfl,rfl,rfl,rfl,rfl,rfl,rfl,oK⟩,oK⟩,tt ⟨(GT (bs [109]) 2 (⟨1,e0,0⟩:ah)),⟨⟨⟨rfl,rfl,rfl,rfl,rfl,rfl,rfl,rfl,rfl,rfl,rfl,rfl,rfl,rfl,rfl,rfl,rfl,rfl,rfl,rfl,rfl,rfl,rfl,rfl,rfl,rfl,rfl,oK⟩,oK⟩,⟨(ma [ab (bs [114]) 2 (⟨1,e0,0⟩:ah)] [ak (bs [109]) 2 (⟨1,e0,0⟩:ah)]),tt ⟨⟨⟨rfl,oK⟩,oK⟩,⟨⟨⟨rfl,oK⟩,⟨rfl,oK⟩,oK⟩,⟨⟨⟨rfl,oK⟩,oK⟩,tt ⟨⟨⟨rfl,rfl,oK⟩,oK⟩,tt ⟨(xy (bs [114]) 2 (⟨1,e0,0⟩:ah)),⟨⟨⟨rfl,rfl,rfl,rfl,rfl,rfl,rfl,rfl,rfl,rfl,rfl,rfl,rfl,oK⟩,oK⟩,⟨⟨⟨rfl,rfl,oK⟩,(ma [ab (bs [114]) 2 (⟨1,e0,0⟩:ah)] [])⟩,tt ⟨⟨⟨⟨rfl,rfl,oK⟩,⟨rfl,rfl,oK⟩,⟨rfl,rfl,oK⟩,oK⟩,(eJ (am [ab (bs [114]) 2 (⟨1,e0,0⟩:ah)] [ak (bs [109]) 2 (⟨1,e0,0⟩:ah)]) (am [ab (bs [114]) 2 (⟨1,e0,0⟩:ah)] []) (⟨[(⟨[3],[[1,2]]⟩:Ps)],[]⟩:Ns) No)⟩,tt ⟨(xy (bs [120]) 1 (⟨2,(bs [114]),0⟩:ah)),⟨⟨⟨rfl,rfl,rfl,rfl,rfl,rfl,rfl,rfl,rfl,rfl,rfl,rfl,rfl,oK⟩,oK⟩,tt ⟨(GT (bs [110]) 4 (⟨2,(bs [109]),0⟩:ah)),⟨⟨⟨rfl,rfl,rfl,rfl,rfl,rfl,rfl,rfl,rfl,rfl,rfl,rfl,rfl,rfl,rfl,rfl,rfl,rfl,rfl,rfl,rfl,rfl,rfl,rfl,rfl,rfl,rfl,oK⟩,oK⟩,⟨(ma [ab (bs [120]) 1 (⟨2,(bs [114]),0⟩:ah)] [ak (bs [110]) 4 (⟨2,(bs [109]),0⟩:ah)]),tt ⟨⟨⟨⟨rfl,rfl,oK⟩,⟨rfl,rfl,oK⟩,⟨rfl,rfl,oK⟩,oK⟩,(eJ (am [ab (bs [114]) 2 (⟨1,e0,0⟩:ah)] [ak (bs [109]) 2 (⟨1,e0,0⟩:ah)]) (am [ab (bs [120]) 1 (⟨2,(bs [114]),0⟩:ah)] [ak (bs [110]) 4 (⟨2,(bs [109]),0⟩:ah)]) (⟨[(⟨[3],[[1,2]]⟩:Ps)],[]⟩:Ns) Np)⟩,tt ⟨(xy (bs [120]) 3 (⟨3,(bs [114]),2⟩:ah)),⟨⟨⟨rfl,rfl,rfl,rfl,rfl,rfl,rfl,rfl,rfl,rfl,rfl,rfl,rfl,oK⟩,oK⟩,tt ⟨(GT (bs [110]) 4 (⟨3,(bs [109]),1⟩:ah)),⟨⟨⟨rfl,rfl,rfl,rfl,rfl,rfl,rfl,rfl,rfl,rfl,rfl,rfl,rfl,rfl,rfl,rfl,rfl,rfl,rfl,rfl,rfl,rfl,rfl,rfl,rfl,rfl,rfl,oK⟩,oK⟩,⟨(ma [ab (bs [120]) 3 (⟨3,(bs [114]),2⟩:ah)] [ak (bs [110]) 4 (⟨3,(bs [109]),1⟩:ah)]),tt ⟨⟨⟨⟨rfl,rfl,oK⟩,⟨rfl,rfl,oK⟩,⟨rfl,rfl,oK⟩,oK⟩,(eJ (am [ab (bs [114]) 2 (⟨1,e0,0⟩:ah)] [ak (bs [109]) 2 (⟨1,e0,0⟩:ah)]) (am [ab (bs [120]) 3 (⟨3,(bs [114]),2⟩:ah)] [ak (bs [110]) 4 (⟨3,(bs [109]),1⟩:ah)]) (⟨[(⟨[3],[[1,2]]⟩:Ps)],[]⟩:Ns) Nq)⟩,tt ⟨⟨⟨rfl,oK⟩,oK⟩,tt ⟨⟨⟨rfl,rfl,oK⟩,oK⟩,tt ⟨⟨⟨⟨rfl,rfl,rfl,oK⟩,⟨rfl,rfl,rfl,oK⟩,oK⟩,(pV ((ae (am [ab (bs [114]) 2 (⟨1,e0,0⟩:ah)] [ak (bs [109]) 2 (⟨1,e0,0⟩:ah)]) (am [ab (bs [114]) 2 (⟨1,e0,0⟩:ah)] []) (⟨[(⟨[3],[[1,2]]⟩:Ps)],[]⟩:Ns)).1) (⟨[(⟨[3],[]⟩:Ps)],[]⟩:Ns) ((ae (am [ab (bs [114]) 2 (⟨1,e0,0⟩:ah)] [ak (bs [109]) 2 (⟨1,e0,0⟩:ah)]) (am [ab (bs [114]) 2 (⟨1,e0,0⟩:ah)] []) (⟨[(⟨[3],[[1,2]]⟩:Ps)],[]⟩:Ns)).2) 0 Nx)⟩,tt ⟨(mF Nu),tt ⟨⟨⟨rfl,oK⟩,oK⟩,⟨⟨⟨rfl,oK⟩,⟨rfl,oK⟩,⟨rfl,oK⟩,⟨rfl,oK⟩,oK⟩,⟨⟨⟨rfl,oK⟩,oK⟩,tt ⟨⟨⟨rfl,rfl,oK⟩,oK⟩,tt ⟨⟨⟨⟨rfl,rfl,rfl,oK⟩,⟨rfl,rfl,rfl,oK⟩,oK⟩,(pV ((ae (am [ab (bs [114]) 2 (⟨1,e0,0⟩:ah)] [ak (bs [109]) 2 (⟨1,e0,0⟩:ah)]) (am [ab (bs [120]) 1 (⟨2,(bs [114]),0⟩:ah)] [ak (bs [110]) 4 (⟨2,(bs [109]),0⟩:ah)]) (⟨[(⟨[3],[[1,2]]⟩:Ps)],[]⟩:Ns)).1) (⟨[(⟨[1],[[1,2,0,0]]⟩:Ps)],[]⟩:Ns) ((ae (am [ab (bs [114]) 2 (⟨1,e0,0⟩:ah)] [ak (bs [109]) 2 (⟨1,e0,0⟩:ah)]) (am [ab (bs [120]) 1 (⟨2,(bs [114]),0⟩:ah)] [ak (bs [110]) 4 (⟨2,(bs [109]),0⟩:ah)]) (⟨[(⟨[3],[[1,2]]⟩:Ps)],[]⟩:Ns)).2) 0 Ny)⟩,tt ⟨(mF Nv),tt ⟨⟨⟨rfl,oK⟩,oK⟩,⟨⟨⟨rfl,oK⟩,⟨rfl,oK⟩,⟨rfl,oK⟩,⟨rfl,oK⟩,oK⟩,⟨⟨⟨rfl,oK⟩,oK⟩,tt ⟨⟨⟨rfl,rfl,oK⟩,oK⟩,tt ⟨⟨⟨⟨rfl,rfl,rfl,oK⟩,⟨rfl,rfl,rfl,oK⟩,oK⟩,(pV ((ae (am [ab (bs [114]) 2 (⟨1,e0,0⟩:ah)] [ak (bs [109]) 2 (⟨1,e0,0⟩:ah)]) (am [ab (bs [120]) 3 (⟨3,(bs [114]),2⟩:ah)] [ak (bs [110]) 4 (⟨3,(bs [109]),1⟩:ah)]) (⟨[(⟨[3],[[1,2]]⟩:Ps)],[]⟩:Ns)).1) (⟨[(⟨[5],[[2,3,1,1]]⟩:Ps)],[]⟩:Ns) ((ae (am [ab (bs [114]) 2 (⟨1,e0,0⟩:ah)] [ak (bs [109]) 2 (⟨1,e0,0⟩:ah)]) (am [ab (bs [120]) 3 (⟨3,(bs [114]),2⟩:ah)] [ak (bs [110]) 4 (⟨3,(bs [109]),1⟩:ah)]) (⟨[(⟨[3],[[1,2]]⟩:Ps)],[]⟩:Ns)).2) 0 Nz)⟩,tt ⟨(yf Nw),⟨?_,?_⟩⟩⟩⟩⟩⟩⟩⟩⟩⟩⟩⟩⟩⟩⟩⟩⟩⟩⟩⟩⟩⟩⟩⟩⟩⟩⟩⟩⟩⟩⟩⟩⟩⟩⟩⟩⟩⟩⟩⟩⟩⟩
 · intro TQ
   refine sV.vc (V:=TT 4 (an [[(dS (bs [112])),(dS (bs [97])),.nils,.nils,.nils,.nils]] ([(⟨(bs [112]),(bs [97]),[],[],[],[]⟩:Pr)].map bp)∧TT 3 (((((.own 58):D)=(.own 58)∧(.nils:D)=.nils∧True))∧([(.var 51 [(i6 1),(dS e0),(i6 0)]),(.var 51 [(i6 2),(dS (bs [114])),(i6 0)]),(.var 51 [(i6 3),(dS (bs [114])),(i6 2)]),.dead,.dead,.dead,.dead,.dead,.dead,.dead,(.var 31 [(dL 6 bp ac ((am [ab (bs [114]) 2 (⟨1,e0,0⟩:ah)] [ak (bs [109]) 2 (⟨1,e0,0⟩:ah)]).U)),(dL 5 bP aF ((am [ab (bs [114]) 2 (⟨1,e0,0⟩:ah)] [ak (bs [109]) 2 (⟨1,e0,0⟩:ah)]).J))]),.dead,.dead,.dead,.dead,(.var 35 [(dL 2 bo a8 [(⟨[3],[[1,2]]⟩:Ps)]),.nils]),.dead,.dead,.dead,.dead,.dead,.dead,.dead,(.var 42 [(dL 2 bo a8 (((ae (am [ab (bs [114]) 2 (⟨1,e0,0⟩:ah)] [ak (bs [109]) 2 (⟨1,e0,0⟩:ah)]) (am [ab (bs [114]) 2 (⟨1,e0,0⟩:ah)] []) (⟨[(⟨[3],[[1,2]]⟩:Ps)],[]⟩:Ns)).1).U)),(dL 1 af [] (((ae (am [ab (bs [114]) 2 (⟨1,e0,0⟩:ah)] [ak (bs [109]) 2 (⟨1,e0,0⟩:ah)]) (am [ab (bs [114]) 2 (⟨1,e0,0⟩:ah)] []) (⟨[(⟨[3],[[1,2]]⟩:Ps)],[]⟩:Ns)).1).J)),(i6 ((ae (am [ab (bs [114]) 2 (⟨1,e0,0⟩:ah)] [ak (bs [109]) 2 (⟨1,e0,0⟩:ah)]) (am [ab (bs [114]) 2 (⟨1,e0,0⟩:ah)] []) (⟨[(⟨[3],[[1,2]]⟩:Ps)],[]⟩:Ns)).2))]),.dead,.dead,.dead,.dead,.dead,.dead,.dead,.dead,.dead,.dead,(.var 42 [(dL 2 bo a8 (((ae (am [ab (bs [114]) 2 (⟨1,e0,0⟩:ah)] [ak (bs [109]) 2 (⟨1,e0,0⟩:ah)]) (am [ab (bs [120]) 1 (⟨2,(bs [114]),0⟩:ah)] [ak (bs [110]) 4 (⟨2,(bs [109]),0⟩:ah)]) (⟨[(⟨[3],[[1,2]]⟩:Ps)],[]⟩:Ns)).1).U)),(dL 1 af [] (((ae (am [ab (bs [114]) 2 (⟨1,e0,0⟩:ah)] [ak (bs [109]) 2 (⟨1,e0,0⟩:ah)]) (am [ab (bs [120]) 1 (⟨2,(bs [114]),0⟩:ah)] [ak (bs [110]) 4 (⟨2,(bs [109]),0⟩:ah)]) (⟨[(⟨[3],[[1,2]]⟩:Ps)],[]⟩:Ns)).1).J)),(i6 ((ae (am [ab (bs [114]) 2 (⟨1,e0,0⟩:ah)] [ak (bs [109]) 2 (⟨1,e0,0⟩:ah)]) (am [ab (bs [120]) 1 (⟨2,(bs [114]),0⟩:ah)] [ak (bs [110]) 4 (⟨2,(bs [109]),0⟩:ah)]) (⟨[(⟨[3],[[1,2]]⟩:Ps)],[]⟩:Ns)).2))]),.dead,.dead,.dead,.dead,.dead,.dead,.dead,.dead,.dead,.dead,(.var 42 [(dL 2 bo a8 (((ae (am [ab (bs [114]) 2 (⟨1,e0,0⟩:ah)] [ak (bs [109]) 2 (⟨1,e0,0⟩:ah)]) (am [ab (bs [120]) 3 (⟨3,(bs [114]),2⟩:ah)] [ak (bs [110]) 4 (⟨3,(bs [109]),1⟩:ah)]) (⟨[(⟨[3],[[1,2]]⟩:Ps)],[]⟩:Ns)).1).U)),(dL 1 af [] (((ae (am [ab (bs [114]) 2 (⟨1,e0,0⟩:ah)] [ak (bs [109]) 2 (⟨1,e0,0⟩:ah)]) (am [ab (bs [120]) 3 (⟨3,(bs [114]),2⟩:ah)] [ak (bs [110]) 4 (⟨3,(bs [109]),1⟩:ah)]) (⟨[(⟨[3],[[1,2]]⟩:Ps)],[]⟩:Ns)).1).J)),(i6 ((ae (am [ab (bs [114]) 2 (⟨1,e0,0⟩:ah)] [ak (bs [109]) 2 (⟨1,e0,0⟩:ah)]) (am [ab (bs [120]) 3 (⟨3,(bs [114]),2⟩:ah)] [ak (bs [110]) 4 (⟨3,(bs [109]),1⟩:ah)]) (⟨[(⟨[3],[[1,2]]⟩:Ps)],[]⟩:Ns)).2))]),.dead,.dead,.dead,.dead,.dead,.dead,.dead,.dead,.dead,.dead,.frame TQ fC,(.var 31 [(.own 58),.nils]),(.arr 80 6 bp ac [(⟨(bs [112]),(bs [97]),[],[],[],[]⟩:Pr)])]:List ax)=i8++.frame TQ fC::i9))) (.w 1 [(3,.box 80 6 bp ac [(⟨(bs [112]),(bs [97]),[],[],[],[]⟩:Pr)])]<|.e) Try.func24 rfl rfl (by kernel_rfl) ?_
   exact tt ⟨⟨⟨rfl,rfl,rfl,rfl,rfl,rfl,oK⟩,oK⟩,tt ⟨⟨rfl,rfl,oK⟩,rfl⟩⟩
 refine tt ⟨⟨⟨rfl,rfl,rfl,rfl,rfl,rfl,rfl,rfl,rfl,rfl,rfl,rfl,rfl,rfl,rfl,rfl,oK⟩,oK⟩,⟨(by decide),tt ⟨⟨by decide,rfl⟩,tt ⟨⟨⟨rfl,rfl,rfl,rfl,rfl,oK⟩,oK⟩,tt ⟨⟨⟨rfl,rfl,oK⟩,oK⟩,⟨⟨⟨rfl,oK⟩,oK⟩,⟨⟨⟨rfl,oK⟩,oK⟩,tt ⟨(CE (am [ab (bs [114]) 2 (⟨1,e0,0⟩:ah)] [ak (bs [109]) 2 (⟨1,e0,0⟩:ah)]) (am [ab (bs [114]) 2 (⟨1,e0,0⟩:ah)] [ak (bs [109]) 2 (⟨1,e0,0⟩:ah)]) (by decide) (by decide) (by decide) (by decide) KJ KJ),⟨(bT O2),tt ⟨⟨⟨rfl,rfl,oK⟩,(ma [] [])⟩,⟨(CE (am [ab (bs [114]) 2 (⟨1,e0,0⟩:ah)] [ak (bs [109]) 2 (⟨1,e0,0⟩:ah)]) (am [] []) (by decide) (by decide) (by decide) (by decide) KJ NB),tt ⟨(mT NA),tt ⟨⟨⟨⟨rfl,rfl,oK⟩,⟨rfl,rfl,oK⟩,⟨rfl,rfl,oK⟩,oK⟩,(eJ (⟨lf.U,[(⟨(bs [99]),2,0,0,(-1)⟩:Ch)]⟩:Ci) (⟨[],[]⟩:Ci) (⟨[(⟨[],[]⟩:Ps)],[[1]]⟩:Ns) Nr)⟩,tt ⟨(vT OZ),tt ⟨(eJ (⟨lf.U,[(⟨(bs [99]),2,0,0,(-1)⟩:Ch)]⟩:Ci) (⟨lf.U,[(⟨(bs [99]),2,0,0,(-1)⟩:Ch)]⟩:Ci) (⟨[(⟨[],[]⟩:Ps)],[[1]]⟩:Ns) Nt),tt ⟨(vT O0),tt ⟨⟨⟨⟨rfl,rfl,oK⟩,⟨rfl,rfl,oK⟩,oK⟩,(qN (⟨lf.U,[(⟨(bs [99]),2,0,0,(-1)⟩:Ch)]⟩:Ci) (⟨[],[]⟩:Ci) (by decide) (by decide))⟩,⟨⟨⟨rfl,oK⟩,oK⟩,⟨(K3 (bc (⟨lf.U,[(⟨(bs [99]),2,0,0,(-1)⟩:Ch)]⟩:Ci) (⟨[],[]⟩:Ci) (⟨lf.U,[(⟨(bs [99]),2,0,0,(-1)⟩:Ch)]⟩:Ci).J.length) [(bs [99])] (by decide)),tt ⟨?_,oK⟩⟩⟩⟩⟩⟩⟩⟩⟩⟩⟩⟩⟩⟩⟩⟩⟩⟩⟩⟩
 exact Pq O1
theorem AX {v w:Int} (h:cI v w) (hw:aI w=true):jY v w=v:=by
 have hw:=aR.1 hw
 obtain⟨h0,h1⟩:=h
 rw[cZ (by omega) (by omega)]at h1
 unfold jY
 rw[Pn (by omega)]
 exact Int.emod_eq_of_lt h0 (by omega)
theorem ja {α:Type} {f:Nat→α} {l:List α} {n:Nat} (d:α) (hl:l.length=n) (h:∀i,i<n→f i=l.getD i d):tab f n=l:=by
 subst hl
 apply Qq (aC _ _)
 intro i h1 h2
 have:=aN (f:=f) (n:=l.length) (d:=d) h2
 rw[bk _ _ h1,h i h2,bk _ _ h2]at this
 exact this
theorem xz {a b:Ps} (h1:a.Pe=b.Pe) (h2:a.Pd=b.Pd):a=b:=by cases a;cases b;simp_all
def zo (c:Ci):Prop:=∀n,n<c.J.length→0<(eK c n).cap→0≤(eK c n).frm∧0≤(eK c n).dst
theorem GU (sh:Int) (b:List Int):zo (aB sh b):=by
 intro n hn h
 rw[(ip sh b).2]at hn
 have e:eK (aB sh b) n=sj sh (aj sh) n:=aN hn
 rw[e]at h ⊢
 have h:0<(if 0≤vO (aj sh) n (aj sh).length∧0≤vN (aj sh) n (aj sh).length then 1+(sh / 6+n)%3 else 0):=h
 split at h
 ·rename_i hh;exact hh
 ·omega
theorem GV {o:Ci} (no:je o) {i:Nat} (hi:i<o.U.length) {k:ByteArray} (e:iT o i=k):yD o k=(i:Int):=by
 rw[← e];exact qI no.pn hi
theorem d5 {α β:Type} {f:α→β} {l:List α} {i:Nat} {d:α} {d':β} (h:i<l.length):(l.map f).getD i d'=f (l.getD i d):=by
 rw[bk _ _ (by rw[Py];exact h),bk _ _ h,Rj]
theorem I3 {p q:Pr} (h:eS p q) {s:Ps} (hs:lM p s):lM q s:=by
 refine⟨by rw[h.rl];exact hs.rl,fun i hi=>?_,by rw[h.ml];exact hs.ml,fun i hi=>?_,fun i hi j hj=>?_⟩
 ·rw[h.rl]at hi;have:=hs.rv i hi;have e:=(h.rg i).1;unfold oL at *;rw[e];exact this
 ·rw[h.ml]at hi;have:=hs.mn i hi;have e:=(h.mm i).2.1;unfold eh at *;rw[e];exact this
 ·rw[h.ml]at hi;have:=hs.mv i hi j hj;have e:=(h.mm i).1;unfold eh at *;rw[e];exact this
theorem sF {α β:Type} (f:α→β) (l:List α) (d:α):tab (fun i=>f (l.getD i d)) l.length=l.map f:=by
 apply Qq (by rw[aC,Py])
 intro i h1 h2
 have h3:i<l.length:=by rw[aC]at h1;exact h1
 have:=aN (f:=fun i=>f (l.getD i d)) (n:=l.length) (d:=f d) h3
 rw[bk _ _ h1]at this
 rw[this,Rj,bk _ _ h3]
def pW (fR:Rg→Rg) (fM:Mm→Mm) (p:Pr):Pr:={ p with Pe:=p.Pe.map fR,Pd:=p.Pd.map fM }
def I4 (fR:Rg→Rg) (fM:Mm→Mm) (c:Ci):Ci:=⟨tab (fun i=>pW fR fM (c.U.getD i ac)) c.U.length,c.J⟩
def gG (r:ah) (x:Rg):Rg:={ x with rule:={ r with src:=x.name } }
def gH (r:ah) (x:Mm):Mm:={ x with rule:={ r with src:=x.name } }
def aH (c:Ci) (r:ah):Ci:=I4 (gG r) (gH r) c
structure GW (fR:Rg→Rg) (fM:Mm→Mm):Prop where
 rg:∀x,(fR x).w=x.w∧(fR x).init=x.init∧(fR x).next=x.next
 mm:∀x,(fM x).w=x.w∧(fM x).words=x.words∧(fM x).enable=x.enable∧(fM x).addr=x.addr∧(fM x).data=x.data
theorem AY (r:ah):GW (gG r) (gH r):=⟨fun _=>⟨rfl,rfl,rfl⟩,fun _=>⟨rfl,rfl,rfl,rfl,rfl⟩⟩
section
variable {fR:Rg→Rg} {fM:Mm→Mm} {c:Ci}
theorem t4 {i:Nat} (h:i<c.U.length):aZ (I4 fR fM c) i=pW fR fM (aZ c i):=aN h
theorem qO {i:Nat} (h:¬i<c.U.length):aZ (I4 fR fM c) i=ac∧aZ c i=ac:=⟨kr (by omega),fA (by omega)⟩
theorem GX (hm:GW fR fM) (p:Pr):eS p (pW fR fM p):=by
 refine⟨Py _,Py _,fun j=>?_,fun j=>?_,rfl,rfl⟩
 ·by_cases hj:j<p.Pe.length
  ·rw[show(pW fR fM p).Pe.getD j aK=fR (p.Pe.getD j aK)from d5 hj];exact hm.rg _
  ·rw[show(pW fR fM p).Pe.getD j aK=aK from fA (by show(p.Pe.map _).length≤j;rw[Py];omega),show p.Pe.getD j aK=aK from fA (by omega)];exact⟨rfl,rfl,rfl⟩
 ·by_cases hj:j<p.Pd.length
  ·rw[show(pW fR fM p).Pd.getD j aA=fM (p.Pd.getD j aA)from d5 hj];exact hm.mm _
  ·rw[show(pW fR fM p).Pd.getD j aA=aA from fA (by show(p.Pd.map _).length≤j;rw[Py];omega),show p.Pd.getD j aA=aA from fA (by omega)];exact⟨rfl,rfl,rfl,rfl,rfl⟩
theorem CY (hm:GW fR fM):∀i,eS (aZ c i) (aZ (I4 fR fM c) i):=fun i=>by
 by_cases h:i<c.U.length
 ·rw[t4 h];exact GX hm _
 ·rw[(qO (fR:=fR) (fM:=fM) h).1,(qO (fR:=fR) (fM:=fM) h).2];exact iq _
theorem zp (hm:GW fR fM):jz c (I4 fR fM c) :=
 ⟨aC _ _,rfl,fun i _=>CY hm i,fun n=>⟨rfl,rfl,rfl⟩,fun n h=>h,fun n h=>h⟩
theorem ML (hm:GW fR fM) {s:Ns} (hs:dn c s):dn (I4 fR fM c) s:=by
 have h:=zp (c:=c) hm
 exact⟨by rw[h.pl];exact hs.pl,hs.cl,fun i hi=>by rw[h.pl]at hi;exact I3 (h.pr i hi) (hs.pv i hi),hs.cv,hs.cc⟩
theorem xA (i:Nat):iT (I4 fR fM c) i=iT c i:=by
 unfold iT
 by_cases h:i<c.U.length
 ·rw[show(I4 fR fM c).U.getD i ac=pW fR fM (c.U.getD i ac)from aN h];rfl
 ·rw[show(I4 fR fM c).U.getD i ac=ac from kr (by omega),show c.U.getD i ac=ac from fA (by omega)]
end
def o6 (k n w v:Int):Int:=if k=3 then jY (v+n) w else v
def xF (k n:Int) (p:Pr) (st:Ps):Ps:=⟨tab (fun j=>o6 k n (oL p j).w (st.Pe.getD j 0)) p.Pe.length,tab (fun j=>(st.Pd.getD j []).map (o6 k n (eh p j).w)) p.Pd.length⟩
def og (o:Ci) (k n:Int) (s:Ns):Ns:=⟨tab (fun i=>xF k n (aZ o i) (nz s i)) o.U.length,s.J⟩
theorem Oh {r:Rg} {f:Sr} {j:Nat} (hk:2≤r.rule.kind) (hf:f.is=true) (hj:j<f.p.Pe.length) (hd:gP (ku f.p) f.p.Pe.length) (hn:(f.p.Pe.getD j aK).name=r.rule.src) (hv:cI (f.s.Pe.getD j 0) r.w) (hw':aI r.w=true):yE r f=o6 r.rule.kind r.rule.n r.w (f.s.Pe.getD j 0):=by
 have hx:DW f.p r.rule.src=(j:Int):=by
  show Ax (ku f.p) f.p.Pe.length r.rule.src=_
  rw[← hn];exact qI hd hj
 have hi:Ki r f=(j:Int):=by unfold Ki;rw[Pn ⟨hf,hk⟩,hx]
 unfold yE F1 o6
 rw[hi,Pn (show(0:Int)≤(j:Int) by omega),P7,AX hv hw',eL]
theorem Oi {m:Mm} {f:Sr} {j z:Nat} (hk:2≤m.rule.kind) (hf:f.is=true) (hj:j<f.p.Pd.length) (hd:gP (qy f.p) f.p.Pd.length) (hn:(f.p.Pd.getD j aA).name=m.rule.src) (hz:z<(f.s.Pd.getD j []).length) (hv:cI ((f.s.Pd.getD j []).getD z 0) m.w) (hw':aI m.w=true):uD m f z=o6 m.rule.kind m.rule.n m.w ((f.s.Pd.getD j []).getD z 0):=by
 have hx:Aw f.p m.rule.src=(j:Int):=by
  show Ax (qy f.p) f.p.Pd.length m.rule.src=_
  rw[← hn];exact qI hd hj
 have hi:Jp m f=(j:Int):=by unfold Jp;rw[Pn ⟨hf,hk⟩,hx]
 unfold uD F2 o6
 rw[hi,P7,Pn (show(0:Int)≤(j:Int)∧z<(f.s.Pd.getD j []).length from ⟨by omega,hz⟩),AX hv hw',eL]
structure MM (o d:Ci) (k n:Int):Prop where
 pl:d.U.length=o.U.length
 ch:d.J=o.J
 pn:∀i,iT d i=iT o i
 lk:∀i,eS (aZ o i) (aZ d i)
 rg:∀i j,j<(aZ o i).Pe.length→(oL (aZ d i) j).rule=⟨k,(oL (aZ o i) j).name,n⟩
 mm:∀i j,j<(aZ o i).Pd.length→(eh (aZ d i) j).rule=⟨k,(eh (aZ o i) j).name,n⟩
theorem AZ {o d:Ci} {k n:Int} (t:MM o d k n) (hk:k=2∨k=3):∀i,i<d.U.length→Ay (d.U.getD i ac):=fun i _ =>
 ⟨fun j hj=>by
   have:=t.rg i j (by rw[← (t.lk i).rl];exact hj)
   show 0≤(oL (aZ d i) j).rule.kind∧(oL (aZ d i) j).rule.kind≤3
   rw[this];show 0≤k∧k≤3;omega,
  fun j hj=>by
   have:=t.mm i j (by rw[← (t.lk i).ml];exact hj)
   show 0≤(eh (aZ d i) j).rule.kind∧(eh (aZ d i) j).rule.kind≤3
   rw[this];show 0≤k∧k≤3;omega⟩
theorem GY {l:List Int} {f g:Nat→Int} {h:Int→Int} {n:Nat} (hl:l.length=n) (hf:∀z,z<n→f z=h (l.getD z 0)):tab f n=l.map h:=by
 subst hl
 apply Qq (by rw[aC,Py])
 intro i h1 h2
 have hi:i<l.length:=by rw[aC]at h1;exact h1
 have:=aN (f:=f) (n:=l.length) (d:=0) hi
 rw[bk _ _ h1,hf i hi,bk _ _ hi]at this
 rw[this,Rj]
theorem v7 {o d:Ci} {k n:Int} {s:Ns} (t:MM o d k n) (hk:k=2∨k=3) (TA:bQ o) (no:je o) (nd:je d) (hs:dn o s) (Vw:zo o):ae o d s=(og o k n s,0):=by
 have hcl:d.J.length=o.J.length:=by rw[t.ch]
 have Ur:∀i,i<o.J.length→Av o d i=false:=by
  intro i hi
  cases h:Av o d i
  ·rfl
  ·exact absurd (by rw[t.ch]) (Cp nd h (k:=i) (by omega) (by unfold bq;rw[t.ch]))
 rw[H7 no nd (AZ t hk)]
 have hw:∀i,i<d.J.length→rj o d s i=s.J.getD i []:=by
  intro i hi
  rw[← se no nd,IE no nd (i:=i) (by omega) hi (by unfold bq;rw[t.ch]),Pn (by rw[t.ch])]
 rw[H4 (fun i hi=>by unfold vL;rw[Cq no hi,Ur i hi];rfl) (fun i hi=>by
  unfold mC
  rw[hw i hi,t.ch]
  rcases Int.lt_or_le 0 (o.J.getD i aF).cap with h0 | h0
  ·obtain⟨a,b⟩:=Vw i (by omega) h0
   have:=hs.cc i (by omega) a b
   have e1:((s.J.getD i []).length:Int)≤(o.J.getD i aF).cap:=this
   rw[show decide ((o.J.getD i aF).cap<((s.J.getD i []).length:Int))=false from Pv (by omega),Qd]
  ·rw[Pv (by omega)];rfl)]
 have hp:tab (qJ o d s) d.U.length=tab (fun i=>xF k n (aZ o i) (nz s i)) o.U.length:=by
  rw[t.pl]
  refine bC (fun i hi=>?_)
  have hv:=hs.pv i hi
  have hpo:=TA.pr i hi
  have lk:=t.lk i
  unfold qJ
  rw[Kk (by rw[GV no hi (t.pn i).symm];omega),GV no hi (t.pn i).symm,P7]
  have lr:(aZ d i).Pe.length=(aZ o i).Pe.length:=lk.rl
  have lm:(aZ d i).Pd.length=(aZ o i).Pd.length:=lk.ml
  refine xz ?_ ?_
  ·show tab (fun j=>yE ((aZ d i).Pe.getD j aK) ⟨true,aZ o i,nz s i⟩) (aZ d i).Pe.length=tab (fun j=>o6 k n (oL (aZ o i) j).w ((nz s i).Pe.getD j 0)) (aZ o i).Pe.length
   rw[lr]
   refine bC (fun j hj=>?_)
   have q:=t.rg i j hj
   have qw:(oL (aZ d i) j).w=(oL (aZ o i) j).w:=(lk.rg j).1
   have e2:(aZ d i).Pe.getD j aK=oL (aZ d i) j:=rfl
   rw[e2,Oh (f:=⟨true,aZ o i,nz s i⟩) (j:=j) (by rw[q];show 2≤k;omega) rfl hj (no.rn i hi) (by rw[q]) (by rw[qw];exact hv.rv j hj) (by rw[qw];exact(hpo.rw j hj).1),q,qw]
  ·show tab (fun j=>tab (uD ((aZ d i).Pd.getD j aA) ⟨true,aZ o i,nz s i⟩) ((aZ d i).Pd.getD j aA).words.toNat) (aZ d i).Pd.length=tab (fun j=>((nz s i).Pd.getD j []).map (o6 k n (eh (aZ o i) j).w)) (aZ o i).Pd.length
   rw[lm]
   refine bC (fun j hj=>?_)
   have q:=t.mm i j hj
   have qw:(eh (aZ d i) j).w=(eh (aZ o i) j).w:=(lk.mm j).1
   have qn:(eh (aZ d i) j).words=(eh (aZ o i) j).words:=(lk.mm j).2.1
   have e2:(aZ d i).Pd.getD j aA=eh (aZ d i) j:=rfl
   rw[e2,qn]
   have hl:=hv.mn j hj
   have hl':((nz s i).Pd.getD j []).length=(eh (aZ o i) j).words.toNat:=by have:(((nz s i).Pd.getD j []).length:Int)=(eh (aZ o i) j).words:=hl;omega
   refine GY (g:=fun _=>0) hl' (fun z hz=>?_)
   rw[Oi (f:=⟨true,aZ o i,nz s i⟩) (j:=j) (by rw[q];show 2≤k;omega) rfl hj (no.mn i hi) (by rw[q]) (by show z<((nz s i).Pd.getD j []).length;omega) (by rw[qw];exact hv.mv j hj z (by show z<((nz s i).Pd.getD j []).length;omega)) (by rw[qw];exact(hpo.mw j hj).1),q,qw]
 have hc:tab (rj o d s) d.J.length=s.J:=ja [] (by rw[hs.cl,hcl]) hw
 rw[hp,hc]
 rfl
theorem I5 {p:Pr} {n:Int} {st:Ps} (h:lM p st):xF 2 n p st=st:=by
 refine xz ?_ ?_
 ·exact ja 0 h.rl (fun j _=>rfl)
 ·refine ja [] h.ml (fun j _=>?_)
  show List.map _ _=_
  exact(QN (g:=id) (fun a _=>rfl)).trans (List.map_id _)
theorem CZ {o:Ci} {n:Int} {s:Ns} (h:dn o s):og o 2 n s=s:=by
 obtain⟨ps,cs⟩:=s
 show(⟨_,_⟩:Ns)=_
 congr 1
 exact ja a8 h.pl (fun i hi=>I5 (h.pv i hi))
theorem GZ {p q:Pr} (h:eS p q) (k n:Int) (st:Ps):xF k n q st=xF k n p st:=by
 unfold xF
 rw[h.rl,h.ml]
 rw[bC (f:=fun j=>o6 k n (oL q j).w (st.Pe.getD j 0)) (g:=fun j=>o6 k n (oL p j).w (st.Pe.getD j 0)) (fun j _=>by show o6 k n (q.Pe.getD j aK).w _=_;rw[(h.rg j).1])]
 rw[bC (f:=fun j=>(st.Pd.getD j []).map (o6 k n (eh q j).w)) (g:=fun j=>(st.Pd.getD j []).map (o6 k n (eh p j).w)) (fun j _=>by show(st.Pd.getD j []).map (o6 k n (q.Pd.getD j aA).w)=_;rw[(h.mm j).1])]
theorem I6 {o d:Ci} {k n k' n':Int} (t:MM o d k n) (s:Ns):og d k' n' s=og o k' n' s:=by
 unfold og
 rw[t.pl]
 congr 1
 exact bC (fun i _=>GZ (t.lk i) _ _ _)
theorem C0 {n m w v:Int}:o6 3 m w (o6 3 n w v)=o6 3 (n+m) w v:=by
 unfold o6
 rw[Pn rfl,Pn rfl,Pn rfl,show jY (v+n) w+m=m+jY (v+n) w by omega,eL]
 congr 1;omega
theorem I7 {p:Pr} {n m:Int} {st:Ps}:xF 3 m p (xF 3 n p st)=xF 3 (n+m) p st:=by
 refine xz ?_ ?_
 ·refine bC (fun j hj=>?_)
  rw[show(xF 3 n p st).Pe.getD j 0=o6 3 n (oL p j).w (st.Pe.getD j 0)from aN hj];exact C0
 ·refine bC (fun j hj=>?_)
  rw[show(xF 3 n p st).Pd.getD j []=(st.Pd.getD j []).map (o6 3 n (eh p j).w)from aN hj,Rf]
  exact QN (fun a _=>C0)
theorem C2 {o:Ci} {n m:Int} {s:Ns}:og o 3 m (og o 3 n s)=og o 3 (n+m) s:=by
 unfold og
 congr 1
 refine bC (fun i hi=>?_)
 show xF 3 m (aZ o i) ((tab (fun i=>xF 3 n (aZ o i) (nz s i)) o.U.length).getD i a8)=_
 rw[aN hi,I7]
theorem G0 {n w v:Int}:o6 3 (IntKind.wrap .i64 n) w v=o6 3 n w v:=by
 unfold o6
 rw[Pn rfl,Pn rfl,← eL,yv,eL]
theorem zq {o:Ci} {n:Int} {s:Ns}:og o 3 (IntKind.wrap .i64 n) s=og o 3 n s:=by
 have:∀w,o6 3 (IntKind.wrap .i64 n) w=o6 3 n w:=fun w=>funext fun v=>G0
 unfold og xF
 simp only[this]
theorem zs {w v:Int} (h:cI v w) (hw:aI w=true):o6 3 0 w v=v:=by
 unfold o6;rw[Pn rfl,Int.add_zero];exact AX h hw
theorem G1 {o:Ci} {s:Ns} (TA:bQ o) (h:dn o s):og o 3 0 s=s:=by
 obtain⟨ps,cs⟩:=s
 show(⟨_,_⟩:Ns)=_
 congr 1
 refine ja a8 h.pl (fun i hi=>?_)
 have hv:=h.pv i hi
 have hp:=TA.pr i hi
 refine xz ?_ ?_
 ·exact ja 0 hv.rl (fun j hj=>zs (hv.rv j hj) (hp.rw j hj).1)
 ·refine ja [] hv.ml (fun j hj=>?_)
  show List.map _ _=_
  refine(QN (g:=id) (fun a ha=>?_)).trans (List.map_id _)
  obtain⟨z,hz,rfl⟩:=QK ha
  have:=hv.mv j hj z hz
  rw[bk _ _ hz]at this
  exact zs this (hp.mw j hj).1
theorem C3 {n w v:Int} (hw:aI w=true):cI (o6 3 n w v) w:=by
 have h:=aR.1 hw
 unfold o6;rw[Pn rfl];exact Cl (by omega) (by omega)
theorem K6 {o:Ci} {n:Int} {s:Ns} (TA:bQ o) (h:dn o s):dn o (og o 3 n s):=by
 refine⟨aC _ _,h.cl,fun i hi=>?_,h.cv,h.cc⟩
 have hv:=h.pv i hi
 have hp:=TA.pr i hi
 rw[show nz (og o 3 n s) i=xF 3 n (aZ o i) (nz s i)from aN hi]
 refine⟨aC _ _,fun j hj=>?_,aC _ _,fun j hj=>?_,fun j hj z hz=>?_⟩
 ·rw[show(xF 3 n (aZ o i) (nz s i)).Pe.getD j 0=_ from aN hj];exact C3 (hp.rw j hj).1
 ·rw[show(xF 3 n (aZ o i) (nz s i)).Pd.getD j []=_ from aN hj,Py];exact hv.mn j hj
 ·rw[show(xF 3 n (aZ o i) (nz s i)).Pd.getD j []=((nz s i).Pd.getD j []).map (o6 3 n (eh (aZ o i) j).w)from aN hj]at hz ⊢
  rw[Py]at hz
  rw[d5 (d:=0) hz];exact C3 (hp.mw j hj).1
theorem A1 {c:Ci} {r:ah} (h:je c):je (aH c r):=by
 refine⟨h.cn,fun i hi j hj=>?_,fun i hi=>?_,fun i hi=>?_⟩
 ·rw[show(aH c r).U.length=c.U.length from aC _ _]at hi
  unfold aH;rw[xA,xA];exact h.pn i hi j hj
 ·rw[show(aH c r).U.length=c.U.length from aC _ _]at hi
  have e:(aH c r).U.getD i ac=pW (gG r) (gH r) (aZ c i):=t4 hi
  rw[e]
  intro a ha b hb
  have ha':a<(aZ c i).Pe.length:=by simpa[pW]using ha
  have:=h.rn i hi a ha' b hb
  unfold ku at this ⊢
  rw[show(pW (gG r) (gH r) (aZ c i)).Pe.getD a aK=gG r ((aZ c i).Pe.getD a aK)from d5 ha',show(pW (gG r) (gH r) (aZ c i)).Pe.getD b aK=gG r ((aZ c i).Pe.getD b aK)from d5 (by omega)]
  exact this
 ·rw[show(aH c r).U.length=c.U.length from aC _ _]at hi
  have e:(aH c r).U.getD i ac=pW (gG r) (gH r) (aZ c i):=t4 hi
  rw[e]
  intro a ha b hb
  have ha':a<(aZ c i).Pd.length:=by simpa[pW]using ha
  have:=h.mn i hi a ha' b hb
  unfold qy at this ⊢
  rw[show(pW (gG r) (gH r) (aZ c i)).Pd.getD a aA=gH r ((aZ c i).Pd.getD a aA)from d5 ha',show(pW (gG r) (gH r) (aZ c i)).Pd.getD b aA=gH r ((aZ c i).Pd.getD b aA)from d5 (by omega)]
  exact this
theorem pX (c:Ci) (r:ah):MM c (aH c r) r.kind r.n:=by
 refine⟨aC _ _,rfl,fun i=>xA i,CY (AY r),fun i j hj=>?_,fun i j hj=>?_⟩
 ·by_cases hi:i<c.U.length
  ·rw[show aZ (aH c r) i=pW (gG r) (gH r) (aZ c i)from t4 hi,show oL (pW (gG r) (gH r) (aZ c i)) j=gG r (oL (aZ c i) j)from d5 hj];rfl
  ·rw[(qO (fR:=gG r) (fM:=gH r) hi).2]at hj;exact absurd hj (Qy _)
 ·by_cases hi:i<c.U.length
  ·rw[show aZ (aH c r) i=pW (gG r) (gH r) (aZ c i)from t4 hi,show eh (pW (gG r) (gH r) (aZ c i)) j=gH r (eh (aZ c i) j)from d5 hj];rfl
  ·rw[(qO (fR:=gG r) (fM:=gH r) hi).2]at hj;exact absurd hj (Qy _)
theorem zt (c:Ci) (r r':ah):MM (aH c r) (aH c r') r'.kind r'.n:=by
 have t:=pX c r;have t':=pX c r'
 refine⟨t'.pl.trans t.pl.symm,rfl,fun i=>(t'.pn i).trans (t.pn i).symm,fun i=>?_,fun i j hj=>?_,fun i j hj=>?_⟩
 ·have a:=t.lk i;have b:=t'.lk i
  exact⟨b.rl.trans a.rl.symm,b.ml.trans a.ml.symm,fun j=>⟨(b.rg j).1.trans (a.rg j).1.symm,(b.rg j).2.1.trans (a.rg j).2.1.symm,(b.rg j).2.2.trans (a.rg j).2.2.symm⟩,fun j=>⟨(b.mm j).1.trans (a.mm j).1.symm,(b.mm j).2.1.trans (a.mm j).2.1.symm,(b.mm j).2.2.1.trans (a.mm j).2.2.1.symm,(b.mm j).2.2.2.1.trans (a.mm j).2.2.2.1.symm,(b.mm j).2.2.2.2.trans (a.mm j).2.2.2.2.symm⟩,b.tk.trans a.tk.symm,b.pt.trans a.pt.symm⟩
 ·have TB:j<(aZ c i).Pe.length:=by rw[← (t.lk i).rl];exact hj
  rw[t'.rg i j TB]
  by_cases hi:i<c.U.length
  ·rw[show aZ (aH c r) i=pW (gG r) (gH r) (aZ c i)from t4 hi,show oL (pW (gG r) (gH r) (aZ c i)) j=gG r (oL (aZ c i) j)from d5 TB];rfl
  ·rw[(qO (fR:=gG r) (fM:=gH r) hi).2]at TB;exact absurd TB (Qy _)
 ·have TB:j<(aZ c i).Pd.length:=by rw[← (t.lk i).ml];exact hj
  rw[t'.mm i j TB]
  by_cases hi:i<c.U.length
  ·rw[show aZ (aH c r) i=pW (gG r) (gH r) (aZ c i)from t4 hi,show eh (pW (gG r) (gH r) (aZ c i)) j=gH r (eh (aZ c i) j)from d5 TB];rfl
  ·rw[(qO (fR:=gG r) (fM:=gH r) hi).2]at TB;exact absurd TB (Qy _)
theorem zu (c:Ci) (r:ah):jz c (aH c r):=zp (AY r)
theorem A2 {c:Ci} {r:ah} {s:Ns} (h:dn c s):dn (aH c r) s:=ML (AY r) h
theorem qP {c:Ci} {r:ah} {s:Ns} (hk:r.kind=2∨r.kind=3) (TA:bQ c) (no:je c) (hs:dn c s) (Vw:zo c):ae c (aH c r) s=(og c r.kind r.n s,0) :=
 v7 (pX c r) hk TA no (A1 no) hs Vw
theorem t5 {c:Ci} {r r':ah} {s:Ns} (hk:r'.kind=2∨r'.kind=3) (TA:bQ c) (no:je c) (hs:dn c s) (Vw:zo c):ae (aH c r) (aH c r') s=(og c r'.kind r'.n s,0):=by
 rw[v7 (zt c r r') hk (tQ (zu c r) TA) (A1 no) (A1 no) (A2 hs) Vw,I6 (pX c r)]
def K7 (x:Rg):Rg:={ x with rule:={ x.rule with src:=x.name } }
def K8 (x:Mm):Mm:={ x with rule:={ x.rule with src:=x.name } }
def Hg (p:Pr):Pr:=pW K7 K8 p
theorem qQ {c:Ci} {r:ah} {i:Nat} (h:i<c.U.length):(aQ c r).U.getD i ac=D4 r (c.U.getD i ac):=aN h
theorem K9 (r:ah) (p:Pr):Hg (D4 r p)=pW (gG r) (gH r) p:=by
 unfold Hg pW D4
 simp only[Rf]
 rfl
theorem G2 {F:Pr→Pr} {G:Pr→Pr} {c:Ci} {r:ah} (h:∀p,F (D4 r p)=G p):gN (fun zi=>F ((aQ c r).U.getD zi ac)) (aQ c r).U c.U.length=tab (fun i=>G (c.U.getD i ac)) c.U.length:=by
 have hl:(aQ c r).U.length=c.U.length:=aC _ _
 rw[b7 (by rw[hl];exact Pl _)]
 exact bC (fun i hi=>by rw[qQ hi,h])
abbrev C4 (c:Ci):List D:=[(dL 6 bp ac c.U),(dL 5 bP aF c.J)]
abbrev gI (r:ah):ax:=(.var 51 [(i6 r.kind),(dS r.src),(i6 r.n)])
abbrev C5 (c:Ci) (i:Nat):ax:=(.var 80 [(dS ((c.U.getD i ac).name)),(dS ((c.U.getD i ac).clock)),(.own 11),(.own 12),(dL 9 dU bV ((c.U.getD i ac).I)),(dL 16 dT b4 ((c.U.getD i ac).Pc))])
abbrev gX (c:Ci):ax:=(.var 31 [(.own 8),(dL 5 bP aF c.J)])
abbrev C6 (r:ah) (c:Ci):List (Nat×D):=[(11,(.agg [(i6 r.kind),(dS r.src),(i6 r.n)])),(10,(.agg (C4 c))),(2,(.ptr 0 0 0 0)),(3,(.ptr 1 0 0 0)),(4,(.ptr 2 0 0 0))]
abbrev kZ:ax:=(.var 31 [.nils,.nils])
abbrev gJ (c:Ci):ax:=(.var 31 (C4 c))
set_option maxRecDepth 100000
def fD (l:List Pr) (rr:Nat):oZ:=if rr%2=0 then ⟨66,13,Rg,bG,aK,(l.getD (rr / 2) ac).Pe⟩else ⟨70,27,Mm,bS,aA,(l.getD (rr / 2) ac).Pd⟩
theorem C7 (l:List Pr) (i:Nat):fD l (2*i)=⟨66,13,Rg,bG,aK,(l.getD i ac).Pe⟩:=by unfold fD;rw[Pn (by omega),show 2*i / 2=i by omega]
theorem C8 (l:List Pr) (i:Nat):fD l (2*i+1)=⟨70,27,Mm,bS,aA,(l.getD i ac).Pd⟩:=by unfold fD;rw[Pj (by omega),show(2*i+1) / 2=i by omega]
theorem Oj {l:List Pr} {i:Nat}:(.arr 66 13 bG aK (l.getD i ac).Pe:ax)=(fD l (2*i)).box:=by rw[C7];rfl
theorem Ok {l:List Pr} {i:Nat} {X:oZ}:(.arr 70 27 bS aA (l.getD i ac).Pd:ax)=(rE (fD l) (2*i) X (2*i+1)).box:=by
  show _=(if 2*i+1=2*i then X else fD l (2*i+1)).box
  rw[Pj (by omega),C8];rfl
def cP (l:List Pr) (g zi zj:Nat):D:=if zj=2 then .gr g (2*zi)else if zj=3 then .gr g (2*zi+1)else kX bp ac l zi zj
def zD (l:List Pr) (n q1 q2 zj:Nat):D:=if zj=2 then .own q1 else if zj=3 then .own q2 else kX bp ac l n zj
def JK (l:List Pr) (n g q1 q2 zi zj:Nat):D:=if zi<n then cP l g zi zj else zD l n q1 q2 zj
def MN (l:List Pr) (n g q2 zi zj:Nat):D:=if zi<n then cP l g zi zj else if zj=3 then .own q2 else cP l g n zj
def MO (l:List Pr) (i g q1 zi zj:Nat):D:=if zi=i∧zj=2 then .own q1 else cP l g zi zj
def v8 (l:List Pr) (i g q1 q2 zi zj:Nat):D:=if zi=i then zD l i q1 q2 zj else cP l g zi zj
def MP (l:List Pr) (i g q2 zi zj:Nat):D:=if zi=i∧zj=3 then .own q2 else cP l g zi zj
theorem G3 {q1 q2 k:Nat} (h:[q1,q2].all (fun g=>!(Nat.beq g k))=true):(!(Nat.beq q1 k))=true∧(!(Nat.beq q2 k))=true:=by
  simpa only [Rn,List.all_nil,Bool.and_true,Pg]using h
theorem t6 {g q1 q2 k:Nat} (h:[g,q1,q2].all (fun g=>!(Nat.beq g k))=true):(!(Nat.beq g k))=true∧(!(Nat.beq q1 k))=true∧(!(Nat.beq q2 k))=true:=by
  simpa only [Rn,List.all_nil,Bool.and_true,Pg]using h
theorem zw {l:List Pr} {n q1 q2 j k:Nat} (h1:(!(Nat.beq q1 k))=true) (h2:(!(Nat.beq q2 k))=true):(zD l n q1 q2 j).free k=true:=by
  unfold zD;split
  · exact h1
  · split
    · exact h2
    · rfl
theorem C9 {l:List Pr} {g i j k:Nat} (h:(!(Nat.beq g k))=true):(cP l g i j).free k=true:=by
  unfold cP;split
  · exact h
  · split
    · exact h
    · rfl
abbrev MQ (l:List Pr) (n q1 q2:Nat) (ds:List D):Prop:=∀zi zj,zi<1→zj<6→zD l n q1 q2 zj=ds.getD (zi*6+zj) .junk∧∀z8,[q1,q2].all (fun g=>!(Nat.beq g z8))=true→(zD l n q1 q2 zj).free z8=true
structure MR (p q:Pr):Prop where
  n:p.name=q.name
  c:p.clock=q.clock
  t:p.I=q.I
  u:p.Pc=q.Pc
theorem Ol {l:List Pr} {n q1 q2:Nat} {p:Pr} (h:MR (l.getD n ac) p):MQ l n q1 q2 [.v (.str p.name),.v (.str p.clock),.own q1,.own q2,.v (.sl 9 dU bV p.I),.v (.sl 16 dT b4 p.Pc)]:=fun i j hi hj=>by
  refine⟨?_,fun k hk=>zw (G3 hk).1 (G3 hk).2⟩
  have h0:i=0:=by omega
  subst h0
  obtain⟨a1,a2,a3,a4⟩:=h
  match j,hj with
  | 0,_=>show D.v (.str (l.getD n ac).name)=D.v (.str p.name);rw[a1]
  | 1,_=>show D.v (.str (l.getD n ac).clock)=D.v (.str p.clock);rw[a2]
  | 2,_=>rfl
  | 3,_=>rfl
  | 4,_=>show D.v (.sl 9 dU bV (l.getD n ac).I)=D.v (.sl 9 dU bV p.I);rw[a3]
  | 5,_=>show D.v (.sl 16 dT b4 (l.getD n ac).Pc)=D.v (.sl 16 dT b4 p.Pc);rw[a4]
abbrev MS (l:List Pr) (n g q1 q2 id:Nat):Prop:=n+1≤137438953472∧∀zi zj,zi<n+1→zj<6→JK l n g q1 q2 zi zj=(if zi<n then cP l g zi zj else zD l n q1 q2 zj)∧(JK l n g q1 q2 zi zj).free id=true∧∀z8,[g,q1,q2].all (fun g=>!(Nat.beq g z8))=true→(JK l n g q1 q2 zi zj).free z8=true
theorem Om {l:List Pr} {n g q1 q2 id:Nat} (hn:n+1≤137438953472) (hg:(!(Nat.beq g id))=true) (h1:(!(Nat.beq q1 id))=true) (h2:(!(Nat.beq q2 id))=true):MS l n g q1 q2 id:=⟨hn,fun i j hi hj=>by
  have key:∀k,(!(Nat.beq g k))=true→(!(Nat.beq q1 k))=true→(!(Nat.beq q2 k))=true→(JK l n g q1 q2 i j).free k=true:=fun k a b c=>by
    unfold JK;split
    · exact C9 a
    · exact zw b c
  exact⟨rfl,key id hg h1 h2,fun k hk=>key k (t6 hk).1 (t6 hk).2.1 (t6 hk).2.2⟩⟩
theorem jX {g rr q:Nat} {cq:D} (h:(∃r',cq=.gr g r'∧r'≠rr)∨(∃x,cq=.v x)∨(cq=.nils)∨∃p,cq=.own p∧p≠q∧p≠g):Ag g rr q cq cq:=.inr ⟨rfl,h⟩
theorem zx {l:List Pr} {g i j rr:Nat} (h1:j=2→2*i≠rr) (h2:j=3→2*i+1≠rr):(∃r',cP l g i j=.gr g r'∧r'≠rr)∨(∃x,cP l g i j=.v x):=by
  unfold cP;split
  · rename_i h;exact .inl ⟨_,rfl,h1 h⟩
  · split
    · rename_i h;exact .inl ⟨_,rfl,h2 h⟩
    · exact .inr ⟨_,rfl⟩
theorem t7 {l:List Pr} {g i j rr q:Nat} (h1:j=2→2*i≠rr) (h2:j=3→2*i+1≠rr):Ag g rr q (cP l g i j) (cP l g i j):=jX (by
  rcases zx (l:=l) (g:=g) h1 h2 with h | h
  · exact .inl h
  · exact .inr (.inl h))
abbrev OG (l:List Pr) (n g q1 q2:Nat) (w:List Rg):Prop:=2*n≤2*n∧2*n+1=max (2*n) (2*n+1)∧(∀z8,z8<2*n+1→fD l z8=if z8=2*n then (⟨66,13,Rg,bG,aK,w⟩:oZ)else fD l z8)∧∀zi zj,zi<n+1→zj<6→Ag g (2*n) q1 (JK l n g q1 q2 zi zj) (MN l n g q2 zi zj)
abbrev OH (l:List Pr) (n g q2:Nat) (w:List Mm):Prop:=2*n+1≤2*n+1∧2*(n+1)=max (2*n+1) (2*n+1+1)∧(∀z8,z8<2*(n+1)→fD l z8=if z8=2*n+1 then (⟨70,27,Mm,bS,aA,w⟩:oZ)else fD l z8)∧∀zi zj,zi<n+1→zj<6→Ag g (2*n+1) q2 (MN l n g q2 zi zj) (cP l g zi zj)
theorem O4 {l:List Pr} {n g q1 q2:Nat} {w:List Rg} (h:w=(l.getD n ac).Pe) (hq:q2≠q1) (hg:q2≠g):OG l n g q1 q2 w:=by
  refine⟨Pl _,by omega,fun k _=>?_,fun i j hi hj=>?_⟩
  · by_cases e:k=2*n
    · rw[Pn e,e,h,C7]
    · rw[Pj e]
  · unfold JK MN
    by_cases h1:i<n
    · rw[Pn h1,Pn h1];exact t7 (fun _=>by omega) (fun _=>by omega)
    · have h2:i=n:=by omega
      subst h2
      rw[Pj h1,Pj h1]
      unfold zD
      by_cases h2:j=2
      · subst h2;exact .inl ⟨rfl,rfl⟩
      · rw[Pj h2]
        by_cases h3:j=3
        · subst h3;exact jX (.inr (.inr (.inr ⟨q2,rfl,hq,hg⟩)))
        · rw[Pj h3,Pj h3]
          unfold cP;rw[Pj h2,Pj h3]
          exact jX (.inr (.inl ⟨_,rfl⟩))
theorem O5 {l:List Pr} {n g q2:Nat} {w:List Mm} (h:w=(l.getD n ac).Pd):OH l n g q2 w:=by
  refine⟨Pl _,by omega,fun k _=>?_,fun i j hi hj=>?_⟩
  · by_cases e:k=2*n+1
    · rw[Pn e,e,h,C8]
    · rw[Pj e]
  · unfold MN
    by_cases h1:i<n
    · rw[Pn h1];exact t7 (fun _=>by omega) (fun _=>by omega)
    · have h2:i=n:=by omega
      subst h2
      rw[Pj h1]
      by_cases h3:j=3
      · subst h3;exact .inl ⟨rfl,rfl⟩
      · rw[Pj h3];exact t7 (fun e=>by omega) (fun e=>absurd e h3)
abbrev M3 (l:List Pr) (n m g:Nat):Prop:=n=m∧∀zi zj,zi<n→zj<6→cP l g zi zj=cP l g zi zj∧∀z8,[g].all (fun g=>!(Nat.beq g z8))=true→(cP l g zi zj).free z8=true
theorem G4 {l:List Pr} {g i j k:Nat} (h:[g].all (fun g=>!(Nat.beq g k))=true):(cP l g i j).free k=true:=C9 (by simpa using h)
theorem Oo {l:List Pr} {n m g:Nat} (h:n=m):M3 l n m g:=⟨h,fun i j _ _=>⟨rfl,fun k hk=>G4 hk⟩⟩
theorem oY {g rr q:Nat} {cq:D} (h:(∃r',cq=.gr g r'∧r'≠rr)∨(∃x,cq=.v x)∨(cq=.nils)∨∃p,cq=.own p∧p≠q∧p≠g):ye g rr q cq cq:=.inr ⟨rfl,h⟩
theorem Da {l:List Pr} {g i j rr q:Nat} (h1:j=2→2*i≠rr) (h2:j=3→2*i+1≠rr):ye g rr q (cP l g i j) (cP l g i j):=oY (by
  rcases zx (l:=l) (g:=g) h1 h2 with h | h
  · exact .inl h
  · exact .inr (.inl h))
abbrev OI (l:List Pr) (n m i g q1:Nat):Prop:=2*i<m∧∀zi zj,zi<n→zj<6→ye g (2*i) q1 (cP l g zi zj) (MO l i g q1 zi zj)
abbrev OJ (l:List Pr) (n m i g q1 q2:Nat):Prop:=2*i+1<m∧∀zi zj,zi<n→zj<6→ye g (2*i+1) q2 (MO l i g q1 zi zj) (v8 l i g q1 q2 zi zj)
theorem O6 {l:List Pr} {n m i g q1:Nat} (h:2*i<m):OI l n m i g q1:=⟨h,fun a b _ _=>by
  unfold MO
  by_cases h1:a=i∧b=2
  · rw[Pn h1];obtain⟨rfl,rfl⟩:=h1;exact .inl ⟨rfl,rfl⟩
  · rw[Pj h1];exact Da (fun e=>by omega) (fun e=>by omega)⟩
theorem O7 {l:List Pr} {n m i g q1 q2:Nat} (h:2*i+1<m) (hq:q1≠q2) (hg:q1≠g):OJ l n m i g q1 q2:=⟨h,fun a b _ _=>by
  unfold MO v8
  by_cases h0:a=i
  · subst h0
    rw[Pn rfl]
    unfold zD
    by_cases h1:b=2
    · subst h1;rw[Pn ⟨rfl,rfl⟩];exact oY (.inr (.inr (.inr ⟨q1,rfl,hq,hg⟩)))
    · rw[Pj (fun h=>h1 h.2),Pj h1]
      by_cases h2:b=3
      · subst h2;exact .inl ⟨rfl,rfl⟩
      · rw[Pj h2];unfold cP;rw[Pj h1,Pj h2];exact oY (.inr (.inl ⟨_,rfl⟩))
  · rw[Pj (fun h=>h0 h.1),Pj h0];exact Da (fun e=>by omega) (fun e=>by omega)⟩
theorem La {l:List Pr} {i g q1 q2 j:Nat}:v8 l i g q1 q2 i j=zD l i q1 q2 j:=Pn rfl
theorem O8 {l:List Pr} {i g q1 q2:Nat} {p:Pr} (h:MR (l.getD i ac) p):ry (v8 l i g q1 q2 i 0) (.v (.str p.name))∧ry (v8 l i g q1 q2 i 1) (.v (.str p.clock))∧ry (v8 l i g q1 q2 i 2) (.own q1)∧ry (v8 l i g q1 q2 i 3) (.own q2)∧ry (v8 l i g q1 q2 i 4) (.v (.sl 9 dU bV p.I))∧ry (v8 l i g q1 q2 i 5) (.v (.sl 16 dT b4 p.Pc))∧True:=by
  obtain⟨a1,a2,a3,a4⟩:=h
  rw[← a1,← a2,← a3,← a4]
  simp only[La]
  exact⟨by simp[zD,kX,bp,ry,xD],by simp[zD,kX,bp,ry,xD],rfl,rfl,by simp[zD,kX,bp,ry,xD],by simp[zD,kX,bp,ry,xD],oK⟩
abbrev Oq (l:List Pr) (i:Nat):Nat→oZ:=rE (rE (fD l) (2*i) (qp (fD l (2*i)))) (2*i+1) (qp (rE (fD l) (2*i) (qp (fD l (2*i))) (2*i+1)))
abbrev Ot (l l2:List Pr) (i:Nat):Nat→oZ:=rE (fD l2) (2*i+1) (qp (rE (fD l) (2*i) (qp (fD l (2*i))) (2*i+1)))
abbrev OK (lc l l2:List Pr) (n m i g q1 q2:Nat) (w:List Rg):Prop:=2*i≤m∧m=max m (2*i+1)∧(∀z8,z8<m→Ot l l2 i z8=if z8=2*i then (⟨66,13,Rg,bG,aK,w⟩:oZ)else Oq l i z8)∧∀zi zj,zi<n→zj<6→Ag g (2*i) q1 (v8 lc i g q1 q2 zi zj) (MP lc i g q2 zi zj)
abbrev OL (lc l l2:List Pr) (n m i g q2:Nat) (w:List Mm):Prop:=2*i+1≤m∧m=max m (2*i+1+1)∧(∀z8,z8<m→fD l2 z8=if z8=2*i+1 then (⟨70,27,Mm,bS,aA,w⟩:oZ)else Ot l l2 i z8)∧∀zi zj,zi<n→zj<6→Ag g (2*i+1) q2 (MP lc i g q2 zi zj) (cP lc g zi zj)
theorem O9 {lc l l2:List Pr} {n m i g q1 q2:Nat} {w:List Rg} (hi:2*i+1<m) (h:(l2.getD i ac).Pe=w) (ho:∀k,k≠i→l2.getD k ac=l.getD k ac) (hq:q2≠q1) (hg:q2≠g):OK lc l l2 n m i g q1 q2 w:=by
  refine⟨by omega,by omega,fun k _=>?_,fun a b _ _=>?_⟩
  · by_cases e:k=2*i
    · subst e
      rw[Pn rfl]
      show(if 2*i=2*i+1 then _ else fD l2 (2*i))=_
      rw[Pj (by omega),C7,h]
    · rw[Pj e]
      show(if k=2*i+1 then _ else fD l2 k)=(if k=2*i+1 then _ else (if k=2*i then _ else fD l k))
      by_cases e2:k=2*i+1
      · rw[Pn e2,Pn e2]
      · rw[Pj e2,Pj e2,Pj e]
        unfold fD
        rw[ho (k / 2) (by omega)]
  · unfold v8 MP
    by_cases h0:a=i
    · subst h0
      rw[Pn rfl]
      unfold zD
      by_cases h1:b=2
      · subst h1;rw[Pj (show ¬(a=a∧2=3)from fun h=>by omega)];exact .inl ⟨rfl,rfl⟩
      · rw[Pj h1]
        by_cases h2:b=3
        · subst h2;rw[Pn rfl,Pn ⟨rfl,rfl⟩];exact jX (.inr (.inr (.inr ⟨q2,rfl,hq,hg⟩)))
        · rw[Pj h2,Pj (fun h=>h2 h.2)];unfold cP;rw[Pj h1,Pj h2];exact jX (.inr (.inl ⟨_,rfl⟩))
    · rw[Pj h0,Pj (fun h=>h0 h.1)];exact t7 (fun e=>by omega) (fun e=>by omega)
theorem Pa {lc l l2:List Pr} {n m i g q2:Nat} {w:List Mm} (hi:2*i+1<m) (h:(l2.getD i ac).Pd=w):OL lc l l2 n m i g q2 w:=by
  refine⟨by omega,by omega,fun k _=>?_,fun a b _ _=>?_⟩
  · by_cases e:k=2*i+1
    · subst e
      rw[Pn rfl,C8,h]
    · rw[Pj e]
      show _=(if k=2*i+1 then _ else fD l2 k)
      rw[Pj e]
  · unfold MP
    by_cases h0:a=i∧b=3
    · rw[Pn h0];obtain⟨rfl,rfl⟩:=h0;exact .inl ⟨rfl,rfl⟩
    · rw[Pj h0];exact t7 (fun e=>by omega) (fun e=>by omega)
theorem Pb {lc l:List Pr} {n g:Nat} (h:∀i,i<n→MR (lc.getD i ac) (l.getD i ac)):∀i j,i<n→j<6→eF g (.gs (fun zr=>.sl (fD l zr).sz (fD l zr).enc (fD l zr).d (fD l zr).l)) (cP lc g i j)=kX bp ac l i j:=by
  intro i j hi hj
  obtain⟨h1,h2,h3,h4⟩:=h i hi
  match j,hj with
  | 0,_=>show D.v (.str (lc.getD i ac).name)=D.v (.str (l.getD i ac).name);rw[h1]
  | 1,_=>show D.v (.str (lc.getD i ac).clock)=D.v (.str (l.getD i ac).clock);rw[h2]
  | 2,_=>show eF g _ (.gr g (2*i))=D.v (.sl 13 bG aK (l.getD i ac).Pe);unfold eF;rw[Pn (Nat.beq_refl g)];show D.v (.sl (fD l (2*i)).sz (fD l (2*i)).enc (fD l (2*i)).d (fD l (2*i)).l)=_;rw[C7]
  | 3,_=>show eF g _ (.gr g (2*i+1))=D.v (.sl 27 bS aA (l.getD i ac).Pd);unfold eF;rw[Pn (Nat.beq_refl g)];show D.v (.sl (fD l (2*i+1)).sz (fD l (2*i+1)).enc (fD l (2*i+1)).d (fD l (2*i+1)).l)=_;rw[C8]
  | 4,_=>show D.v (.sl 9 dU bV (lc.getD i ac).I)=D.v (.sl 9 dU bV (l.getD i ac).I);rw[h3]
  | 5,_=>show D.v (.sl 16 dT b4 (lc.getD i ac).Pc)=D.v (.sl 16 dT b4 (l.getD i ac).Pc);rw[h4]
theorem MT {c:Ci} {r:ah} {i:Nat} (h:i<c.U.length):MR ((aQ c r).U.getD i ac) (c.U.getD i ac):=by rw[qQ h];exact⟨rfl,rfl,rfl,rfl⟩
theorem Ou {c:Ci} {r:ah} {l:List Pr} (h:∀i,i<c.U.length→∃fR fM,l.getD i ac=pW fR fM (c.U.getD i ac)):∀i,i<c.U.length→MR ((aQ c r).U.getD i ac) (l.getD i ac):=fun i hi=>by
  obtain⟨fR,fM,e⟩:=h i hi
  rw[qQ hi,e]
  exact⟨rfl,rfl,rfl,rfl⟩
abbrev G5 (c:Ci) (r:ah):Ct:=⟨21,[(.agg (C4 c)),(.agg [(i6 r.kind),(dS r.src),(i6 r.n)])],true,(.agg [(dL 6 bp ac ((aH c r).U)),(dL 5 bP aF ((aH c r).J))])⟩
abbrev Eh (c:Ci) (r:ah):List ax:=[(gJ c),(gI r),kZ]
abbrev na (c:Ci) (r:ah):List (Nat×D):=(C6 r c)
abbrev nb (c:Ci) (r:ah) (TQ:Array Value):Lp (Nat):=iC [2,3,4,5,6] 10 (fun (i:Nat)=>⟨[(2,(.ptr 4 0 0 0)),(3,(.ptr 5 0 0 0)),(4,(.ptr 6 0 0 0)),(5,(.ptr 7 0 0 0)),(6,(i6 (i:Int)))],[(gJ c),(gI r),kZ,(.frame TQ (C6 r c)),(gJ c),(gI r),kZ,(gX c),(.arrD 80 6 i [9] (cP ((aQ c r).U) 9)),(.grp (2*i) (fD ((aQ c r).U)))]⟩) (fun (i:Nat)=>i≤c.U.length) (fun (i:Nat)=>c.U.length-i)
abbrev nc (c:Ci) (r:ah) (TQ:Array Value) (i:Nat):Lp (Nat×List Rg):=o0 [2,3,4,5,6,7,8] 13 (fun (j:Nat) (gs:List Rg)=>⟨[(2,(.ptr 4 0 0 0)),(3,(.ptr 5 0 0 0)),(4,(.ptr 6 0 0 0)),(5,(.ptr 7 0 0 0)),(6,(i6 (i:Int))),(7,(.ptr 10 0 0 0)),(8,(i6 (j:Int)))],[(gJ c),(gI r),kZ,(.frame TQ (C6 r c)),(gJ c),(gI r),kZ,(gX c),(.arrD 80 6 i [9] (cP ((aQ c r).U) 9)),(.grp (2*i) (fD ((aQ c r).U))),(C5 c i),(.arr 66 13 bG aK gs),(.arr 70 27 bS aA ((c.U.getD i ac).Pd))]⟩) (fun (j:Nat) (gs:List Rg)=>j≤(c.U.getD i ac).Pe.length∧gs=gN (fun zj=>AE r ((c.U.getD i ac).Pe.getD zj aK)) (c.U.getD i ac).Pe j) (fun (j:Nat) (gs:List Rg)=>(c.U.getD i ac).Pe.length-j)
abbrev nf (c:Ci) (r:ah) (TQ:Array Value) (i:Nat) (gs:List Rg):Lp (Nat×List Mm):=o0 [2,3,4,5,6,7,9] 13 (fun (k:Nat) (ms:List Mm)=>⟨[(2,(.ptr 4 0 0 0)),(3,(.ptr 5 0 0 0)),(4,(.ptr 6 0 0 0)),(5,(.ptr 7 0 0 0)),(6,(i6 (i:Int))),(7,(.ptr 10 0 0 0)),(9,(i6 (k:Int)))],[(gJ c),(gI r),kZ,(.frame TQ (C6 r c)),(gJ c),(gI r),kZ,(gX c),(.arrD 80 6 i [9] (cP ((aQ c r).U) 9)),(.grp (2*i) (fD ((aQ c r).U))),(C5 c i),(.arr 66 13 bG aK gs),(.arr 70 27 bS aA ms)]⟩) (fun (k:Nat) (ms:List Mm)=>k≤(c.U.getD i ac).Pd.length∧ms=gN (fun zj=>AF r ((c.U.getD i ac).Pd.getD zj aA)) (c.U.getD i ac).Pd k) (fun (k:Nat) (ms:List Mm)=>(c.U.getD i ac).Pd.length-k)
abbrev qR (c:Ci) (r:ah):List ax:=[(gJ c),(gI r),kZ]
abbrev qS (c:Ci) (r:ah):List ax:=[(gJ c),(gI r),(gX c),(gX c),(.arrD 80 6 c.U.length [9] (cP ((aQ c r).U) 9)),(.grp (2*c.U.length) (fD ((aQ c r).U)))]
abbrev ng (c:Ci) (r:ah):Lp (Nat×List Pr):=o0 [4,5,6] 11 (fun (i:Nat) (ls:List Pr)=>⟨[(4,(.ptr 2 0 0 0)),(5,(.ptr 10 0 0 0)),(6,(i6 (i:Int)))],[(gJ c),(gI r),kZ,.dead,(gJ c),(gI r),(gX c),(gX c),(.arrD 80 6 c.U.length [9] (cP ((aQ c r).U) 9)),(.grp (2*c.U.length) (fD ls)),(gX c)]⟩) (fun (i:Nat) (ls:List Pr)=>i≤c.U.length∧ls=gN (fun zi=>Hg ((aQ c r).U.getD zi ac)) (aQ c r).U i) (fun (i:Nat) (ls:List Pr)=>c.U.length-i)
abbrev nh (c:Ci) (r:ah) (i:Nat) (ls:List Pr):Lp (Nat×List Rg):=o0 [4,5,6,7,8] 14 (fun (j:Nat) (gs:List Rg)=>⟨[(4,(.ptr 2 0 0 0)),(5,(.ptr 10 0 0 0)),(6,(i6 (i:Int))),(7,(.ptr 13 0 0 0)),(8,(i6 (j:Int)))],[(gJ c),(gI r),kZ,.dead,(gJ c),(gI r),(gX c),(gX c),(.arrD 80 6 c.U.length [12,11,9] (v8 ((aQ c r).U) i 9 11 12)),(.grp (2*c.U.length) (Oq ls i)),(gX c),(.arr 66 13 bG aK gs),(.arr 70 27 bS aA ((ls.getD i ac).Pd)),(C5 c i)]⟩) (fun (j:Nat) (gs:List Rg)=>j≤(ls.getD i ac).Pe.length∧gs=gN (fun zj=>K7 ((ls.getD i ac).Pe.getD zj aK)) (ls.getD i ac).Pe j) (fun (j:Nat) (gs:List Rg)=>(ls.getD i ac).Pe.length-j)
abbrev ni (c:Ci) (r:ah) (i:Nat) (ls:List Pr) (gs:List Rg):Lp (Nat×List Mm):=o0 [4,5,6,7,9] 14 (fun (k:Nat) (ms:List Mm)=>⟨[(4,(.ptr 2 0 0 0)),(5,(.ptr 10 0 0 0)),(6,(i6 (i:Int))),(7,(.ptr 13 0 0 0)),(9,(i6 (k:Int)))],[(gJ c),(gI r),kZ,.dead,(gJ c),(gI r),(gX c),(gX c),(.arrD 80 6 c.U.length [12,11,9] (v8 ((aQ c r).U) i 9 11 12)),(.grp (2*c.U.length) (Oq ls i)),(gX c),(.arr 66 13 bG aK gs),(.arr 70 27 bS aA ms),(C5 c i)]⟩) (fun (k:Nat) (ms:List Mm)=>k≤(ls.getD i ac).Pd.length∧ms=gN (fun zj=>K8 ((ls.getD i ac).Pd.getD zj aA)) (ls.getD i ac).Pd k) (fun (k:Nat) (ms:List Mm)=>(ls.getD i ac).Pd.length-k)
theorem t8 (c:Ci) (r:ah) (h1:c.U.length≤1000000) (hz:∀i,i<c.U.length→FZ (c.U.getD i ac)):CC (G5 c r):=by
 refine aq.vc (V:=TT 5 (LO Try.prog 18 [(.agg (C4 c)),(.agg [(i6 r.kind),(dS r.src),(i6 r.n)])] (Eh c r) (na c r) (qR c r) (qS c r) (.agg [(.own 8),(dL 5 bP aF c.J)])∧TT 3 (GO (ng c r) (0,(aQ c r).U) (∀i ls,(ng c r).inv (i,ls)→TT 5 (CD ((i:Int)<(c.U.length:Int)) (OI ((aQ c r).U) c.U.length (2*c.U.length) i 9 11∧(.arr 66 13 bG aK ((ls.getD i ac).Pe))=(fD ls (2*i)).box∧OJ ((aQ c r).U) c.U.length (2*c.U.length) i 9 11 12∧(.arr 70 27 bS aA ((ls.getD i ac).Pd))=(rE (fD ls) (2*i) (qp (fD ls (2*i))) (2*i+1)).box∧TT 3 (IX (i:Int) c.U.length∧((i<c.U.length∧True)∧(ry ((v8 ((aQ c r).U) i 9 11 12) i 0) (dS ((c.U.getD i ac).name))∧ry ((v8 ((aQ c r).U) i 9 11 12) i 1) (dS ((c.U.getD i ac).clock))∧ry ((v8 ((aQ c r).U) i 9 11 12) i 2) (.own 11)∧ry ((v8 ((aQ c r).U) i 9 11 12) i 3) (.own 12)∧ry ((v8 ((aQ c r).U) i 9 11 12) i 4) (dL 9 dU bV ((c.U.getD i ac).I))∧ry ((v8 ((aQ c r).U) i 9 11 12) i 5) (dL 16 dT b4 ((c.U.getD i ac).Pc))∧True))∧TT 3 (GO (nh c r i ls) (0,(ls.getD i ac).Pe) (∀j gs,(nh c r i ls).inv (j,gs)→TT 5 (CD ((j:Int)<(gs.length:Int)) (TT 6 (IX (j:Int) gs.length∧TT 1 ((j<gs.length∧True)∧IX (j:Int) gs.length∧TT 2 ((j<gs.length∧(gs.map bG).set j ((bG (gs.getD j aK)).take 11++[(.str ((gs.getD j aK).name))]++(bG (gs.getD j aK)).drop (11+1))=(gs.set j (K7 ((ls.getD i ac).Pe.getD j aK))).map bG)∧TT 1 (W6 ((j+1:Nat):Int)∧TT 1 (AG (nh c r i ls) (j,gs) (j+1,gs.set j (K7 ((ls.getD i ac).Pe.getD j aK))))))))) (TT 1 (GO (ni c r i ls gs) (0,(ls.getD i ac).Pd) (∀k ms,(ni c r i ls gs).inv (k,ms)→TT 5 (CD ((k:Int)<(ms.length:Int)) (TT 6 (IX (k:Int) ms.length∧TT 1 ((k<ms.length∧True)∧IX (k:Int) ms.length∧TT 2 ((k<ms.length∧(ms.map bS).set k ((bS (ms.getD k aA)).take 25++[(.str ((ms.getD k aA).name))]++(bS (ms.getD k aA)).drop (25+1))=(ms.set k (K8 ((ls.getD i ac).Pd.getD k aA))).map bS)∧TT 1 (W6 ((k+1:Nat):Int)∧TT 1 (AG (ni c r i ls gs) (k,ms) (k+1,ms.set k (K8 ((ls.getD i ac).Pd.getD k aA))))))))) (OK ((aQ c r).U) ls (ls.set i (Hg (ls.getD i ac))) c.U.length (2*c.U.length) i 9 11 12 gs∧OL ((aQ c r).U) ls (ls.set i (Hg (ls.getD i ac))) c.U.length (2*c.U.length) i 9 12 ms∧M3 ((aQ c r).U) c.U.length c.U.length 9∧TT 1 (W6 ((i+1:Nat):Int)∧TT 1 (AG (ng c r) (i,ls) (i+1,ls.set i (Hg (ls.getD i ac))))))))))))))) (((2*c.U.length)=(2*c.U.length)∧∀z8,z8<(2*c.U.length)→fD ((aH c r).U) z8=(fD ls) z8)∧(((aH c r).U).length=c.U.length∧(∀x∈((aH c r).U),(bp x).length=6)∧∀zi zj,zi<c.U.length→zj<6→(fun (zi zj:Nat)=>eF 9 (.gs (fun zr=>.sl ((fD ((aH c r).U)) zr).sz ((fD ((aH c r).U)) zr).enc ((fD ((aH c r).U)) zr).d ((fD ((aH c r).U)) zr).l)) ((cP ((aQ c r).U) 9) zi zj)) zi zj=kX bp ac ((aH c r).U) zi zj)∧TT 3 (((aH c r).U).map bp=((aH c r).U).map bp∧c.J.map bP=((aH c r).J).map bP∧True))))))) (.q 1 [2,3,4] 3<|.w 1 [(2,.inl (.agg [(.own 8),(dL 5 bP aF c.J)]) (na c r) ((qR c r)++.dead::(qS c r)))]<|.l (ng c r) (0,(aQ c r).U) (fun ⟨i,ls⟩=>.b 17 (.gh 5 (take 8 9 (2*i) (MO ((aQ c r).U) i 9 11))<|.gh 5 (Jk 11 (.arr 66 13 bG aK ((ls.getD i ac).Pe)))<|.gh 5 (take 8 9 (2*i+1) (v8 ((aQ c r).U) i 9 11 12))<|.gh 5 (Jk 12 (.arr 70 27 bS aA ((ls.getD i ac).Pd)))<|.w 5 [(4,.val (.agg [(dS ((c.U.getD i ac).name)),(dS ((c.U.getD i ac).clock)),(.own 11),(.own 12),(dL 9 dU bV ((c.U.getD i ac).I)),(dL 16 dT b4 ((c.U.getD i ac).Pc))]))]<|.l (nh c r i ls) (0,(ls.getD i ac).Pe) (fun ⟨j,gs⟩=>.b 29 (.w 9 [(12,.box 66 13 bG aK (gs.set j (K7 ((ls.getD i ac).Pe.getD j aK))))]<|.w 8 [(1,.val (i6 ((j+1:Nat):Int)))]<|.e) (.l (ni c r i ls gs) (0,(ls.getD i ac).Pd) (fun ⟨k,ms⟩=>.b 48 (.w 13 [(12,.box 70 27 bS aA (ms.set k (K8 ((ls.getD i ac).Pd.getD k aA))))]<|.w 12 [(1,.val (i6 ((k+1:Nat):Int)))]<|.e) (.gh 4 (put 8 9 11 (2*i) (2*c.U.length) (MP ((aQ c r).U) i 9 12) (Ot ls (ls.set i (Hg (ls.getD i ac))) i))<|.gh 4 (put 8 9 12 (2*i+1) (2*c.U.length) (cP ((aQ c r).U) 9) (fD (ls.set i (Hg (ls.getD i ac)))))<|.gh 4 (wL 8 c.U.length [9] (cP ((aQ c r).U) 9))<|.w 4 [(1,.val (i6 ((i+1:Nat):Int)))]<|.e))))) (.gh 14 (Jj 9 (2*c.U.length) (fD ((aH c r).U)))<|.f 14 9<|.gh 14 (OO 8 bp ac ((aH c r).U))<|.f 14 8<|.e))) Try.func21 rfl rfl rfl (by kernel_rfl) ?_
 refine tt ⟨?_,?_⟩
 · intro TQ
   refine sV.vc (V:=TT 10 ((0=([]:List Pr).length∧∀zi zj,zi<0→zj<6→(cP ((aQ c r).U) 9) zi zj=kX bp ac ([]:List Pr) zi zj∧∀z8,[9].all (fun g=>!(Nat.beq g z8))=true→((cP ((aQ c r).U) 9) zi zj).free z8=true)∧TT 1 (GO (nb c r TQ) 0 (∀i,(nb c r TQ).inv i→TT 5 (CD ((i:Int)<(c.U.length:Int)) (TT 3 (IX (i:Int) c.U.length∧TT 3 (an [] (([]:List Rg).map bG)∧TT 2 ((([]:List Rg).length+(((c.U.getD i ac).Pe).map bG).length≤137438953472∧([]:List Rg).map bG++((c.U.getD i ac).Pe).map bG=((c.U.getD i ac).Pe).map bG)∧TT 2 (an [] (([]:List Mm).map bS)∧TT 2 ((([]:List Mm).length+(((c.U.getD i ac).Pd).map bS).length≤137438953472∧([]:List Mm).map bS++((c.U.getD i ac).Pd).map bS=((c.U.getD i ac).Pd).map bS)∧TT 3 (GO (nc c r TQ i) (0,(c.U.getD i ac).Pe) (∀j gs,(nc c r TQ i).inv (j,gs)→TT 5 (CD ((j:Int)<(gs.length:Int)) (TT 4 (IX (j:Int) gs.length∧TT 1 ((j<gs.length∧(gs.map bG).set j ((bG (gs.getD j aK)).take 10++[(.int .i64 r.kind),(.str r.src),(.int .i64 r.n)]++(bG (gs.getD j aK)).drop (10+3))=(gs.set j (AE r ((c.U.getD i ac).Pe.getD j aK))).map bG)∧TT 1 (W6 ((j+1:Nat):Int)∧TT 1 (AG (nc c r TQ i) (j,gs) (j+1,gs.set j (AE r ((c.U.getD i ac).Pe.getD j aK)))))))) (TT 1 (GO (nf c r TQ i gs) (0,(c.U.getD i ac).Pd) (∀k ms,(nf c r TQ i gs).inv (k,ms)→TT 5 (CD ((k:Int)<(ms.length:Int)) (TT 4 (IX (k:Int) ms.length∧TT 1 ((k<ms.length∧(ms.map bS).set k ((bS (ms.getD k aA)).take 24++[(.int .i64 r.kind),(.str r.src),(.int .i64 r.n)]++(bS (ms.getD k aA)).drop (24+3))=(ms.set k (AF r ((c.U.getD i ac).Pd.getD k aA))).map bS)∧TT 1 (W6 ((k+1:Nat):Int)∧TT 1 (AG (nf c r TQ i gs) (k,ms) (k+1,ms.set k (AF r ((c.U.getD i ac).Pd.getD k aA)))))))) (TT 3 (MQ ((aQ c r).U) i 11 12 [(dS ((c.U.getD i ac).name)),(dS ((c.U.getD i ac).clock)),(.own 11),(.own 12),(dL 9 dU bV ((c.U.getD i ac).I)),(dL 16 dT b4 ((c.U.getD i ac).Pc))]∧MS ((aQ c r).U) i 9 11 12 8∧TT 2 (OG ((aQ c r).U) i 9 11 12 gs∧OH ((aQ c r).U) i 9 12 ms∧M3 ((aQ c r).U) (i+1) (i+1) 9∧TT 1 (W6 ((i+1:Nat):Int)∧TT 1 (AG (nb c r TQ) i (i+1))))))))))))))))))) (M3 ((aQ c r).U) c.U.length i 9∧((2*c.U.length)=(2*i)∧∀z8,z8<(2*c.U.length)→fD ((aQ c r).U) z8=(fD ((aQ c r).U)) z8)∧TT 3 (((((.own 8):D)=(.own 8)∧c.J.map bP=c.J.map bP∧True))∧([(gJ c),(gI r),kZ,.frame TQ (na c r),(gJ c),(gI r),(gX c),(gX c),(.arrD 80 6 c.U.length [9] (cP ((aQ c r).U) 9)),(.grp (2*c.U.length) (fD ((aQ c r).U)))]:List ax)=(qR c r)++.frame TQ (na c r)::(qS c r)))))))) (.g 2 7 0 80 6 bp ac<|.gh 2 (OM 8)<|.gh 2 (Na (fD ((aQ c r).U)))<|.gh 2 (wL 8 0 [9] (cP ((aQ c r).U) 9))<|.l (nb c r TQ) 0 (fun i=>.b 17 (.w 6 [(0,.box 66 13 bG aK ([]:List Rg)),(3,.box 66 13 bG aK ((c.U.getD i ac).Pe))]<|.w 7 [(0,.box 70 27 bS aA ([]:List Mm)),(3,.box 70 27 bS aA ((c.U.getD i ac).Pd))]<|.l (nc c r TQ i) (0,(c.U.getD i ac).Pe) (fun ⟨j,gs⟩=>.b 39 (.w 11 [(6,.box 66 13 bG aK (gs.set j (AE r ((c.U.getD i ac).Pe.getD j aK))))]<|.w 10 [(1,.val (i6 ((j+1:Nat):Int)))]<|.e) (.l (nf c r TQ i gs) (0,(c.U.getD i ac).Pd) (fun ⟨k,ms⟩=>.b 52 (.w 15 [(6,.box 70 27 bS aA (ms.set k (AF r ((c.U.getD i ac).Pd.getD k aA))))]<|.w 14 [(1,.val (i6 ((k+1:Nat):Int)))]<|.e) (.w 16 [(3,.cells [11,12] (fun (zi zj:Nat)=>zD ((aQ c r).U) i 11 12 zj)),(4,.cells [9,11,12] (JK ((aQ c r).U) i 9 11 12))]<|.gh 4 (put 8 9 11 (2*i) (2*i+1) (MN ((aQ c r).U) i 9 12) (fD ((aQ c r).U)))<|.gh 4 (put 8 9 12 (2*i+1) (2*(i+1)) (cP ((aQ c r).U) 9) (fD ((aQ c r).U)))<|.gh 4 (wL 8 (i+1) [9] (cP ((aQ c r).U) 9))<|.w 4 [(1,.val (i6 ((i+1:Nat):Int)))]<|.e))))) (.gh 17 (wL 8 c.U.length [9] (cP ((aQ c r).U) 9))<|.gh 17 (Jj 9 (2*c.U.length) (fD ((aQ c r).U)))<|.e))) Try.func18 rfl rfl (by kernel_rfl) ?_
   refine tt ⟨⟨rfl,fun i j hi _=>absurd hi (Qy _)⟩,tt ⟨rfl,(by omega),?_⟩⟩
   intro i F'
   have hi:=F'
   refine tt (cd (fun Tx=>?_) (fun Tx=>?_))
   · refine tt ⟨ix,tt ?_⟩
     have Tt:=hz i (by omega)
     have hpl1:=Tt.1
     have hpl2:=Tt.2
     refine⟨oK,tt ⟨⟨by simp only[Py,PP];omega,by rfl⟩,tt ⟨oK,tt ⟨⟨by simp only[Py,PP];omega,by rfl⟩,tt ⟨rfl,⟨by omega,rfl⟩,?_⟩⟩⟩⟩⟩
     intro j gs F'
     obtain⟨hj,VG⟩:=F'
     have hlgs:gs.length=(c.U.getD i ac).Pe.length:=by rw[VG,cK (by omega)]
     refine tt (cd (fun Sf=>?_) (fun Sf=>?_))
     · refine tt ⟨ix,tt ⟨⟨by omega,by rw[show gs.getD j aK=(c.U.getD i ac).Pe.getD j aK from by rw[VG,iV,Pj (Ro _)]];simp only[P0];rfl⟩,tt ⟨w6,tt ⟨(j+1,gs.set j (AE r ((c.U.getD i ac).Pe.getD j aK))),rfl,?_,(?_:(c.U.getD i ac).Pe.length-(j+1)<(c.U.getD i ac).Pe.length-j)⟩⟩⟩⟩
       · exact⟨by omega,by rw[VG];exact bU (by omega) rfl⟩
       · omega
     · refine tt ⟨rfl,⟨by omega,rfl⟩,?_⟩
       intro k ms F'
       obtain⟨hk,WV⟩:=F'
       have hlms:ms.length=(c.U.getD i ac).Pd.length:=by rw[WV,cK (by omega)]
       refine tt (cd (fun hc52=>?_) (fun hc52=>?_))
       · refine tt ⟨ix,tt ⟨⟨by omega,by rw[show ms.getD k aA=(c.U.getD i ac).Pd.getD k aA from by rw[WV,iV,Pj (Ro _)]];simp only[P0];rfl⟩,tt ⟨w6,tt ⟨(k+1,ms.set k (AF r ((c.U.getD i ac).Pd.getD k aA))),rfl,?_,(?_:(c.U.getD i ac).Pd.length-(k+1)<(c.U.getD i ac).Pd.length-k)⟩⟩⟩⟩
         · exact⟨by omega,by rw[WV];exact bU (by omega) rfl⟩
         · omega
       · refine tt ⟨(Ol (MT (c:=c) (r:=r) (i:=i) (by omega))),⟨(Om (by omega) rfl rfl rfl),tt ⟨(O4 (by rw[VG,show j=(c.U.getD i ac).Pe.length by omega,b7 (Pl _),sF (AE r),qQ (c:=c) (r:=r) (i:=i) (by omega)];rfl) (by decide) (by decide)),⟨(O5 (by rw[WV,show k=(c.U.getD i ac).Pd.length by omega,b7 (Pl _),sF (AF r),qQ (c:=c) (r:=r) (i:=i) (by omega)];rfl)),⟨(Oo rfl),tt ⟨w6,tt ⟨(i+1),rfl,(?_:(i+1)≤c.U.length),(?_:c.U.length-(i+1)<c.U.length-i)⟩⟩⟩⟩⟩⟩⟩
         · omega
         · omega
   · exact⟨(Oo (by omega)),⟨⟨by omega,fun _ _=>rfl⟩,tt ⟨⟨rfl,rfl,oK⟩,rfl⟩⟩⟩
 refine tt ⟨rfl,⟨by omega,rfl⟩,?_⟩
 intro i ls F'
 obtain⟨hi,T7⟩:=F'
 have hlrl:(aQ c r).U.length=c.U.length:=aC _ _
 have hlsl:ls.length=c.U.length:=by rw[T7,cK (by omega),hlrl]
 have hlsi:∀hq:i<c.U.length,ls.getD i ac=D4 r (c.U.getD i ac):=fun hq=>by rw[T7,iV,Pj (Ro _),qQ hq]
 refine tt (cd (fun Tx=>?_) (fun Tx=>?_))
 · have Tt:=hz i (by omega)
   have hpl1:=Tt.1
   have hpl2:=Tt.2
   have hlsr:(ls.getD i ac).Pe.length=(c.U.getD i ac).Pe.length:=by rw[hlsi (by omega)];exact Py ..
   have hlsm:(ls.getD i ac).Pd.length=(c.U.getD i ac).Pd.length:=by rw[hlsi (by omega)];exact Py ..
   refine⟨(O6 (by omega)),⟨Oj,⟨(O7 (by omega) (by decide) (by decide)),⟨Ok,tt ⟨ix,⟨⟨⟨om,oK⟩,(O8 (MT (c:=c) (r:=r) (i:=i) (by omega)))⟩,tt ⟨rfl,⟨by omega,rfl⟩,?_⟩⟩⟩⟩⟩⟩⟩
   intro j gs F'
   obtain⟨hj,VG⟩:=F'
   have hlgs:gs.length=(ls.getD i ac).Pe.length:=by rw[VG,cK (by omega)]
   refine tt (cd (fun hc29=>?_) (fun hc29=>?_))
   · refine tt ⟨ix,tt ⟨⟨om,oK⟩,⟨ix,tt ⟨⟨by omega,by rw[show gs.getD j aK=(ls.getD i ac).Pe.getD j aK from by rw[VG,iV,Pj (Ro _)]];simp only[P0];rfl⟩,tt ⟨w6,tt ⟨(j+1,gs.set j (K7 ((ls.getD i ac).Pe.getD j aK))),rfl,?_,(?_:(ls.getD i ac).Pe.length-(j+1)<(ls.getD i ac).Pe.length-j)⟩⟩⟩⟩⟩⟩
     · exact⟨by omega,by rw[VG];exact bU (by omega) rfl⟩
     · omega
   · refine tt ⟨rfl,⟨by omega,rfl⟩,?_⟩
     intro k ms F'
     obtain⟨hk,WV⟩:=F'
     have hlms:ms.length=(ls.getD i ac).Pd.length:=by rw[WV,cK (by omega)]
     refine tt (cd (fun U0=>?_) (fun U0=>?_))
     · refine tt ⟨ix,tt ⟨⟨om,oK⟩,⟨ix,tt ⟨⟨by omega,by rw[show ms.getD k aA=(ls.getD i ac).Pd.getD k aA from by rw[WV,iV,Pj (Ro _)]];simp only[P0];rfl⟩,tt ⟨w6,tt ⟨(k+1,ms.set k (K8 ((ls.getD i ac).Pd.getD k aA))),rfl,?_,(?_:(ls.getD i ac).Pd.length-(k+1)<(ls.getD i ac).Pd.length-k)⟩⟩⟩⟩⟩⟩
       · exact⟨by omega,by rw[WV];exact bU (by omega) rfl⟩
       · omega
     · refine⟨(O9 (by omega) (by rw[dA (by omega),Pn rfl,VG,show j=(ls.getD i ac).Pe.length by omega,b7 (Pl _),sF K7];rfl) (fun kz hkz=>by rw[dA (by omega),Pj (fun e=>hkz e.symm)]) (by decide) (by decide)),⟨(Pa (by omega) (by rw[dA (by omega),Pn rfl,WV,show k=(ls.getD i ac).Pd.length by omega,b7 (Pl _),sF K8];rfl)),⟨(Oo rfl),tt ⟨w6,tt ⟨(i+1,ls.set i (Hg (ls.getD i ac))),rfl,?_,(?_:c.U.length-(i+1)<c.U.length-i)⟩⟩⟩⟩⟩
       · exact⟨by omega,by rw[T7];exact bU (by rw[show(aQ c r).U.length=c.U.length from aC _ _];omega) (by rw[iV,Pj (Ro _)])⟩
       · omega
 · refine⟨⟨rfl,fun _ _=>by rw[T7,show i=c.U.length by omega,G2 (F:=Hg) (G:=(pW (gG r) (gH r))) (K9 r)];rfl⟩,⟨⟨(aC _ _),fun _ _=>rfl,Pb (Ou (fun i hi=>⟨_,_,aN hi⟩))⟩,tt ⟨rfl,(congrArg _ (?_:c.J=((aH c r).J))),oK⟩⟩⟩
   rfl
theorem G6 {o:Ci} {s:Ns} {n:Int} (TA:bQ o) (hs:dn o s):og o 3 (IntKind.wrap .i64 (0-n)) (og o 3 n s)=og o 2 0 s:=by rw[zq,C2,show n+(0-n)=0 by omega,G1 TA hs,CZ hs]
theorem I8 {o:Ci} {s:Ns} {n m:Int}:og o 3 m (og o 3 n s)=og o 3 (IntKind.wrap .i64 (n+m)) s:=by rw[zq,C2]
abbrev c6 (sx:Int) (b1:List Int) (sy:Int) (b2:List Int) (oth:Bool) (ed fe pl me:List Int) (zn zm:Int):Ct:=⟨6,[(.agg [(dI .u8 sx),(LY b1),(dI .u8 sy),(LY b2),(dB oth),(LY ed),(LY fe),(LY pl),(LY me)]),(i6 zn),(i6 zm)],false,(dB true)⟩
theorem G7 (sx:Int) (b1:List Int) (sy:Int) (b2:List Int) (oth:Bool) (ed fe pl me:List Int) (zn zm:Int) (g0:0≤sx) (g1:sx≤255) (Uu:gf b1) (k0:0≤sy) (k1:sy≤255) (SD:gf b2) (hed:gf ed) (Sy:gf fe) (Tt:gf pl) (T6:gf me):CC (c6 sx b1 sy b2 oth ed fe pl me zn zm):=by
 have hp:xm (au sx b1 me) (rJ sx b1 sy b2 oth ed fe me) (ba sx b1 fe pl me):=IB g0 g1 Uu k0 k1 SD Sy
 have hrc:=hp.rc
 have hol:=hp.co.cl
 have Sh:=hp.cn.cl
 have Sz:=hp.co.nl
 have hnp:=hp.cn.nl
 have hsc:=hp.so.cl
 have WW:=hp.sm
 have hm6:rH (ba sx b1 fe pl me) 1000000:=fun n=>PZ (WW n) (by decide)
 have Vw:zo (au sx b1 me):=GU sx b1
 have hcr:∀r:ah,bQ (aH (au sx b1 me) r):=fun r=>tQ (zu _ r) hp.co
 have T9:dn (au sx b1 me) (og (au sx b1 me) 3 zn (ba sx b1 fe pl me)):=K6 hp.co hp.so
 have hcar:∀r:ah,r.kind=2∨r.kind=3→lP (au sx b1 me) (aH (au sx b1 me) r) (ba sx b1 fe pl me):=fun r hk=>(xo hp.co (hcr r) (AZ (pX _ r) hk) hp.so hm6).1
 have Xq:∀r r1:ah,r1.kind=2∨r1.kind=3→lP (aH (au sx b1 me) r) (aH (au sx b1 me) r1) (og (au sx b1 me) 3 zn (ba sx b1 fe pl me)):=fun r r1 hk=>(xo (hcr r) (hcr r1) (AZ (zt _ r r1) hk) (A2 T9) hm6).1
 have e1:ae (au sx b1 me) (aH (au sx b1 me) (⟨3,.empty,zn⟩:ah)) (ba sx b1 fe pl me)=((og (au sx b1 me) 3 zn (ba sx b1 fe pl me)),0):=qP (.inr rfl) hp.co hp.no hp.so Vw
 have e2:ae (au sx b1 me) (aH (au sx b1 me) (⟨2,.empty,0⟩:ah)) (ba sx b1 fe pl me)=(og (au sx b1 me) 2 0 (ba sx b1 fe pl me),0):=qP (.inl rfl) hp.co hp.no hp.so Vw
 have e3:ae (aH (au sx b1 me) (⟨3,.empty,zn⟩:ah)) (aH (au sx b1 me) (⟨3,.empty,(IntKind.wrap .i64 (0-zn))⟩:ah)) (og (au sx b1 me) 3 zn (ba sx b1 fe pl me))=(og (au sx b1 me) 2 0 (ba sx b1 fe pl me),0):=(t5 (.inr rfl) hp.co hp.no T9 Vw).trans (congrArg (·,0) (G6 hp.co hp.so))
 have e4:ae (aH (au sx b1 me) (⟨3,.empty,zn⟩:ah)) (aH (au sx b1 me) (⟨3,.empty,zm⟩:ah)) (og (au sx b1 me) 3 zn (ba sx b1 fe pl me))=(og (au sx b1 me) 3 (IntKind.wrap .i64 (zn+zm)) (ba sx b1 fe pl me),0):=(t5 (.inr rfl) hp.co hp.no T9 Vw).trans (congrArg (·,0) I8)
 have e5:ae (au sx b1 me) (aH (au sx b1 me) (⟨3,.empty,(IntKind.wrap .i64 (zn+zm))⟩:ah)) (ba sx b1 fe pl me)=(og (au sx b1 me) 3 (IntKind.wrap .i64 (zn+zm)) (ba sx b1 fe pl me),0):=qP (.inr rfl) hp.co hp.no hp.so Vw
 refine aq.vc (V:=TT 2 (CC c8∧TT 4 (CC (c9 sx b1 sy b2 oth ed fe pl me)∧TT 6 (CC (G5 (au sx b1 me) (⟨3,e0,zn⟩:ah))∧TT 4 (CC (G5 (au sx b1 me) (⟨3,e0,zm⟩:ah))∧TT 9 (CC (G5 (au sx b1 me) (⟨3,e0,IntKind.wrap .i64 (0-zn)⟩:ah))∧TT 6 (CC (G5 (au sx b1 me) (⟨3,e0,IntKind.wrap .i64 (zn+zm)⟩:ah))∧TT 9 (CC (G5 (au sx b1 me) (⟨2,e0,0⟩:ah))∧TT 2 (CC (rL (au sx b1 me) (aH (au sx b1 me) (⟨2,e0,0⟩:ah)) (ba sx b1 fe pl me))∧TT 7 (CC (rL (au sx b1 me) (aH (au sx b1 me) (⟨3,e0,zn⟩:ah)) (ba sx b1 fe pl me))∧TT 5 ((True∧(!decide (((ae (au sx b1 me) (aH (au sx b1 me) (⟨3,e0,zn⟩:ah)) (ba sx b1 fe pl me)).2)=0))=false)∧TT 3 (CC (N4 (aH (au sx b1 me) (⟨3,e0,zn⟩:ah)) ((ae (au sx b1 me) (aH (au sx b1 me) (⟨3,e0,zn⟩:ah)) (ba sx b1 fe pl me)).1))∧TT 2 ((True∧(!(b6 (aH (au sx b1 me) (⟨3,e0,zn⟩:ah)) ((ae (au sx b1 me) (aH (au sx b1 me) (⟨3,e0,zn⟩:ah)) (ba sx b1 fe pl me)).1)))=false)∧TT 4 ((True∧(!decide (((ae (au sx b1 me) (aH (au sx b1 me) (⟨2,e0,0⟩:ah)) (ba sx b1 fe pl me)).2)=0))=false)∧TT 4 (CC (ME ((ae (au sx b1 me) (aH (au sx b1 me) (⟨2,e0,0⟩:ah)) (ba sx b1 fe pl me)).1) (ba sx b1 fe pl me))∧TT 2 ((!(cx ((ae (au sx b1 me) (aH (au sx b1 me) (⟨2,e0,0⟩:ah)) (ba sx b1 fe pl me)).1) (ba sx b1 fe pl me)))=false∧TT 4 (CC (rL (aH (au sx b1 me) (⟨3,e0,zn⟩:ah)) (aH (au sx b1 me) (⟨3,e0,IntKind.wrap .i64 (0-zn)⟩:ah)) ((ae (au sx b1 me) (aH (au sx b1 me) (⟨3,e0,zn⟩:ah)) (ba sx b1 fe pl me)).1))∧TT 1 (CC (CX ((ae (aH (au sx b1 me) (⟨3,e0,zn⟩:ah)) (aH (au sx b1 me) (⟨3,e0,IntKind.wrap .i64 (0-zn)⟩:ah)) ((ae (au sx b1 me) (aH (au sx b1 me) (⟨3,e0,zn⟩:ah)) (ba sx b1 fe pl me)).1)).1) ((ae (au sx b1 me) (aH (au sx b1 me) (⟨2,e0,0⟩:ah)) (ba sx b1 fe pl me)).1) ((ae (aH (au sx b1 me) (⟨3,e0,zn⟩:ah)) (aH (au sx b1 me) (⟨3,e0,IntKind.wrap .i64 (0-zn)⟩:ah)) ((ae (au sx b1 me) (aH (au sx b1 me) (⟨3,e0,zn⟩:ah)) (ba sx b1 fe pl me)).1)).2) ((ae (au sx b1 me) (aH (au sx b1 me) (⟨2,e0,0⟩:ah)) (ba sx b1 fe pl me)).2))∧(True∧(ez ((ae (aH (au sx b1 me) (⟨3,e0,zn⟩:ah)) (aH (au sx b1 me) (⟨3,e0,IntKind.wrap .i64 (0-zn)⟩:ah)) ((ae (au sx b1 me) (aH (au sx b1 me) (⟨3,e0,zn⟩:ah)) (ba sx b1 fe pl me)).1)).1) ((ae (au sx b1 me) (aH (au sx b1 me) (⟨2,e0,0⟩:ah)) (ba sx b1 fe pl me)).1) ((ae (aH (au sx b1 me) (⟨3,e0,zn⟩:ah)) (aH (au sx b1 me) (⟨3,e0,IntKind.wrap .i64 (0-zn)⟩:ah)) ((ae (au sx b1 me) (aH (au sx b1 me) (⟨3,e0,zn⟩:ah)) (ba sx b1 fe pl me)).1)).2) ((ae (au sx b1 me) (aH (au sx b1 me) (⟨2,e0,0⟩:ah)) (ba sx b1 fe pl me)).2))=true)∧TT 4 (CC (rL (aH (au sx b1 me) (⟨3,e0,zn⟩:ah)) (aH (au sx b1 me) (⟨3,e0,zm⟩:ah)) ((ae (au sx b1 me) (aH (au sx b1 me) (⟨3,e0,zn⟩:ah)) (ba sx b1 fe pl me)).1))∧TT 5 (CC (rL (au sx b1 me) (aH (au sx b1 me) (⟨3,e0,IntKind.wrap .i64 (zn+zm)⟩:ah)) (ba sx b1 fe pl me))∧CC (CX ((ae (aH (au sx b1 me) (⟨3,e0,zn⟩:ah)) (aH (au sx b1 me) (⟨3,e0,zm⟩:ah)) ((ae (au sx b1 me) (aH (au sx b1 me) (⟨3,e0,zn⟩:ah)) (ba sx b1 fe pl me)).1)).1) ((ae (au sx b1 me) (aH (au sx b1 me) (⟨3,e0,IntKind.wrap .i64 (zn+zm)⟩:ah)) (ba sx b1 fe pl me)).1) ((ae (aH (au sx b1 me) (⟨3,e0,zn⟩:ah)) (aH (au sx b1 me) (⟨3,e0,zm⟩:ah)) ((ae (au sx b1 me) (aH (au sx b1 me) (⟨3,e0,zn⟩:ah)) (ba sx b1 fe pl me)).1)).2) ((ae (au sx b1 me) (aH (au sx b1 me) (⟨3,e0,IntKind.wrap .i64 (zn+zm)⟩:ah)) (ba sx b1 fe pl me)).2))∧TT 1 ((True∧(ez ((ae (aH (au sx b1 me) (⟨3,e0,zn⟩:ah)) (aH (au sx b1 me) (⟨3,e0,zm⟩:ah)) ((ae (au sx b1 me) (aH (au sx b1 me) (⟨3,e0,zn⟩:ah)) (ba sx b1 fe pl me)).1)).1) ((ae (au sx b1 me) (aH (au sx b1 me) (⟨3,e0,IntKind.wrap .i64 (zn+zm)⟩:ah)) (ba sx b1 fe pl me)).1) ((ae (aH (au sx b1 me) (⟨3,e0,zn⟩:ah)) (aH (au sx b1 me) (⟨3,e0,zm⟩:ah)) ((ae (au sx b1 me) (aH (au sx b1 me) (⟨3,e0,zn⟩:ah)) (ba sx b1 fe pl me)).1)).2) ((ae (au sx b1 me) (aH (au sx b1 me) (⟨3,e0,IntKind.wrap .i64 (zn+zm)⟩:ah)) (ba sx b1 fe pl me)).2))=true)∧TT 4 (true=true∧True)))))))))))))))))))))) (.w 1 [(0,c8.O)]<|.w 4 [(1,(c9 sx b1 sy b2 oth ed fe pl me).O)]<|.w 5 [(4,(G5 (au sx b1 me) (⟨3,e0,zn⟩:ah)).O),(9,(G5 (au sx b1 me) (⟨3,e0,zm⟩:ah)).O)]<|.w 6 [(5,(G5 (au sx b1 me) (⟨3,e0,IntKind.wrap .i64 (0-zn)⟩:ah)).O),(12,(G5 (au sx b1 me) (⟨3,e0,IntKind.wrap .i64 (zn+zm)⟩:ah)).O)]<|.w 7 [(5,(G5 (au sx b1 me) (⟨2,e0,0⟩:ah)).O),(8,(rL (au sx b1 me) (aH (au sx b1 me) (⟨2,e0,0⟩:ah)) (ba sx b1 fe pl me)).O)]<|.w 8 [(5,(rL (au sx b1 me) (aH (au sx b1 me) (⟨3,e0,zn⟩:ah)) (ba sx b1 fe pl me)).O)]<|.w 9 [(3,.val (dB false)),(7,(N4 (aH (au sx b1 me) (⟨3,e0,zn⟩:ah)) ((ae (au sx b1 me) (aH (au sx b1 me) (⟨3,e0,zn⟩:ah)) (ba sx b1 fe pl me)).1)).O),(10,.val (dB false)),(15,.val (dB false)),(20,(ME ((ae (au sx b1 me) (aH (au sx b1 me) (⟨2,e0,0⟩:ah)) (ba sx b1 fe pl me)).1) (ba sx b1 fe pl me)).O)]<|.u 80 (.w 11 [(4,(rL (aH (au sx b1 me) (⟨3,e0,zn⟩:ah)) (aH (au sx b1 me) (⟨3,e0,IntKind.wrap .i64 (0-zn)⟩:ah)) ((ae (au sx b1 me) (aH (au sx b1 me) (⟨3,e0,zn⟩:ah)) (ba sx b1 fe pl me)).1)).O),(6,(CX ((ae (aH (au sx b1 me) (⟨3,e0,zn⟩:ah)) (aH (au sx b1 me) (⟨3,e0,IntKind.wrap .i64 (0-zn)⟩:ah)) ((ae (au sx b1 me) (aH (au sx b1 me) (⟨3,e0,zn⟩:ah)) (ba sx b1 fe pl me)).1)).1) ((ae (au sx b1 me) (aH (au sx b1 me) (⟨2,e0,0⟩:ah)) (ba sx b1 fe pl me)).1) ((ae (aH (au sx b1 me) (⟨3,e0,zn⟩:ah)) (aH (au sx b1 me) (⟨3,e0,IntKind.wrap .i64 (0-zn)⟩:ah)) ((ae (au sx b1 me) (aH (au sx b1 me) (⟨3,e0,zn⟩:ah)) (ba sx b1 fe pl me)).1)).2) ((ae (au sx b1 me) (aH (au sx b1 me) (⟨2,e0,0⟩:ah)) (ba sx b1 fe pl me)).2)).O),(7,.val (dB true)),(12,(rL (aH (au sx b1 me) (⟨3,e0,zn⟩:ah)) (aH (au sx b1 me) (⟨3,e0,zm⟩:ah)) ((ae (au sx b1 me) (aH (au sx b1 me) (⟨3,e0,zn⟩:ah)) (ba sx b1 fe pl me)).1)).O),(18,(rL (au sx b1 me) (aH (au sx b1 me) (⟨3,e0,IntKind.wrap .i64 (zn+zm)⟩:ah)) (ba sx b1 fe pl me)).O),(19,(CX ((ae (aH (au sx b1 me) (⟨3,e0,zn⟩:ah)) (aH (au sx b1 me) (⟨3,e0,zm⟩:ah)) ((ae (au sx b1 me) (aH (au sx b1 me) (⟨3,e0,zn⟩:ah)) (ba sx b1 fe pl me)).1)).1) ((ae (au sx b1 me) (aH (au sx b1 me) (⟨3,e0,IntKind.wrap .i64 (zn+zm)⟩:ah)) (ba sx b1 fe pl me)).1) ((ae (aH (au sx b1 me) (⟨3,e0,zn⟩:ah)) (aH (au sx b1 me) (⟨3,e0,zm⟩:ah)) ((ae (au sx b1 me) (aH (au sx b1 me) (⟨3,e0,zn⟩:ah)) (ba sx b1 fe pl me)).1)).2) ((ae (au sx b1 me) (aH (au sx b1 me) (⟨3,e0,IntKind.wrap .i64 (zn+zm)⟩:ah)) (ba sx b1 fe pl me)).2)).O),(21,.val (dB true))]<|.e)) Try.func6 rfl rfl rfl (by kernel_rfl) ?_
 exact tt ⟨(zl),tt ⟨(K5 sx b1 sy b2 oth ed fe pl me g0 g1 Uu k0 k1 SD hed Sy Tt T6),tt ⟨(t8 (au sx b1 me) (⟨3,e0,zn⟩:ah) (PZ Sz (by decide)) (tS hp.co)),tt ⟨(t8 (au sx b1 me) (⟨3,e0,zm⟩:ah) (PZ Sz (by decide)) (tS hp.co)),tt ⟨(t8 (au sx b1 me) (⟨3,e0,IntKind.wrap .i64 (0-zn)⟩:ah) (PZ Sz (by decide)) (tS hp.co)),tt ⟨(t8 (au sx b1 me) (⟨3,e0,IntKind.wrap .i64 (zn+zm)⟩:ah) (PZ Sz (by decide)) (tS hp.co)),tt ⟨(t8 (au sx b1 me) (⟨2,e0,0⟩:ah) (PZ Sz (by decide)) (tS hp.co)),tt ⟨(eJ (au sx b1 me) (aH (au sx b1 me) (⟨2,e0,0⟩:ah)) (ba sx b1 fe pl me) (hcar _ (.inl rfl))),tt ⟨(eJ (au sx b1 me) (aH (au sx b1 me) (⟨3,e0,zn⟩:ah)) (ba sx b1 fe pl me) (hcar _ (.inr rfl))),tt ⟨(nF (by rw[e1])),tt ⟨(AR (aH (au sx b1 me) (⟨3,e0,zn⟩:ah)) ((ae (au sx b1 me) (aH (au sx b1 me) (⟨3,e0,zn⟩:ah)) (ba sx b1 fe pl me)).1) (hcr _) (fun z=>PZ (AI hm6 z) (by decide))),tt ⟨(mF (Ak.2 (by rw[e1];exact A2 T9))),tt ⟨(nF (by rw[e2])),tt ⟨(v3 ((ae (au sx b1 me) (aH (au sx b1 me) (⟨2,e0,0⟩:ah)) (ba sx b1 fe pl me)).1) (ba sx b1 fe pl me) (AD (hcr _) hm6)),tt ⟨(yf (tL.2 (by rw[e2];exact CZ hp.so))),tt ⟨(eJ (aH (au sx b1 me) (⟨3,e0,zn⟩:ah)) (aH (au sx b1 me) (⟨3,e0,IntKind.wrap .i64 (0-zn)⟩:ah)) ((ae (au sx b1 me) (aH (au sx b1 me) (⟨3,e0,zn⟩:ah)) (ba sx b1 fe pl me)).1) (by rw[e1];exact Xq _ _ (.inr rfl))),tt ⟨(pV ((ae (aH (au sx b1 me) (⟨3,e0,zn⟩:ah)) (aH (au sx b1 me) (⟨3,e0,IntKind.wrap .i64 (0-zn)⟩:ah)) ((ae (au sx b1 me) (aH (au sx b1 me) (⟨3,e0,zn⟩:ah)) (ba sx b1 fe pl me)).1)).1) ((ae (au sx b1 me) (aH (au sx b1 me) (⟨2,e0,0⟩:ah)) (ba sx b1 fe pl me)).1) ((ae (aH (au sx b1 me) (⟨3,e0,zn⟩:ah)) (aH (au sx b1 me) (⟨3,e0,IntKind.wrap .i64 (0-zn)⟩:ah)) ((ae (au sx b1 me) (aH (au sx b1 me) (⟨3,e0,zn⟩:ah)) (ba sx b1 fe pl me)).1)).2) ((ae (au sx b1 me) (aH (au sx b1 me) (⟨2,e0,0⟩:ah)) (ba sx b1 fe pl me)).2) (AD (hcr _) (AI hm6))),⟨(bT (by simp only[e1,e2,e3];exact tT _ _)),tt ⟨(eJ (aH (au sx b1 me) (⟨3,e0,zn⟩:ah)) (aH (au sx b1 me) (⟨3,e0,zm⟩:ah)) ((ae (au sx b1 me) (aH (au sx b1 me) (⟨3,e0,zn⟩:ah)) (ba sx b1 fe pl me)).1) (by rw[e1];exact Xq _ _ (.inr rfl))),tt ⟨(eJ (au sx b1 me) (aH (au sx b1 me) (⟨3,e0,IntKind.wrap .i64 (zn+zm)⟩:ah)) (ba sx b1 fe pl me) (hcar _ (.inr rfl))),⟨(pV ((ae (aH (au sx b1 me) (⟨3,e0,zn⟩:ah)) (aH (au sx b1 me) (⟨3,e0,zm⟩:ah)) ((ae (au sx b1 me) (aH (au sx b1 me) (⟨3,e0,zn⟩:ah)) (ba sx b1 fe pl me)).1)).1) ((ae (au sx b1 me) (aH (au sx b1 me) (⟨3,e0,IntKind.wrap .i64 (zn+zm)⟩:ah)) (ba sx b1 fe pl me)).1) ((ae (aH (au sx b1 me) (⟨3,e0,zn⟩:ah)) (aH (au sx b1 me) (⟨3,e0,zm⟩:ah)) ((ae (au sx b1 me) (aH (au sx b1 me) (⟨3,e0,zn⟩:ah)) (ba sx b1 fe pl me)).1)).2) ((ae (au sx b1 me) (aH (au sx b1 me) (⟨3,e0,IntKind.wrap .i64 (zn+zm)⟩:ah)) (ba sx b1 fe pl me)).2) (AD (hcr _) (AI hm6))),tt ⟨(bT (by simp only[e1,e4,e5];exact tT _ _)),tt ⟨rfl,oK⟩⟩⟩⟩⟩⟩⟩⟩⟩⟩⟩⟩⟩⟩⟩⟩⟩⟩⟩⟩⟩⟩⟩
abbrev G8 (k:IntKind) (x:Int):Prop:=(Lit.int k x).wf=true
def v9 {α:Type} (enc:α→Value) (S:Nat→Prop) (w:World) (v:Value) (l:List α):Prop :=
 ∃(p:Option Addr) (c:Nat),v=.slice p l.length c∧l.length≤c∧c≤maxLen∧(p=none→c=0) ∧
  (0<l.length→∃b I',p=some ⟨b,I',none⟩∧S b∧b<w.heap.size∧∀(i:Nat) (x:α),l[i]?=some x→w.cell? ⟨b,I'+i,none⟩=some (enc x))
theorem v9.stable {α:Type} (enc:α→Value) (l:List α):jv (fun S v w=>v9 enc S w v l):=by
 rintro S S' v w w' ⟨p,c,rfl,h1,h2,h3,h4⟩ hS hw RB
 refine⟨p,c,rfl,h1,h2,h3,fun h0=>?_⟩
 obtain⟨b,I',rfl,q1,q2,q3⟩:=h4 h0
 refine⟨b,I',rfl,hS b q1 q2,by omega,fun i x hx=>?_⟩
 rw[← q3 i x hx]
 exact Ri (hw b q1 q2)
theorem v9.mono {α:Type} {enc:α→Value} {l:List α} {S S':Nat→Prop} {w w':World} {v:Value} (h:v9 enc S w v l) (hS:∀b,S b→b<w.heap.size→S' b)
  (hb:Below w.heap.size w w'):v9 enc S' w' v l:=v9.stable enc l S S' v w w' h hS (fun b _ R6=>hb.block b R6) hb.size
open Go.ChangeShapes Go.WideShapes Go.ChangeAt Go.RowKit
set_option linter.unusedVariables false
set_option linter.unusedSimpArgs false
section
variable {H:Type} {enc:TypeId×Value→H} {P:Program} {W:World}
theorem Ei {α:Type} {S:Nat→Prop} {t e:TypeId} {Rz:α→List V} {d0:α} {good:α→Prop} {fuel:Nat} {cs:List Value} {x:DataW H×List MemPlace} (ht:P.underlying t=some (.slice e)) (hc:P.cellsOf e=1) (hS:∀b,b<W.heap.size→S b)
  (he:∀fuel cs y,DataW.trod enc P W 0 (fun _=>true) true fuel e cs=some y→∃v a y0,cs=[v]∧good a∧Rz a=[y0]∧dg S W y0 v) (h:DataW.trod enc P W 0 (fun _=>true) true fuel t cs=some x) :
  ∃v l,cs=[v]∧(∀a∈l,good a)∧l.length≤maxLen∧dg S W (.sl 1 Rz d0 l) v:=by
 rcases DataW.trod_slice ht h with ⟨rfl,_⟩ | ⟨a,len,cap,elems,rest,n,_,rfl,rfl,_,hl,hm,RA,hel,_,_⟩
 ·exact⟨_,[],rfl,fun a ha=>by simp at ha,by simp,.nil _ _ _ _ _ (by omega) (fun _=>rfl)⟩
 by_cases h0:len=0
 ·subst h0
  exact⟨_,[],rfl,fun a ha=>by simp at ha,by simp,.nil _ _ _ _ _ hm (fun h=>by cases h)⟩
 have each:∀i,∃a':α,i<len→∃v y0,W.cell? (a.add i)=some v∧good a'∧Rz a'=[y0]∧dg S W y0 v:=by
  intro i
  by_cases hi:i<len
  ·have h1:=hel i hi
   rw[Ph (by omega),hc,Nat.mul_one,Option.bind_eq_some_iff]at h1
   obtain⟨W2,hcs,hy⟩:=h1
   obtain⟨v,a',y0,rfl,g1,g2,g3⟩:=he _ _ _ hy
   exact⟨a',fun _=>⟨v,y0,cell_of_cells?_one hcs,g1,g2,g3⟩⟩
  ·exact⟨d0,fun h=>(hi h).elim⟩
 obtain⟨f,hf⟩:=Classical.axiomOfChoice each
 obtain⟨b,I',spot⟩:=a
 obtain⟨v0,_,h00,_⟩:=hf 0 (by omega)
 have hspot:spot=none:=by simpa[Addr.add]using World.cell?_spot h00
 subst hspot
 have WO:∀i,(⟨b,I',none⟩:Addr).add i=⟨b,I'+i,none⟩:=fun i=>by unfold Addr.add;split<;>simp_all
 have hb:b<W.heap.size:=by
  have:=h00
  unfold World.cell? at this
  simp only[Addr.add,Q7]at this
  split at this
  ·rename_i hb
   exact(Px.1 hb).1
  ·cases this
 have RT:∀(i:Nat) (x:α),((List.range len).map f)[i]?=some x→i<len∧x=f i:=by
  intro i x hx
  simp only[PE,Option.map_eq_some_iff]at hx
  obtain⟨j,hj,rfl⟩:=hx
  obtain⟨h1,h2⟩:=Pf.1 hj
  simp at h1 h2
  exact⟨h1,by rw[h2]⟩
 refine⟨_,(List.range len).map f,rfl,?_,by simp;omega,.row 1 Rz d0 _ b I' cap len (fun i _=>(W.cell? ⟨b,I'+i,none⟩).getD undef) (hS b hb) hb (by simp) hl hm ?_ ?_ ?_⟩
 ·intro a' ha
  obtain⟨i,hi⟩:=List.getElem?_of_mem ha
  obtain⟨h1,rfl⟩:=RT i a' hi
  obtain⟨_,_,_,g,_⟩:=hf i h1
  exact g
 ·intro i x hx
  obtain⟨h1,rfl⟩:=RT i x hx
  obtain⟨_,_,_,_,g,_⟩:=hf i h1
  rw[g];rfl
 ·intro i x j y hx hy
  obtain⟨h1,rfl⟩:=RT i x hx
  obtain⟨v,y0,g0,_,g,g2⟩:=hf i h1
  rw[g]at hy
  have hj:j=0:=by
   cases j with
   | zero=>rfl
   | succ j=>simp at hy
  subst hj
  rw[WO]at g0
  rw[Nat.mul_one,QO,g0]
  rfl
 ·intro i x j y hx hy
  obtain⟨h1,rfl⟩:=RT i x hx
  obtain⟨v,y0,g0,_,g,g2⟩:=hf i h1
  rw[g]at hy
  have hj:j=0:=by
   cases j with
   | zero=>rfl
   | succ j=>simp at hy
  subst hj
  simp only[List.getElem?_cons_zero,Pu]at hy
  subst hy
  rw[WO]at g0
  simp only[g0,Rk]
  exact g2
theorem fb {S:Nat→Prop} {t e:TypeId} {k:IntKind} {fuel:Nat} {cs:List Value} {x:DataW H×List MemPlace} (ht:P.underlying t=some (.slice e)) (he:P.underlying e=some (.int k)) (hc:P.cellsOf e=1) (hS:∀b,b<W.heap.size→S b)
  (h:DataW.trod enc P W 0 (fun _=>true) true fuel t cs=some x):∃v l,cs=[v]∧(∀n∈l,G8 k n)∧l.length≤maxLen∧dg S W (.sl 1 (aa k) 0 l) v :=
 Ei ht hc hS (fun fuel cs y hy=>by
  obtain⟨n,e1,_,e3⟩:=DataW.trod_int he hy
  exact⟨_,n,_,e1,e3,rfl,.int _ _⟩) h
theorem A3 {f:FuncId} {ys:List D} {al b:Bool} (h:aq P f ys [] al (dB b) []) (us:Array Value) (W:World) (hr:aO (fun b=>b<W.heap.size) (fun _=>undef) W ys us) (hg:fI (fun b=>b<W.heap.size) W:=by exact De rfl) :
  Calls P f us W (fun e W'=>e=.returned (.bool b)∧Below W.heap.size W W'):=by
 refine(h (fun b=>b<W.heap.size) (fun _=>undef) W us (fun _ h=>h) hg ⟨fun id B hB=>by simp at hB,fun i j A B b hA=>by simp at hA,fun i A b hA=>by simp at hA⟩ hr).mono ?_
 rintro e w' ⟨u,μ',S',rfl,h1,h2,h3,h4,h5,_,_,_,h9,_⟩
 refine⟨?_,⟨h1,h2,h3,h4,fun k hk=>h5 k hk (fun i A hA=>by simp at hA)⟩⟩
 rw[fk h9]
theorem t9 {x:Int} (h:G8 .u8 x):0≤x∧x<256:=by
 have h1:IntKind.u8.min≤x∧x≤IntKind.u8.max:=by simpa[G8,Lit.wf]using h
 have h2:IntKind.u8.min=0:=rfl
 have h3:IntKind.u8.max=255:=rfl
 omega
theorem ub {t:TypeId} {fs:Array Field} {fuel:Nat} {cs:List Value} {x:DataW H×List MemPlace} (ht:P.underlying t=some (.struct fs)) (h:DataW.trod enc P W 0 (fun _=>true) true fuel t cs=some x) :
  ∃n,∀(i:Nat) (f:Field),fs[i]?=some f→∃y,DataW.trod enc P W 0 (fun _=>true) true n f.type ((cs.drop f.offset).take (P.cellsOf f.type))=some y:=by
 obtain⟨xs,n,_,_,_,RA,hf⟩:=DataW.trod_struct ht h
 refine⟨n,fun i f hi=>?_⟩
 have h1:=hf i f hi
 have h2:=(Px.1 hi).1
 rw[Ph (by omega)]at h1
 exact⟨_,h1⟩
theorem uJ {r:Reach} {base:Nat} {t:TypeId} {fs:Array Field} {v:Value} {m:Nat} (ht:P.underlying t=some (.struct fs)) (hm:P.cellsOf t=m) (hv:Value.okWide P W r base t v):∃cs:List Value,v=.agg cs.toArray∧cs.length=m:=by
 unfold Value.okWide at hv
 rw[ht]at hv
 obtain⟨cs,rfl,hs,_⟩:=hv
 exact⟨cs.toList,by simp,by simp[hs,hm]⟩
def xB (S:Nat→Prop) (μ:Nat→Value) (w:World):List D→List Value→Prop
 | [],[]=>True
 | d::ds,u::us=>ao S μ w d u∧xB S μ w ds us
 | _,_=>False
theorem xB.at {S:Nat→Prop} {μ:Nat→Value} {w:World}:∀{ds:List D} {us:List Value},xB S μ w ds us→us.length=ds.length∧∀(j:Nat) (y:D) (u:Value),ds[j]?=some y→us[j]?=some u→ao S μ w y u
 | [],[],_=>⟨rfl,fun j y u hy=>by simp at hy⟩
 | d::ds,u::us,h=>by
  obtain⟨h1,h2⟩:=h.2.at
  refine⟨by simp[h1],fun j y z hy hz=>?_⟩
  match j with
  | 0=>simp at hy hz;subst hy hz;exact h.1
  | j+1=>exact h2 j y z (by simpa using hy) (by simpa using hz)
 | [],_::_,h=>h.elim
 | _::_,[],h=>h.elim
theorem I9 {S:Nat→Prop} {μ:Nat→Value} {w:World} {ds:List D} {us:List Value} (h:xB S μ w ds us):ao S μ w (.agg ds) (.agg us.toArray) :=
 .agg _ _ (by simpa using h.at.1) (fun j y u hy hu=>h.at.2 j y u hy (by simpa using hu))
theorem Lb {S:Nat→Prop} {μ:Nat→Value} {w:World} {x y q:D} {u v t:Value} (h:ao S μ w x u) (k:ao S μ w y v) (m:ao S μ w q t):aO S μ w [x,y,q] #[u,v,t]:=⟨rfl,fun j y z hy hz=>by
 match j with
 | 0=>simp at hy hz;subst hy hz;exact h
 | 1=>simp at hy hz;subst hy hz;exact k
 | 2=>simp at hy hz;subst hy hz;exact m
 | j+3=>simp at hy⟩
end
section
variable {H:Type} {enc:TypeId×Value→H} {P:Program} {W:World}
theorem MU {α:Type} (l:List α) (h:l.length=9):∃a b c d e f g i j,l=[a,b,c,d,e,f,g,i,j]:=by
 match l,h with
 | [a,b,c,d,e,f,g,i,j],_=>exact⟨a,b,c,d,e,f,g,i,j,rfl⟩
end
theorem qT {l:List Int} (h:∀n∈l,G8 .u8 n):gf l:=fun x hx=>by
 have:=t9 (h x hx);omega
theorem Db {x:Int} (h:G8 .u8 x):0≤x∧x≤255:=by have:=t9 h;omega
end Go.Proofs.Ytnlmlkbaflmgcaa
