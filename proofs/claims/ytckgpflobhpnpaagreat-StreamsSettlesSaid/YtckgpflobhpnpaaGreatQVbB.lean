/-
  Package bits: the values of operations.
-/
import Derived.Test.YtckgpflobhpnpaaGreatQVbA
namespace Go.Proofs.YtckgpflobhpnpaaGreat
open Go.RowKit
set_option linter.unusedVariables false
set_option linter.unusedSimpArgs false
abbrev jQ (ws xs:List Int) (k w:Int):List D:=[(.agg [(LI ws),(LI xs),(i6 k),(i6 w)])]
set_option maxRecDepth 100000
structure Ga (ws xs:List Int) (n:Nat):Prop where
  hl:ws.length=n
  hf:ws.all ay=true
  hx:xs.length=ws.length
  hin:F6 ws xs=true
abbrev CI (ws xs:List Int) (k w:Int):Ct:=⟨129,(jQ ws xs k w),false,(i6 (an (ws.getD 0 0)))⟩
theorem wj (ws xs:List Int) (k w:Int) (hl:0<ws.length):CC (CI ws xs k w):=by
 refine ah.vc (V:=TT 4 (IX 0 ws.length∧TT 1 (CC (zp (ws.getD 0 0))∧TT 2 ((an (ws.getD 0 0))=(an (ws.getD 0 0))∧True)))) (.w 1 [(4,(zp (ws.getD 0 0)).O)]<|.e) Tryz.func129 rfl rfl rfl (by kernel_rfl) ?_
 exact tt ⟨ix,tt ⟨(u5 (ws.getD 0 0)),tt ⟨rfl,oK⟩⟩⟩
abbrev PV (ws xs:List Int) (k w:Int):Ct:=⟨128,(jQ ws xs k w),false,(i6 (pP 2 ws xs k w))⟩
theorem MI (ws xs:List Int) (k w:Int) (ho:Ga ws xs 1):CC (PV ws xs k w):=by
 obtain⟨hl,hf,hx,hin⟩:=ho
 have f0:0<ws.length→1≤ws.getD 0 0∧ws.getD 0 0≤8:=fun h=>aB hf h
 have f1:1<ws.length→1≤ws.getD 1 0∧ws.getD 1 0≤8:=fun h=>aB hf h
 have f2:2<ws.length→1≤ws.getD 2 0∧ws.getD 2 0≤8:=fun h=>aB hf h
 have a0:0<ws.length→0≤xs.getD 0 0∧xs.getD 0 0≤an (ws.getD 0 0):=fun h=>bg hin (by omega)
 have a1:1<ws.length→0≤xs.getD 1 0∧xs.getD 1 0≤an (ws.getD 1 0):=fun h=>bg hin (by omega)
 have a2:2<ws.length→0≤xs.getD 2 0∧xs.getD 2 0≤an (ws.getD 2 0):=fun h=>bg hin (by omega)
 have m0:0<ws.length→0≤an (ws.getD 0 0)∧an (ws.getD 0 0)≤255:=fun h=>az (by have:=f0 h;omega) (f0 h).2
 have m1:1<ws.length→0≤an (ws.getD 1 0)∧an (ws.getD 1 0)≤255:=fun h=>az (by have:=f1 h;omega) (f1 h).2
 have m2:2<ws.length→0≤an (ws.getD 2 0)∧an (ws.getD 2 0)≤255:=fun h=>az (by have:=f2 h;omega) (f2 h).2
 have b0:=f0 (by omega);have c0:=a0 (by omega);have d0:=m0 (by omega)
 refine ah.vc (V:=TT 4 (IX 0 xs.length∧TT 2 (CC (CI ws xs k w)∧(True∧(IntKind.wrap .i64 (BitVec.ofInt (IntKind.i64).bits (xs.getD 0 0) ^^^ BitVec.ofInt (IntKind.i64).bits (an (ws.getD 0 0))).toNat)=(((xs.getD 0 0).toNat ^^^ (an (ws.getD 0 0)).toNat:Nat):Int))∧TT 2 ((((xs.getD 0 0).toNat ^^^ (an (ws.getD 0 0)).toNat:Nat):Int)=(pP 2 ws xs k w)∧True)))) (.w 1 [(5,(CI ws xs k w).O),(6,.val (i6 (((xs.getD 0 0).toNat ^^^ (an (ws.getD 0 0)).toNat:Nat):Int)))]<|.e) Tryz.func128 rfl rfl rfl (by kernel_rfl) ?_
 refine tt ⟨ix,tt ⟨(wj ws xs k w om),⟨⟨oK,(ya (by omega) (by omega) (by omega) (by omega))⟩,tt ⟨?_,oK⟩⟩⟩⟩
 rfl
abbrev PW (ws xs:List Int) (k w:Int):Ct:=⟨131,(jQ ws xs k w),false,(i6 (pP 3 ws xs k w))⟩
theorem MJ (ws xs:List Int) (k w:Int) (ho:Ga ws xs 2):CC (PW ws xs k w):=by
 obtain⟨hl,hf,hx,hin⟩:=ho
 have f0:0<ws.length→1≤ws.getD 0 0∧ws.getD 0 0≤8:=fun h=>aB hf h
 have f1:1<ws.length→1≤ws.getD 1 0∧ws.getD 1 0≤8:=fun h=>aB hf h
 have f2:2<ws.length→1≤ws.getD 2 0∧ws.getD 2 0≤8:=fun h=>aB hf h
 have a0:0<ws.length→0≤xs.getD 0 0∧xs.getD 0 0≤an (ws.getD 0 0):=fun h=>bg hin (by omega)
 have a1:1<ws.length→0≤xs.getD 1 0∧xs.getD 1 0≤an (ws.getD 1 0):=fun h=>bg hin (by omega)
 have a2:2<ws.length→0≤xs.getD 2 0∧xs.getD 2 0≤an (ws.getD 2 0):=fun h=>bg hin (by omega)
 have m0:0<ws.length→0≤an (ws.getD 0 0)∧an (ws.getD 0 0)≤255:=fun h=>az (by have:=f0 h;omega) (f0 h).2
 have m1:1<ws.length→0≤an (ws.getD 1 0)∧an (ws.getD 1 0)≤255:=fun h=>az (by have:=f1 h;omega) (f1 h).2
 have m2:2<ws.length→0≤an (ws.getD 2 0)∧an (ws.getD 2 0)≤255:=fun h=>az (by have:=f2 h;omega) (f2 h).2
 have b0:=f0 (by omega);have c0:=a0 (by omega);have d0:=m0 (by omega)
 have b1:=f1 (by omega);have c1:=a1 (by omega);have d1:=m1 (by omega)
 refine ah.vc (V:=TT 4 (IX 0 xs.length∧TT 3 (IX 1 xs.length∧TT 1 ((True∧(IntKind.wrap .i64 (BitVec.ofInt (IntKind.i64).bits (xs.getD 0 0) &&& BitVec.ofInt (IntKind.i64).bits (xs.getD 1 0)).toNat)=(((xs.getD 0 0).toNat &&& (xs.getD 1 0).toNat:Nat):Int))∧TT 2 ((((xs.getD 0 0).toNat &&& (xs.getD 1 0).toNat:Nat):Int)=(pP 3 ws xs k w)∧True))))) (.w 1 [(8,.val (i6 (((xs.getD 0 0).toNat &&& (xs.getD 1 0).toNat:Nat):Int)))]<|.e) Tryz.func131 rfl rfl rfl (by kernel_rfl) ?_
 refine tt ⟨ix,tt ⟨ix,tt ⟨⟨oK,(F7 (by omega) (by omega) (by omega) (by omega))⟩,tt ⟨?_,oK⟩⟩⟩⟩
 rfl
abbrev PX (ws xs:List Int) (k w:Int):Ct:=⟨132,(jQ ws xs k w),false,(i6 (pP 4 ws xs k w))⟩
theorem OD (ws xs:List Int) (k w:Int) (ho:Ga ws xs 2):CC (PX ws xs k w):=by
 obtain⟨hl,hf,hx,hin⟩:=ho
 have f0:0<ws.length→1≤ws.getD 0 0∧ws.getD 0 0≤8:=fun h=>aB hf h
 have f1:1<ws.length→1≤ws.getD 1 0∧ws.getD 1 0≤8:=fun h=>aB hf h
 have f2:2<ws.length→1≤ws.getD 2 0∧ws.getD 2 0≤8:=fun h=>aB hf h
 have a0:0<ws.length→0≤xs.getD 0 0∧xs.getD 0 0≤an (ws.getD 0 0):=fun h=>bg hin (by omega)
 have a1:1<ws.length→0≤xs.getD 1 0∧xs.getD 1 0≤an (ws.getD 1 0):=fun h=>bg hin (by omega)
 have a2:2<ws.length→0≤xs.getD 2 0∧xs.getD 2 0≤an (ws.getD 2 0):=fun h=>bg hin (by omega)
 have m0:0<ws.length→0≤an (ws.getD 0 0)∧an (ws.getD 0 0)≤255:=fun h=>az (by have:=f0 h;omega) (f0 h).2
 have m1:1<ws.length→0≤an (ws.getD 1 0)∧an (ws.getD 1 0)≤255:=fun h=>az (by have:=f1 h;omega) (f1 h).2
 have m2:2<ws.length→0≤an (ws.getD 2 0)∧an (ws.getD 2 0)≤255:=fun h=>az (by have:=f2 h;omega) (f2 h).2
 have b0:=f0 (by omega);have c0:=a0 (by omega);have d0:=m0 (by omega)
 have b1:=f1 (by omega);have c1:=a1 (by omega);have d1:=m1 (by omega)
 refine ah.vc (V:=TT 4 (IX 0 xs.length∧TT 3 (IX 1 xs.length∧TT 1 ((True∧(IntKind.wrap .i64 (BitVec.ofInt (IntKind.i64).bits (xs.getD 0 0) ||| BitVec.ofInt (IntKind.i64).bits (xs.getD 1 0)).toNat)=(((xs.getD 0 0).toNat ||| (xs.getD 1 0).toNat:Nat):Int))∧TT 2 ((((xs.getD 0 0).toNat ||| (xs.getD 1 0).toNat:Nat):Int)=(pP 4 ws xs k w)∧True))))) (.w 1 [(8,.val (i6 (((xs.getD 0 0).toNat ||| (xs.getD 1 0).toNat:Nat):Int)))]<|.e) Tryz.func132 rfl rfl rfl (by kernel_rfl) ?_
 refine tt ⟨ix,tt ⟨ix,tt ⟨⟨oK,(HJ (by omega) (by omega) (by omega) (by omega))⟩,tt ⟨?_,oK⟩⟩⟩⟩
 rfl
abbrev PY (ws xs:List Int) (k w:Int):Ct:=⟨133,(jQ ws xs k w),false,(i6 (pP 5 ws xs k w))⟩
theorem MK (ws xs:List Int) (k w:Int) (ho:Ga ws xs 2):CC (PY ws xs k w):=by
 obtain⟨hl,hf,hx,hin⟩:=ho
 have f0:0<ws.length→1≤ws.getD 0 0∧ws.getD 0 0≤8:=fun h=>aB hf h
 have f1:1<ws.length→1≤ws.getD 1 0∧ws.getD 1 0≤8:=fun h=>aB hf h
 have f2:2<ws.length→1≤ws.getD 2 0∧ws.getD 2 0≤8:=fun h=>aB hf h
 have a0:0<ws.length→0≤xs.getD 0 0∧xs.getD 0 0≤an (ws.getD 0 0):=fun h=>bg hin (by omega)
 have a1:1<ws.length→0≤xs.getD 1 0∧xs.getD 1 0≤an (ws.getD 1 0):=fun h=>bg hin (by omega)
 have a2:2<ws.length→0≤xs.getD 2 0∧xs.getD 2 0≤an (ws.getD 2 0):=fun h=>bg hin (by omega)
 have m0:0<ws.length→0≤an (ws.getD 0 0)∧an (ws.getD 0 0)≤255:=fun h=>az (by have:=f0 h;omega) (f0 h).2
 have m1:1<ws.length→0≤an (ws.getD 1 0)∧an (ws.getD 1 0)≤255:=fun h=>az (by have:=f1 h;omega) (f1 h).2
 have m2:2<ws.length→0≤an (ws.getD 2 0)∧an (ws.getD 2 0)≤255:=fun h=>az (by have:=f2 h;omega) (f2 h).2
 have b0:=f0 (by omega);have c0:=a0 (by omega);have d0:=m0 (by omega)
 have b1:=f1 (by omega);have c1:=a1 (by omega);have d1:=m1 (by omega)
 refine ah.vc (V:=TT 4 (IX 0 xs.length∧TT 3 (IX 1 xs.length∧TT 1 ((True∧(IntKind.wrap .i64 (BitVec.ofInt (IntKind.i64).bits (xs.getD 0 0) ^^^ BitVec.ofInt (IntKind.i64).bits (xs.getD 1 0)).toNat)=(((xs.getD 0 0).toNat ^^^ (xs.getD 1 0).toNat:Nat):Int))∧TT 2 ((((xs.getD 0 0).toNat ^^^ (xs.getD 1 0).toNat:Nat):Int)=(pP 5 ws xs k w)∧True))))) (.w 1 [(8,.val (i6 (((xs.getD 0 0).toNat ^^^ (xs.getD 1 0).toNat:Nat):Int)))]<|.e) Tryz.func133 rfl rfl rfl (by kernel_rfl) ?_
 refine tt ⟨ix,tt ⟨ix,tt ⟨⟨oK,(ya (by omega) (by omega) (by omega) (by omega))⟩,tt ⟨?_,oK⟩⟩⟩⟩
 rfl
abbrev PZ (ws xs:List Int) (k w:Int):Ct:=⟨134,(jQ ws xs k w),false,(i6 (pP 6 ws xs k w))⟩
theorem ML (ws xs:List Int) (k w:Int) (ho:Ga ws xs 2):CC (PZ ws xs k w):=by
 obtain⟨hl,hf,hx,hin⟩:=ho
 have f0:0<ws.length→1≤ws.getD 0 0∧ws.getD 0 0≤8:=fun h=>aB hf h
 have f1:1<ws.length→1≤ws.getD 1 0∧ws.getD 1 0≤8:=fun h=>aB hf h
 have f2:2<ws.length→1≤ws.getD 2 0∧ws.getD 2 0≤8:=fun h=>aB hf h
 have a0:0<ws.length→0≤xs.getD 0 0∧xs.getD 0 0≤an (ws.getD 0 0):=fun h=>bg hin (by omega)
 have a1:1<ws.length→0≤xs.getD 1 0∧xs.getD 1 0≤an (ws.getD 1 0):=fun h=>bg hin (by omega)
 have a2:2<ws.length→0≤xs.getD 2 0∧xs.getD 2 0≤an (ws.getD 2 0):=fun h=>bg hin (by omega)
 have m0:0<ws.length→0≤an (ws.getD 0 0)∧an (ws.getD 0 0)≤255:=fun h=>az (by have:=f0 h;omega) (f0 h).2
 have m1:1<ws.length→0≤an (ws.getD 1 0)∧an (ws.getD 1 0)≤255:=fun h=>az (by have:=f1 h;omega) (f1 h).2
 have m2:2<ws.length→0≤an (ws.getD 2 0)∧an (ws.getD 2 0)≤255:=fun h=>az (by have:=f2 h;omega) (f2 h).2
 have b0:=f0 (by omega);have c0:=a0 (by omega);have d0:=m0 (by omega)
 have b1:=f1 (by omega);have c1:=a1 (by omega);have d1:=m1 (by omega)
 refine ah.vc (V:=TT 4 (IX 0 xs.length∧TT 3 (IX 1 xs.length∧TT 1 (W6 ((xs.getD 0 0)+(xs.getD 1 0))∧TT 1 (CC (CI ws xs k w)∧(True∧(IntKind.wrap .i64 (BitVec.ofInt (IntKind.i64).bits ((xs.getD 0 0)+(xs.getD 1 0)) &&& BitVec.ofInt (IntKind.i64).bits (an (ws.getD 0 0))).toNat)=((xs.getD 0 0+xs.getD 1 0)%2^(ws.getD 0 0).toNat))∧TT 2 (((xs.getD 0 0+xs.getD 1 0)%2^(ws.getD 0 0).toNat)=(pP 6 ws xs k w)∧True)))))) (.w 1 [(8,.val (i6 ((xs.getD 0 0)+(xs.getD 1 0)))),(10,(CI ws xs k w).O),(11,.val (i6 ((xs.getD 0 0+xs.getD 1 0)%2^(ws.getD 0 0).toNat)))]<|.e) Tryz.func134 rfl rfl rfl (by kernel_rfl) ?_
 refine tt ⟨ix,tt ⟨ix,tt ⟨w6,tt ⟨(wj ws xs k w om),⟨⟨oK,(by rw[db (by omega) (by omega)];exact nx (by omega))⟩,tt ⟨?_,oK⟩⟩⟩⟩⟩⟩
 rfl
abbrev P0 (ws xs:List Int) (k w:Int):Ct:=⟨135,(jQ ws xs k w),false,(i6 (pP 7 ws xs k w))⟩
theorem MM (ws xs:List Int) (k w:Int) (ho:Ga ws xs 2):CC (P0 ws xs k w):=by
 obtain⟨hl,hf,hx,hin⟩:=ho
 have f0:0<ws.length→1≤ws.getD 0 0∧ws.getD 0 0≤8:=fun h=>aB hf h
 have f1:1<ws.length→1≤ws.getD 1 0∧ws.getD 1 0≤8:=fun h=>aB hf h
 have f2:2<ws.length→1≤ws.getD 2 0∧ws.getD 2 0≤8:=fun h=>aB hf h
 have a0:0<ws.length→0≤xs.getD 0 0∧xs.getD 0 0≤an (ws.getD 0 0):=fun h=>bg hin (by omega)
 have a1:1<ws.length→0≤xs.getD 1 0∧xs.getD 1 0≤an (ws.getD 1 0):=fun h=>bg hin (by omega)
 have a2:2<ws.length→0≤xs.getD 2 0∧xs.getD 2 0≤an (ws.getD 2 0):=fun h=>bg hin (by omega)
 have m0:0<ws.length→0≤an (ws.getD 0 0)∧an (ws.getD 0 0)≤255:=fun h=>az (by have:=f0 h;omega) (f0 h).2
 have m1:1<ws.length→0≤an (ws.getD 1 0)∧an (ws.getD 1 0)≤255:=fun h=>az (by have:=f1 h;omega) (f1 h).2
 have m2:2<ws.length→0≤an (ws.getD 2 0)∧an (ws.getD 2 0)≤255:=fun h=>az (by have:=f2 h;omega) (f2 h).2
 have b0:=f0 (by omega);have c0:=a0 (by omega);have d0:=m0 (by omega)
 have b1:=f1 (by omega);have c1:=a1 (by omega);have d1:=m1 (by omega)
 refine ah.vc (V:=TT 4 (IX 0 xs.length∧TT 3 (IX 1 xs.length∧TT 1 (W6 ((xs.getD 0 0)-(xs.getD 1 0))∧TT 1 (CC (CI ws xs k w)∧(True∧(IntKind.wrap .i64 (BitVec.ofInt (IntKind.i64).bits ((xs.getD 0 0)-(xs.getD 1 0)) &&& BitVec.ofInt (IntKind.i64).bits (an (ws.getD 0 0))).toNat)=((xs.getD 0 0-xs.getD 1 0)%2^(ws.getD 0 0).toNat))∧TT 2 (((xs.getD 0 0-xs.getD 1 0)%2^(ws.getD 0 0).toNat)=(pP 7 ws xs k w)∧True)))))) (.w 1 [(8,.val (i6 ((xs.getD 0 0)-(xs.getD 1 0)))),(10,(CI ws xs k w).O),(11,.val (i6 ((xs.getD 0 0-xs.getD 1 0)%2^(ws.getD 0 0).toNat)))]<|.e) Tryz.func135 rfl rfl rfl (by kernel_rfl) ?_
 refine tt ⟨ix,tt ⟨ix,tt ⟨w6,tt ⟨(wj ws xs k w om),⟨⟨oK,(by rw[db (by omega) (by omega)];exact nx (by omega))⟩,tt ⟨?_,oK⟩⟩⟩⟩⟩⟩
 rfl
abbrev P1 (ws xs:List Int) (k w:Int):Ct:=⟨137,(jQ ws xs k w),false,(i6 (pP 8 ws xs k w))⟩
theorem OE (ws xs:List Int) (k w:Int) (ho:Ga ws xs 2):CC (P1 ws xs k w):=by
 obtain⟨hl,hf,hx,hin⟩:=ho
 have f0:0<ws.length→1≤ws.getD 0 0∧ws.getD 0 0≤8:=fun h=>aB hf h
 have f1:1<ws.length→1≤ws.getD 1 0∧ws.getD 1 0≤8:=fun h=>aB hf h
 have f2:2<ws.length→1≤ws.getD 2 0∧ws.getD 2 0≤8:=fun h=>aB hf h
 have a0:0<ws.length→0≤xs.getD 0 0∧xs.getD 0 0≤an (ws.getD 0 0):=fun h=>bg hin (by omega)
 have a1:1<ws.length→0≤xs.getD 1 0∧xs.getD 1 0≤an (ws.getD 1 0):=fun h=>bg hin (by omega)
 have a2:2<ws.length→0≤xs.getD 2 0∧xs.getD 2 0≤an (ws.getD 2 0):=fun h=>bg hin (by omega)
 have m0:0<ws.length→0≤an (ws.getD 0 0)∧an (ws.getD 0 0)≤255:=fun h=>az (by have:=f0 h;omega) (f0 h).2
 have m1:1<ws.length→0≤an (ws.getD 1 0)∧an (ws.getD 1 0)≤255:=fun h=>az (by have:=f1 h;omega) (f1 h).2
 have m2:2<ws.length→0≤an (ws.getD 2 0)∧an (ws.getD 2 0)≤255:=fun h=>az (by have:=f2 h;omega) (f2 h).2
 have b0:=f0 (by omega);have c0:=a0 (by omega);have d0:=m0 (by omega)
 have b1:=f1 (by omega);have c1:=a1 (by omega);have d1:=m1 (by omega)
 refine ah.vc (V:=TT 4 (IX 0 xs.length∧TT 3 (IX 1 xs.length∧TT 2 (CC (HM ((xs.getD 0 0)==(xs.getD 1 0)))∧TT 2 ((if ((xs.getD 0 0)==(xs.getD 1 0))=true then 1 else 0)=(pP 8 ws xs k w)∧True))))) (.w 1 [(9,(HM ((xs.getD 0 0)==(xs.getD 1 0))).O)]<|.e) Tryz.func137 rfl rfl rfl (by kernel_rfl) ?_
 refine tt ⟨ix,tt ⟨ix,tt ⟨(HN ((xs.getD 0 0)==(xs.getD 1 0))),tt ⟨?_,oK⟩⟩⟩⟩
 show _=(if xs.getD 0 0=xs.getD 1 0 then (1:Int)else 0)
 by_cases h:xs.getD 0 0=xs.getD 1 0
 · rw[if_pos h,if_pos (by simpa using h)]
 · rw[if_neg h,if_neg (by simpa using h)]
abbrev P2 (ws xs:List Int) (k w:Int):Ct:=⟨139,(jQ ws xs k w),false,(i6 (pP 9 ws xs k w))⟩
theorem OG (ws xs:List Int) (k w:Int) (ho:Ga ws xs 2):CC (P2 ws xs k w):=by
 obtain⟨hl,hf,hx,hin⟩:=ho
 have f0:0<ws.length→1≤ws.getD 0 0∧ws.getD 0 0≤8:=fun h=>aB hf h
 have f1:1<ws.length→1≤ws.getD 1 0∧ws.getD 1 0≤8:=fun h=>aB hf h
 have f2:2<ws.length→1≤ws.getD 2 0∧ws.getD 2 0≤8:=fun h=>aB hf h
 have a0:0<ws.length→0≤xs.getD 0 0∧xs.getD 0 0≤an (ws.getD 0 0):=fun h=>bg hin (by omega)
 have a1:1<ws.length→0≤xs.getD 1 0∧xs.getD 1 0≤an (ws.getD 1 0):=fun h=>bg hin (by omega)
 have a2:2<ws.length→0≤xs.getD 2 0∧xs.getD 2 0≤an (ws.getD 2 0):=fun h=>bg hin (by omega)
 have m0:0<ws.length→0≤an (ws.getD 0 0)∧an (ws.getD 0 0)≤255:=fun h=>az (by have:=f0 h;omega) (f0 h).2
 have m1:1<ws.length→0≤an (ws.getD 1 0)∧an (ws.getD 1 0)≤255:=fun h=>az (by have:=f1 h;omega) (f1 h).2
 have m2:2<ws.length→0≤an (ws.getD 2 0)∧an (ws.getD 2 0)≤255:=fun h=>az (by have:=f2 h;omega) (f2 h).2
 have b0:=f0 (by omega);have c0:=a0 (by omega);have d0:=m0 (by omega)
 have b1:=f1 (by omega);have c1:=a1 (by omega);have d1:=m1 (by omega)
 refine ah.vc (V:=TT 4 (IX 0 xs.length∧TT 3 (IX 1 xs.length∧TT 2 (CC (HM (decide ((xs.getD 0 0)<(xs.getD 1 0))))∧TT 2 ((if (decide ((xs.getD 0 0)<(xs.getD 1 0)))=true then 1 else 0)=(pP 9 ws xs k w)∧True))))) (.w 1 [(9,(HM (decide ((xs.getD 0 0)<(xs.getD 1 0)))).O)]<|.e) Tryz.func139 rfl rfl rfl (by kernel_rfl) ?_
 refine tt ⟨ix,tt ⟨ix,tt ⟨(HN (decide ((xs.getD 0 0)<(xs.getD 1 0)))),tt ⟨?_,oK⟩⟩⟩⟩
 show _=(if xs.getD 0 0<xs.getD 1 0 then (1:Int)else 0)
 by_cases h:xs.getD 0 0<xs.getD 1 0
 · rw[if_pos h,if_pos (by simpa using h)]
 · rw[if_neg h,if_neg (by simpa using h)]
abbrev P3 (ws xs:List Int) (k w:Int):Ct:=⟨141,(jQ ws xs k w),false,(i6 (pP 1 ws xs k w))⟩
theorem HS (ws xs:List Int) (k w:Int) (ho:Ga ws xs 0):CC (P3 ws xs k w):=by
 obtain⟨hl,hf,hx,hin⟩:=ho
 have f0:0<ws.length→1≤ws.getD 0 0∧ws.getD 0 0≤8:=fun h=>aB hf h
 have f1:1<ws.length→1≤ws.getD 1 0∧ws.getD 1 0≤8:=fun h=>aB hf h
 have f2:2<ws.length→1≤ws.getD 2 0∧ws.getD 2 0≤8:=fun h=>aB hf h
 have a0:0<ws.length→0≤xs.getD 0 0∧xs.getD 0 0≤an (ws.getD 0 0):=fun h=>bg hin (by omega)
 have a1:1<ws.length→0≤xs.getD 1 0∧xs.getD 1 0≤an (ws.getD 1 0):=fun h=>bg hin (by omega)
 have a2:2<ws.length→0≤xs.getD 2 0∧xs.getD 2 0≤an (ws.getD 2 0):=fun h=>bg hin (by omega)
 have m0:0<ws.length→0≤an (ws.getD 0 0)∧an (ws.getD 0 0)≤255:=fun h=>az (by have:=f0 h;omega) (f0 h).2
 have m1:1<ws.length→0≤an (ws.getD 1 0)∧an (ws.getD 1 0)≤255:=fun h=>az (by have:=f1 h;omega) (f1 h).2
 have m2:2<ws.length→0≤an (ws.getD 2 0)∧an (ws.getD 2 0)≤255:=fun h=>az (by have:=f2 h;omega) (f2 h).2
 refine ah.vc (V:=TT 6 (k=(pP 1 ws xs k w)∧True)) (.e) Tryz.func141 rfl rfl rfl (by kernel_rfl) ?_
 refine tt ⟨?_,oK⟩
 rfl
abbrev P4 (ws xs:List Int) (k w:Int):Ct:=⟨149,(jQ ws xs k w),false,(i6 (pP 13 ws xs k w))⟩
theorem MN (ws xs:List Int) (k w:Int) (ho:Ga ws xs 1):CC (P4 ws xs k w):=by
 obtain⟨hl,hf,hx,hin⟩:=ho
 have f0:0<ws.length→1≤ws.getD 0 0∧ws.getD 0 0≤8:=fun h=>aB hf h
 have f1:1<ws.length→1≤ws.getD 1 0∧ws.getD 1 0≤8:=fun h=>aB hf h
 have f2:2<ws.length→1≤ws.getD 2 0∧ws.getD 2 0≤8:=fun h=>aB hf h
 have a0:0<ws.length→0≤xs.getD 0 0∧xs.getD 0 0≤an (ws.getD 0 0):=fun h=>bg hin (by omega)
 have a1:1<ws.length→0≤xs.getD 1 0∧xs.getD 1 0≤an (ws.getD 1 0):=fun h=>bg hin (by omega)
 have a2:2<ws.length→0≤xs.getD 2 0∧xs.getD 2 0≤an (ws.getD 2 0):=fun h=>bg hin (by omega)
 have m0:0<ws.length→0≤an (ws.getD 0 0)∧an (ws.getD 0 0)≤255:=fun h=>az (by have:=f0 h;omega) (f0 h).2
 have m1:1<ws.length→0≤an (ws.getD 1 0)∧an (ws.getD 1 0)≤255:=fun h=>az (by have:=f1 h;omega) (f1 h).2
 have m2:2<ws.length→0≤an (ws.getD 2 0)∧an (ws.getD 2 0)≤255:=fun h=>az (by have:=f2 h;omega) (f2 h).2
 have b0:=f0 (by omega);have c0:=a0 (by omega);have d0:=m0 (by omega)
 refine ah.vc (V:=TT 4 (IX 0 xs.length∧TT 3 ((xs.getD 0 0)=(pP 13 ws xs k w)∧True))) (.e) Tryz.func149 rfl rfl rfl (by kernel_rfl) ?_
 refine tt ⟨ix,tt ⟨?_,oK⟩⟩
 rfl
abbrev P5 (ws xs:List Int) (k w:Int):Ct:=⟨143,(jQ ws xs k w),false,(i6 (pP 10 ws xs k w))⟩
theorem MO (ws xs:List Int) (k w:Int) (ho:Ga ws xs 3) (h1:ws.getD 0 0=1):CC (P5 ws xs k w):=by
 obtain⟨hl,hf,hx,hin⟩:=ho
 have f0:0<ws.length→1≤ws.getD 0 0∧ws.getD 0 0≤8:=fun h=>aB hf h
 have f1:1<ws.length→1≤ws.getD 1 0∧ws.getD 1 0≤8:=fun h=>aB hf h
 have f2:2<ws.length→1≤ws.getD 2 0∧ws.getD 2 0≤8:=fun h=>aB hf h
 have a0:0<ws.length→0≤xs.getD 0 0∧xs.getD 0 0≤an (ws.getD 0 0):=fun h=>bg hin (by omega)
 have a1:1<ws.length→0≤xs.getD 1 0∧xs.getD 1 0≤an (ws.getD 1 0):=fun h=>bg hin (by omega)
 have a2:2<ws.length→0≤xs.getD 2 0∧xs.getD 2 0≤an (ws.getD 2 0):=fun h=>bg hin (by omega)
 have m0:0<ws.length→0≤an (ws.getD 0 0)∧an (ws.getD 0 0)≤255:=fun h=>az (by have:=f0 h;omega) (f0 h).2
 have m1:1<ws.length→0≤an (ws.getD 1 0)∧an (ws.getD 1 0)≤255:=fun h=>az (by have:=f1 h;omega) (f1 h).2
 have m2:2<ws.length→0≤an (ws.getD 2 0)∧an (ws.getD 2 0)≤255:=fun h=>az (by have:=f2 h;omega) (f2 h).2
 have b0:=f0 (by omega);have c0:=a0 (by omega);have d0:=m0 (by omega)
 have b1:=f1 (by omega);have c1:=a1 (by omega);have d1:=m1 (by omega)
 have b2:=f2 (by omega);have c2:=a2 (by omega);have d2:=m2 (by omega)
 have hm1:an (ws.getD 0 0)=1:=by rw[h1];decide
 have hx0:xs.getD 0 0=0∨xs.getD 0 0=1:=by omega
 refine ah.vc (V:=TT 6 (IX 0 xs.length∧TT 1 (W6 (2-(xs.getD 0 0))∧IX (2-(xs.getD 0 0)) xs.length∧TT 3 ((xs.getD ((2-(xs.getD 0 0)).toNat) 0)=(pP 10 ws xs k w)∧True)))) (.w 1 [(6,.val (i6 (2-(xs.getD 0 0))))]<|.e) Tryz.func143 rfl rfl rfl (by kernel_rfl) ?_
 refine tt ⟨ix,tt ⟨w6,⟨ix,tt ⟨?_,oK⟩⟩⟩⟩
 rfl
abbrev P6 (ws xs:List Int) (k w:Int):Ct:=⟨145,(jQ ws xs k w),false,(i6 (pP 11 ws xs k w))⟩
theorem MP (ws xs:List Int) (k w:Int) (ho:Ga ws xs 2):CC (P6 ws xs k w):=by
 obtain⟨hl,hf,hx,hin⟩:=ho
 have f0:0<ws.length→1≤ws.getD 0 0∧ws.getD 0 0≤8:=fun h=>aB hf h
 have f1:1<ws.length→1≤ws.getD 1 0∧ws.getD 1 0≤8:=fun h=>aB hf h
 have f2:2<ws.length→1≤ws.getD 2 0∧ws.getD 2 0≤8:=fun h=>aB hf h
 have a0:0<ws.length→0≤xs.getD 0 0∧xs.getD 0 0≤an (ws.getD 0 0):=fun h=>bg hin (by omega)
 have a1:1<ws.length→0≤xs.getD 1 0∧xs.getD 1 0≤an (ws.getD 1 0):=fun h=>bg hin (by omega)
 have a2:2<ws.length→0≤xs.getD 2 0∧xs.getD 2 0≤an (ws.getD 2 0):=fun h=>bg hin (by omega)
 have m0:0<ws.length→0≤an (ws.getD 0 0)∧an (ws.getD 0 0)≤255:=fun h=>az (by have:=f0 h;omega) (f0 h).2
 have m1:1<ws.length→0≤an (ws.getD 1 0)∧an (ws.getD 1 0)≤255:=fun h=>az (by have:=f1 h;omega) (f1 h).2
 have m2:2<ws.length→0≤an (ws.getD 2 0)∧an (ws.getD 2 0)≤255:=fun h=>az (by have:=f2 h;omega) (f2 h).2
 have b0:=f0 (by omega);have c0:=a0 (by omega);have d0:=m0 (by omega)
 have b1:=f1 (by omega);have c1:=a1 (by omega);have d1:=m1 (by omega)
 refine ah.vc (V:=TT 4 (IX 0 xs.length∧TT 3 (IX 1 ws.length∧TT 1 ((0≤(ws.getD 1 0)∧(IntKind.wrap .i64 ((xs.getD 0 0)*2^min ((ws.getD 1 0).toNat) 64))=(((xs.getD 0 0).toNat*2^(ws.getD 1 0).toNat:Nat):Int))∧TT 2 (IX 1 xs.length∧TT 1 ((True∧(IntKind.wrap .i64 (BitVec.ofInt (IntKind.i64).bits (((xs.getD 0 0).toNat*2^(ws.getD 1 0).toNat:Nat):Int) ||| BitVec.ofInt (IntKind.i64).bits (xs.getD 1 0)).toNat)=(((xs.getD 0 0).toNat*2^(ws.getD 1 0).toNat ||| (xs.getD 1 0).toNat:Nat):Int))∧TT 2 ((((xs.getD 0 0).toNat*2^(ws.getD 1 0).toNat ||| (xs.getD 1 0).toNat:Nat):Int)=(pP 11 ws xs k w)∧True))))))) (.w 1 [(8,.val (i6 (((xs.getD 0 0).toNat*2^(ws.getD 1 0).toNat:Nat):Int))),(13,.val (i6 (((xs.getD 0 0).toNat*2^(ws.getD 1 0).toNat ||| (xs.getD 1 0).toNat:Nat):Int)))]<|.e) Tryz.func145 rfl rfl rfl (by kernel_rfl) ?_
 refine tt ⟨ix,tt ⟨ix,tt ⟨⟨om,(KA (by omega) (by omega))⟩,tt ⟨ix,tt ⟨⟨oK,(KB (by omega) (by omega) (by omega))⟩,tt ⟨?_,oK⟩⟩⟩⟩⟩⟩
 rfl
abbrev P7 (ws xs:List Int) (k w:Int):Ct:=⟨147,(jQ ws xs k w),false,(i6 (pP 12 ws xs k w))⟩
theorem HT (ws xs:List Int) (k w:Int) (ho:Ga ws xs 1) (hk:0≤k∧k≤8∧ay w=true):CC (P7 ws xs k w):=by
 obtain⟨hl,hf,hx,hin⟩:=ho
 have f0:0<ws.length→1≤ws.getD 0 0∧ws.getD 0 0≤8:=fun h=>aB hf h
 have f1:1<ws.length→1≤ws.getD 1 0∧ws.getD 1 0≤8:=fun h=>aB hf h
 have f2:2<ws.length→1≤ws.getD 2 0∧ws.getD 2 0≤8:=fun h=>aB hf h
 have a0:0<ws.length→0≤xs.getD 0 0∧xs.getD 0 0≤an (ws.getD 0 0):=fun h=>bg hin (by omega)
 have a1:1<ws.length→0≤xs.getD 1 0∧xs.getD 1 0≤an (ws.getD 1 0):=fun h=>bg hin (by omega)
 have a2:2<ws.length→0≤xs.getD 2 0∧xs.getD 2 0≤an (ws.getD 2 0):=fun h=>bg hin (by omega)
 have m0:0<ws.length→0≤an (ws.getD 0 0)∧an (ws.getD 0 0)≤255:=fun h=>az (by have:=f0 h;omega) (f0 h).2
 have m1:1<ws.length→0≤an (ws.getD 1 0)∧an (ws.getD 1 0)≤255:=fun h=>az (by have:=f1 h;omega) (f1 h).2
 have m2:2<ws.length→0≤an (ws.getD 2 0)∧an (ws.getD 2 0)≤255:=fun h=>az (by have:=f2 h;omega) (f2 h).2
 have b0:=f0 (by omega);have c0:=a0 (by omega);have d0:=m0 (by omega)
 have hw:=bn.1 hk.2.2
 refine ah.vc (V:=TT 4 (IX 0 xs.length∧TT 3 ((0≤k∧(Int.fdiv (xs.getD 0 0) (2^min k.toNat 64))=(xs.getD 0 0 / 2^k.toNat))∧TT 2 (CC (zp w)∧(True∧(IntKind.wrap .i64 (BitVec.ofInt (IntKind.i64).bits (xs.getD 0 0 / 2^k.toNat) &&& BitVec.ofInt (IntKind.i64).bits (an w)).toNat)=((xs.getD 0 0 / 2^k.toNat)%2^w.toNat))∧TT 2 (((xs.getD 0 0 / 2^k.toNat)%2^w.toNat)=(pP 12 ws xs k w)∧True))))) (.w 1 [(6,.val (i6 (xs.getD 0 0 / 2^k.toNat))),(9,(zp w).O),(10,.val (i6 ((xs.getD 0 0 / 2^k.toNat)%2^w.toNat)))]<|.e) Tryz.func147 rfl rfl rfl (by kernel_rfl) ?_
 refine tt ⟨ix,tt ⟨⟨om,(EB hk.1 (by omega))⟩,tt ⟨(u5 w),⟨⟨oK,(by rw[db (by omega) (by omega)];exact nx (by omega))⟩,tt ⟨?_,oK⟩⟩⟩⟩⟩
 rfl
end Go.Proofs.YtckgpflobhpnpaaGreat
