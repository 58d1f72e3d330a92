/-
  Package bits: the values of operations.
-/
import Derived.Test.YtckgpflobhpnpaaGreatQVbA
namespace Go.Proofs.YtckgpflobhpnpaaGreat
open Go.RowKit
set_option linter.unusedVariables false
set_option linter.unusedSimpArgs false
abbrev jo (ws xs:List Int) (k w:Int):List D:=[(.agg [(LI ws),(LI xs),(i6 k),(i6 w)])]
set_option maxRecDepth 100000
structure Ea (ws xs:List Int) (n:Nat):Prop where
  hl:ws.length=n
  hf:ws.all ax=true
  hx:xs.length=ws.length
  hin:D6 ws xs=true
abbrev A4 (ws xs:List Int) (k w:Int):Ct:=⟨129,(jo ws xs k w),false,(i6 (ap (ws.getD 0 0)))⟩
theorem uU (ws xs:List Int) (k w:Int) (hl:0<ws.length):CC (A4 ws xs k w):=by
 refine ai.vc (V:=TT 4 (IX 0 ws.length∧TT 1 (CC (xP (ws.getD 0 0))∧TT 2 ((ap (ws.getD 0 0))=(ap (ws.getD 0 0))∧True)))) (.w 1 [(4,(xP (ws.getD 0 0)).O)]<|.e) Tryz.func129 rfl rfl rfl (by kernel_rfl) ?_
 exact tt ⟨ix,tt ⟨(tH (ws.getD 0 0)),tt ⟨rfl,oK⟩⟩⟩
abbrev Np (ws xs:List Int) (k w:Int):Ct:=⟨128,(jo ws xs k w),false,(i6 (oQ 2 ws xs k w))⟩
theorem Ke (ws xs:List Int) (k w:Int) (ho:Ea ws xs 1):CC (Np ws xs k w):=by
 obtain⟨hl,hf,hx,hin⟩:=ho
 have f0:0<ws.length→1≤ws.getD 0 0∧ws.getD 0 0≤8:=fun h=>aB hf h
 have f1:1<ws.length→1≤ws.getD 1 0∧ws.getD 1 0≤8:=fun h=>aB hf h
 have f2:2<ws.length→1≤ws.getD 2 0∧ws.getD 2 0≤8:=fun h=>aB hf h
 have a0:0<ws.length→0≤xs.getD 0 0∧xs.getD 0 0≤ap (ws.getD 0 0):=fun h=>a8 hin (by omega)
 have a1:1<ws.length→0≤xs.getD 1 0∧xs.getD 1 0≤ap (ws.getD 1 0):=fun h=>a8 hin (by omega)
 have a2:2<ws.length→0≤xs.getD 2 0∧xs.getD 2 0≤ap (ws.getD 2 0):=fun h=>a8 hin (by omega)
 have m0:0<ws.length→0≤ap (ws.getD 0 0)∧ap (ws.getD 0 0)≤255:=fun h=>az (by have:=f0 h;omega) (f0 h).2
 have m1:1<ws.length→0≤ap (ws.getD 1 0)∧ap (ws.getD 1 0)≤255:=fun h=>az (by have:=f1 h;omega) (f1 h).2
 have m2:2<ws.length→0≤ap (ws.getD 2 0)∧ap (ws.getD 2 0)≤255:=fun h=>az (by have:=f2 h;omega) (f2 h).2
 have b0:=f0 (by omega);have c0:=a0 (by omega);have d0:=m0 (by omega)
 refine ai.vc (V:=TT 4 (IX 0 xs.length∧TT 2 (CC (A4 ws xs k w)∧(True∧(IntKind.wrap .i64 (BitVec.ofInt (IntKind.i64).bits (xs.getD 0 0) ^^^ BitVec.ofInt (IntKind.i64).bits (ap (ws.getD 0 0))).toNat)=(((xs.getD 0 0).toNat ^^^ (ap (ws.getD 0 0)).toNat:Nat):Int))∧TT 2 ((((xs.getD 0 0).toNat ^^^ (ap (ws.getD 0 0)).toNat:Nat):Int)=(oQ 2 ws xs k w)∧True)))) (.w 1 [(5,(A4 ws xs k w).O),(6,.val (i6 (((xs.getD 0 0).toNat ^^^ (ap (ws.getD 0 0)).toNat:Nat):Int)))]<|.e) Tryz.func128 rfl rfl rfl (by kernel_rfl) ?_
 refine tt ⟨ix,tt ⟨(uU ws xs k w om),⟨⟨oK,(wC (by omega) (by omega) (by omega) (by omega))⟩,tt ⟨?_,oK⟩⟩⟩⟩
 rfl
abbrev Nq (ws xs:List Int) (k w:Int):Ct:=⟨131,(jo ws xs k w),false,(i6 (oQ 3 ws xs k w))⟩
theorem Kf (ws xs:List Int) (k w:Int) (ho:Ea ws xs 2):CC (Nq ws xs k w):=by
 obtain⟨hl,hf,hx,hin⟩:=ho
 have f0:0<ws.length→1≤ws.getD 0 0∧ws.getD 0 0≤8:=fun h=>aB hf h
 have f1:1<ws.length→1≤ws.getD 1 0∧ws.getD 1 0≤8:=fun h=>aB hf h
 have f2:2<ws.length→1≤ws.getD 2 0∧ws.getD 2 0≤8:=fun h=>aB hf h
 have a0:0<ws.length→0≤xs.getD 0 0∧xs.getD 0 0≤ap (ws.getD 0 0):=fun h=>a8 hin (by omega)
 have a1:1<ws.length→0≤xs.getD 1 0∧xs.getD 1 0≤ap (ws.getD 1 0):=fun h=>a8 hin (by omega)
 have a2:2<ws.length→0≤xs.getD 2 0∧xs.getD 2 0≤ap (ws.getD 2 0):=fun h=>a8 hin (by omega)
 have m0:0<ws.length→0≤ap (ws.getD 0 0)∧ap (ws.getD 0 0)≤255:=fun h=>az (by have:=f0 h;omega) (f0 h).2
 have m1:1<ws.length→0≤ap (ws.getD 1 0)∧ap (ws.getD 1 0)≤255:=fun h=>az (by have:=f1 h;omega) (f1 h).2
 have m2:2<ws.length→0≤ap (ws.getD 2 0)∧ap (ws.getD 2 0)≤255:=fun h=>az (by have:=f2 h;omega) (f2 h).2
 have b0:=f0 (by omega);have c0:=a0 (by omega);have d0:=m0 (by omega)
 have b1:=f1 (by omega);have c1:=a1 (by omega);have d1:=m1 (by omega)
 refine ai.vc (V:=TT 4 (IX 0 xs.length∧TT 3 (IX 1 xs.length∧TT 1 ((True∧(IntKind.wrap .i64 (BitVec.ofInt (IntKind.i64).bits (xs.getD 0 0) &&& BitVec.ofInt (IntKind.i64).bits (xs.getD 1 0)).toNat)=(((xs.getD 0 0).toNat &&& (xs.getD 1 0).toNat:Nat):Int))∧TT 2 ((((xs.getD 0 0).toNat &&& (xs.getD 1 0).toNat:Nat):Int)=(oQ 3 ws xs k w)∧True))))) (.w 1 [(8,.val (i6 (((xs.getD 0 0).toNat &&& (xs.getD 1 0).toNat:Nat):Int)))]<|.e) Tryz.func131 rfl rfl rfl (by kernel_rfl) ?_
 refine tt ⟨ix,tt ⟨ix,tt ⟨⟨oK,(D7 (by omega) (by omega) (by omega) (by omega))⟩,tt ⟨?_,oK⟩⟩⟩⟩
 rfl
abbrev Nr (ws xs:List Int) (k w:Int):Ct:=⟨132,(jo ws xs k w),false,(i6 (oQ 4 ws xs k w))⟩
theorem L7 (ws xs:List Int) (k w:Int) (ho:Ea ws xs 2):CC (Nr ws xs k w):=by
 obtain⟨hl,hf,hx,hin⟩:=ho
 have f0:0<ws.length→1≤ws.getD 0 0∧ws.getD 0 0≤8:=fun h=>aB hf h
 have f1:1<ws.length→1≤ws.getD 1 0∧ws.getD 1 0≤8:=fun h=>aB hf h
 have f2:2<ws.length→1≤ws.getD 2 0∧ws.getD 2 0≤8:=fun h=>aB hf h
 have a0:0<ws.length→0≤xs.getD 0 0∧xs.getD 0 0≤ap (ws.getD 0 0):=fun h=>a8 hin (by omega)
 have a1:1<ws.length→0≤xs.getD 1 0∧xs.getD 1 0≤ap (ws.getD 1 0):=fun h=>a8 hin (by omega)
 have a2:2<ws.length→0≤xs.getD 2 0∧xs.getD 2 0≤ap (ws.getD 2 0):=fun h=>a8 hin (by omega)
 have m0:0<ws.length→0≤ap (ws.getD 0 0)∧ap (ws.getD 0 0)≤255:=fun h=>az (by have:=f0 h;omega) (f0 h).2
 have m1:1<ws.length→0≤ap (ws.getD 1 0)∧ap (ws.getD 1 0)≤255:=fun h=>az (by have:=f1 h;omega) (f1 h).2
 have m2:2<ws.length→0≤ap (ws.getD 2 0)∧ap (ws.getD 2 0)≤255:=fun h=>az (by have:=f2 h;omega) (f2 h).2
 have b0:=f0 (by omega);have c0:=a0 (by omega);have d0:=m0 (by omega)
 have b1:=f1 (by omega);have c1:=a1 (by omega);have d1:=m1 (by omega)
 refine ai.vc (V:=TT 4 (IX 0 xs.length∧TT 3 (IX 1 xs.length∧TT 1 ((True∧(IntKind.wrap .i64 (BitVec.ofInt (IntKind.i64).bits (xs.getD 0 0) ||| BitVec.ofInt (IntKind.i64).bits (xs.getD 1 0)).toNat)=(((xs.getD 0 0).toNat ||| (xs.getD 1 0).toNat:Nat):Int))∧TT 2 ((((xs.getD 0 0).toNat ||| (xs.getD 1 0).toNat:Nat):Int)=(oQ 4 ws xs k w)∧True))))) (.w 1 [(8,.val (i6 (((xs.getD 0 0).toNat ||| (xs.getD 1 0).toNat:Nat):Int)))]<|.e) Tryz.func132 rfl rfl rfl (by kernel_rfl) ?_
 refine tt ⟨ix,tt ⟨ix,tt ⟨⟨oK,(FK (by omega) (by omega) (by omega) (by omega))⟩,tt ⟨?_,oK⟩⟩⟩⟩
 rfl
abbrev Nt (ws xs:List Int) (k w:Int):Ct:=⟨133,(jo ws xs k w),false,(i6 (oQ 5 ws xs k w))⟩
theorem Kg (ws xs:List Int) (k w:Int) (ho:Ea ws xs 2):CC (Nt ws xs k w):=by
 obtain⟨hl,hf,hx,hin⟩:=ho
 have f0:0<ws.length→1≤ws.getD 0 0∧ws.getD 0 0≤8:=fun h=>aB hf h
 have f1:1<ws.length→1≤ws.getD 1 0∧ws.getD 1 0≤8:=fun h=>aB hf h
 have f2:2<ws.length→1≤ws.getD 2 0∧ws.getD 2 0≤8:=fun h=>aB hf h
 have a0:0<ws.length→0≤xs.getD 0 0∧xs.getD 0 0≤ap (ws.getD 0 0):=fun h=>a8 hin (by omega)
 have a1:1<ws.length→0≤xs.getD 1 0∧xs.getD 1 0≤ap (ws.getD 1 0):=fun h=>a8 hin (by omega)
 have a2:2<ws.length→0≤xs.getD 2 0∧xs.getD 2 0≤ap (ws.getD 2 0):=fun h=>a8 hin (by omega)
 have m0:0<ws.length→0≤ap (ws.getD 0 0)∧ap (ws.getD 0 0)≤255:=fun h=>az (by have:=f0 h;omega) (f0 h).2
 have m1:1<ws.length→0≤ap (ws.getD 1 0)∧ap (ws.getD 1 0)≤255:=fun h=>az (by have:=f1 h;omega) (f1 h).2
 have m2:2<ws.length→0≤ap (ws.getD 2 0)∧ap (ws.getD 2 0)≤255:=fun h=>az (by have:=f2 h;omega) (f2 h).2
 have b0:=f0 (by omega);have c0:=a0 (by omega);have d0:=m0 (by omega)
 have b1:=f1 (by omega);have c1:=a1 (by omega);have d1:=m1 (by omega)
 refine ai.vc (V:=TT 4 (IX 0 xs.length∧TT 3 (IX 1 xs.length∧TT 1 ((True∧(IntKind.wrap .i64 (BitVec.ofInt (IntKind.i64).bits (xs.getD 0 0) ^^^ BitVec.ofInt (IntKind.i64).bits (xs.getD 1 0)).toNat)=(((xs.getD 0 0).toNat ^^^ (xs.getD 1 0).toNat:Nat):Int))∧TT 2 ((((xs.getD 0 0).toNat ^^^ (xs.getD 1 0).toNat:Nat):Int)=(oQ 5 ws xs k w)∧True))))) (.w 1 [(8,.val (i6 (((xs.getD 0 0).toNat ^^^ (xs.getD 1 0).toNat:Nat):Int)))]<|.e) Tryz.func133 rfl rfl rfl (by kernel_rfl) ?_
 refine tt ⟨ix,tt ⟨ix,tt ⟨⟨oK,(wC (by omega) (by omega) (by omega) (by omega))⟩,tt ⟨?_,oK⟩⟩⟩⟩
 rfl
abbrev Nu (ws xs:List Int) (k w:Int):Ct:=⟨134,(jo ws xs k w),false,(i6 (oQ 6 ws xs k w))⟩
theorem Kh (ws xs:List Int) (k w:Int) (ho:Ea ws xs 2):CC (Nu ws xs k w):=by
 obtain⟨hl,hf,hx,hin⟩:=ho
 have f0:0<ws.length→1≤ws.getD 0 0∧ws.getD 0 0≤8:=fun h=>aB hf h
 have f1:1<ws.length→1≤ws.getD 1 0∧ws.getD 1 0≤8:=fun h=>aB hf h
 have f2:2<ws.length→1≤ws.getD 2 0∧ws.getD 2 0≤8:=fun h=>aB hf h
 have a0:0<ws.length→0≤xs.getD 0 0∧xs.getD 0 0≤ap (ws.getD 0 0):=fun h=>a8 hin (by omega)
 have a1:1<ws.length→0≤xs.getD 1 0∧xs.getD 1 0≤ap (ws.getD 1 0):=fun h=>a8 hin (by omega)
 have a2:2<ws.length→0≤xs.getD 2 0∧xs.getD 2 0≤ap (ws.getD 2 0):=fun h=>a8 hin (by omega)
 have m0:0<ws.length→0≤ap (ws.getD 0 0)∧ap (ws.getD 0 0)≤255:=fun h=>az (by have:=f0 h;omega) (f0 h).2
 have m1:1<ws.length→0≤ap (ws.getD 1 0)∧ap (ws.getD 1 0)≤255:=fun h=>az (by have:=f1 h;omega) (f1 h).2
 have m2:2<ws.length→0≤ap (ws.getD 2 0)∧ap (ws.getD 2 0)≤255:=fun h=>az (by have:=f2 h;omega) (f2 h).2
 have b0:=f0 (by omega);have c0:=a0 (by omega);have d0:=m0 (by omega)
 have b1:=f1 (by omega);have c1:=a1 (by omega);have d1:=m1 (by omega)
 refine ai.vc (V:=TT 4 (IX 0 xs.length∧TT 3 (IX 1 xs.length∧TT 1 (W6 ((xs.getD 0 0)+(xs.getD 1 0))∧TT 1 (CC (A4 ws xs k w)∧(True∧(IntKind.wrap .i64 (BitVec.ofInt (IntKind.i64).bits ((xs.getD 0 0)+(xs.getD 1 0)) &&& BitVec.ofInt (IntKind.i64).bits (ap (ws.getD 0 0))).toNat)=((xs.getD 0 0+xs.getD 1 0)%2^(ws.getD 0 0).toNat))∧TT 2 (((xs.getD 0 0+xs.getD 1 0)%2^(ws.getD 0 0).toNat)=(oQ 6 ws xs k w)∧True)))))) (.w 1 [(8,.val (i6 ((xs.getD 0 0)+(xs.getD 1 0)))),(10,(A4 ws xs k w).O),(11,.val (i6 ((xs.getD 0 0+xs.getD 1 0)%2^(ws.getD 0 0).toNat)))]<|.e) Tryz.func134 rfl rfl rfl (by kernel_rfl) ?_
 refine tt ⟨ix,tt ⟨ix,tt ⟨w6,tt ⟨(uU ws xs k w om),⟨⟨oK,(by rw[dq (by omega) (by omega)];exact mm (by omega))⟩,tt ⟨?_,oK⟩⟩⟩⟩⟩⟩
 rfl
abbrev Nv (ws xs:List Int) (k w:Int):Ct:=⟨135,(jo ws xs k w),false,(i6 (oQ 7 ws xs k w))⟩
theorem Ki (ws xs:List Int) (k w:Int) (ho:Ea ws xs 2):CC (Nv ws xs k w):=by
 obtain⟨hl,hf,hx,hin⟩:=ho
 have f0:0<ws.length→1≤ws.getD 0 0∧ws.getD 0 0≤8:=fun h=>aB hf h
 have f1:1<ws.length→1≤ws.getD 1 0∧ws.getD 1 0≤8:=fun h=>aB hf h
 have f2:2<ws.length→1≤ws.getD 2 0∧ws.getD 2 0≤8:=fun h=>aB hf h
 have a0:0<ws.length→0≤xs.getD 0 0∧xs.getD 0 0≤ap (ws.getD 0 0):=fun h=>a8 hin (by omega)
 have a1:1<ws.length→0≤xs.getD 1 0∧xs.getD 1 0≤ap (ws.getD 1 0):=fun h=>a8 hin (by omega)
 have a2:2<ws.length→0≤xs.getD 2 0∧xs.getD 2 0≤ap (ws.getD 2 0):=fun h=>a8 hin (by omega)
 have m0:0<ws.length→0≤ap (ws.getD 0 0)∧ap (ws.getD 0 0)≤255:=fun h=>az (by have:=f0 h;omega) (f0 h).2
 have m1:1<ws.length→0≤ap (ws.getD 1 0)∧ap (ws.getD 1 0)≤255:=fun h=>az (by have:=f1 h;omega) (f1 h).2
 have m2:2<ws.length→0≤ap (ws.getD 2 0)∧ap (ws.getD 2 0)≤255:=fun h=>az (by have:=f2 h;omega) (f2 h).2
 have b0:=f0 (by omega);have c0:=a0 (by omega);have d0:=m0 (by omega)
 have b1:=f1 (by omega);have c1:=a1 (by omega);have d1:=m1 (by omega)
 refine ai.vc (V:=TT 4 (IX 0 xs.length∧TT 3 (IX 1 xs.length∧TT 1 (W6 ((xs.getD 0 0)-(xs.getD 1 0))∧TT 1 (CC (A4 ws xs k w)∧(True∧(IntKind.wrap .i64 (BitVec.ofInt (IntKind.i64).bits ((xs.getD 0 0)-(xs.getD 1 0)) &&& BitVec.ofInt (IntKind.i64).bits (ap (ws.getD 0 0))).toNat)=((xs.getD 0 0-xs.getD 1 0)%2^(ws.getD 0 0).toNat))∧TT 2 (((xs.getD 0 0-xs.getD 1 0)%2^(ws.getD 0 0).toNat)=(oQ 7 ws xs k w)∧True)))))) (.w 1 [(8,.val (i6 ((xs.getD 0 0)-(xs.getD 1 0)))),(10,(A4 ws xs k w).O),(11,.val (i6 ((xs.getD 0 0-xs.getD 1 0)%2^(ws.getD 0 0).toNat)))]<|.e) Tryz.func135 rfl rfl rfl (by kernel_rfl) ?_
 refine tt ⟨ix,tt ⟨ix,tt ⟨w6,tt ⟨(uU ws xs k w om),⟨⟨oK,(by rw[dq (by omega) (by omega)];exact mm (by omega))⟩,tt ⟨?_,oK⟩⟩⟩⟩⟩⟩
 rfl
abbrev Nw (ws xs:List Int) (k w:Int):Ct:=⟨137,(jo ws xs k w),false,(i6 (oQ 8 ws xs k w))⟩
theorem L8 (ws xs:List Int) (k w:Int) (ho:Ea ws xs 2):CC (Nw ws xs k w):=by
 obtain⟨hl,hf,hx,hin⟩:=ho
 have f0:0<ws.length→1≤ws.getD 0 0∧ws.getD 0 0≤8:=fun h=>aB hf h
 have f1:1<ws.length→1≤ws.getD 1 0∧ws.getD 1 0≤8:=fun h=>aB hf h
 have f2:2<ws.length→1≤ws.getD 2 0∧ws.getD 2 0≤8:=fun h=>aB hf h
 have a0:0<ws.length→0≤xs.getD 0 0∧xs.getD 0 0≤ap (ws.getD 0 0):=fun h=>a8 hin (by omega)
 have a1:1<ws.length→0≤xs.getD 1 0∧xs.getD 1 0≤ap (ws.getD 1 0):=fun h=>a8 hin (by omega)
 have a2:2<ws.length→0≤xs.getD 2 0∧xs.getD 2 0≤ap (ws.getD 2 0):=fun h=>a8 hin (by omega)
 have m0:0<ws.length→0≤ap (ws.getD 0 0)∧ap (ws.getD 0 0)≤255:=fun h=>az (by have:=f0 h;omega) (f0 h).2
 have m1:1<ws.length→0≤ap (ws.getD 1 0)∧ap (ws.getD 1 0)≤255:=fun h=>az (by have:=f1 h;omega) (f1 h).2
 have m2:2<ws.length→0≤ap (ws.getD 2 0)∧ap (ws.getD 2 0)≤255:=fun h=>az (by have:=f2 h;omega) (f2 h).2
 have b0:=f0 (by omega);have c0:=a0 (by omega);have d0:=m0 (by omega)
 have b1:=f1 (by omega);have c1:=a1 (by omega);have d1:=m1 (by omega)
 refine ai.vc (V:=TT 4 (IX 0 xs.length∧TT 3 (IX 1 xs.length∧TT 2 (CC (FN ((xs.getD 0 0)==(xs.getD 1 0)))∧TT 2 ((if ((xs.getD 0 0)==(xs.getD 1 0))=true then 1 else 0)=(oQ 8 ws xs k w)∧True))))) (.w 1 [(9,(FN ((xs.getD 0 0)==(xs.getD 1 0))).O)]<|.e) Tryz.func137 rfl rfl rfl (by kernel_rfl) ?_
 refine tt ⟨ix,tt ⟨ix,tt ⟨(FO ((xs.getD 0 0)==(xs.getD 1 0))),tt ⟨?_,oK⟩⟩⟩⟩
 show _=(if xs.getD 0 0=xs.getD 1 0 then (1:Int)else 0)
 by_cases h:xs.getD 0 0=xs.getD 1 0
 · rw[if_pos h,if_pos (by simpa using h)]
 · rw[if_neg h,if_neg (by simpa using h)]
abbrev Nx (ws xs:List Int) (k w:Int):Ct:=⟨139,(jo ws xs k w),false,(i6 (oQ 9 ws xs k w))⟩
theorem L9 (ws xs:List Int) (k w:Int) (ho:Ea ws xs 2):CC (Nx ws xs k w):=by
 obtain⟨hl,hf,hx,hin⟩:=ho
 have f0:0<ws.length→1≤ws.getD 0 0∧ws.getD 0 0≤8:=fun h=>aB hf h
 have f1:1<ws.length→1≤ws.getD 1 0∧ws.getD 1 0≤8:=fun h=>aB hf h
 have f2:2<ws.length→1≤ws.getD 2 0∧ws.getD 2 0≤8:=fun h=>aB hf h
 have a0:0<ws.length→0≤xs.getD 0 0∧xs.getD 0 0≤ap (ws.getD 0 0):=fun h=>a8 hin (by omega)
 have a1:1<ws.length→0≤xs.getD 1 0∧xs.getD 1 0≤ap (ws.getD 1 0):=fun h=>a8 hin (by omega)
 have a2:2<ws.length→0≤xs.getD 2 0∧xs.getD 2 0≤ap (ws.getD 2 0):=fun h=>a8 hin (by omega)
 have m0:0<ws.length→0≤ap (ws.getD 0 0)∧ap (ws.getD 0 0)≤255:=fun h=>az (by have:=f0 h;omega) (f0 h).2
 have m1:1<ws.length→0≤ap (ws.getD 1 0)∧ap (ws.getD 1 0)≤255:=fun h=>az (by have:=f1 h;omega) (f1 h).2
 have m2:2<ws.length→0≤ap (ws.getD 2 0)∧ap (ws.getD 2 0)≤255:=fun h=>az (by have:=f2 h;omega) (f2 h).2
 have b0:=f0 (by omega);have c0:=a0 (by omega);have d0:=m0 (by omega)
 have b1:=f1 (by omega);have c1:=a1 (by omega);have d1:=m1 (by omega)
 refine ai.vc (V:=TT 4 (IX 0 xs.length∧TT 3 (IX 1 xs.length∧TT 2 (CC (FN (decide ((xs.getD 0 0)<(xs.getD 1 0))))∧TT 2 ((if (decide ((xs.getD 0 0)<(xs.getD 1 0)))=true then 1 else 0)=(oQ 9 ws xs k w)∧True))))) (.w 1 [(9,(FN (decide ((xs.getD 0 0)<(xs.getD 1 0)))).O)]<|.e) Tryz.func139 rfl rfl rfl (by kernel_rfl) ?_
 refine tt ⟨ix,tt ⟨ix,tt ⟨(FO (decide ((xs.getD 0 0)<(xs.getD 1 0)))),tt ⟨?_,oK⟩⟩⟩⟩
 show _=(if xs.getD 0 0<xs.getD 1 0 then (1:Int)else 0)
 by_cases h:xs.getD 0 0<xs.getD 1 0
 · rw[if_pos h,if_pos (by simpa using h)]
 · rw[if_neg h,if_neg (by simpa using h)]
abbrev Ny (ws xs:List Int) (k w:Int):Ct:=⟨141,(jo ws xs k w),false,(i6 (oQ 1 ws xs k w))⟩
theorem FT (ws xs:List Int) (k w:Int) (ho:Ea ws xs 0):CC (Ny ws xs k w):=by
 obtain⟨hl,hf,hx,hin⟩:=ho
 have f0:0<ws.length→1≤ws.getD 0 0∧ws.getD 0 0≤8:=fun h=>aB hf h
 have f1:1<ws.length→1≤ws.getD 1 0∧ws.getD 1 0≤8:=fun h=>aB hf h
 have f2:2<ws.length→1≤ws.getD 2 0∧ws.getD 2 0≤8:=fun h=>aB hf h
 have a0:0<ws.length→0≤xs.getD 0 0∧xs.getD 0 0≤ap (ws.getD 0 0):=fun h=>a8 hin (by omega)
 have a1:1<ws.length→0≤xs.getD 1 0∧xs.getD 1 0≤ap (ws.getD 1 0):=fun h=>a8 hin (by omega)
 have a2:2<ws.length→0≤xs.getD 2 0∧xs.getD 2 0≤ap (ws.getD 2 0):=fun h=>a8 hin (by omega)
 have m0:0<ws.length→0≤ap (ws.getD 0 0)∧ap (ws.getD 0 0)≤255:=fun h=>az (by have:=f0 h;omega) (f0 h).2
 have m1:1<ws.length→0≤ap (ws.getD 1 0)∧ap (ws.getD 1 0)≤255:=fun h=>az (by have:=f1 h;omega) (f1 h).2
 have m2:2<ws.length→0≤ap (ws.getD 2 0)∧ap (ws.getD 2 0)≤255:=fun h=>az (by have:=f2 h;omega) (f2 h).2
 refine ai.vc (V:=TT 6 (k=(oQ 1 ws xs k w)∧True)) (.e) Tryz.func141 rfl rfl rfl (by kernel_rfl) ?_
 refine tt ⟨?_,oK⟩
 rfl
abbrev Nz (ws xs:List Int) (k w:Int):Ct:=⟨149,(jo ws xs k w),false,(i6 (oQ 13 ws xs k w))⟩
theorem Kj (ws xs:List Int) (k w:Int) (ho:Ea ws xs 1):CC (Nz ws xs k w):=by
 obtain⟨hl,hf,hx,hin⟩:=ho
 have f0:0<ws.length→1≤ws.getD 0 0∧ws.getD 0 0≤8:=fun h=>aB hf h
 have f1:1<ws.length→1≤ws.getD 1 0∧ws.getD 1 0≤8:=fun h=>aB hf h
 have f2:2<ws.length→1≤ws.getD 2 0∧ws.getD 2 0≤8:=fun h=>aB hf h
 have a0:0<ws.length→0≤xs.getD 0 0∧xs.getD 0 0≤ap (ws.getD 0 0):=fun h=>a8 hin (by omega)
 have a1:1<ws.length→0≤xs.getD 1 0∧xs.getD 1 0≤ap (ws.getD 1 0):=fun h=>a8 hin (by omega)
 have a2:2<ws.length→0≤xs.getD 2 0∧xs.getD 2 0≤ap (ws.getD 2 0):=fun h=>a8 hin (by omega)
 have m0:0<ws.length→0≤ap (ws.getD 0 0)∧ap (ws.getD 0 0)≤255:=fun h=>az (by have:=f0 h;omega) (f0 h).2
 have m1:1<ws.length→0≤ap (ws.getD 1 0)∧ap (ws.getD 1 0)≤255:=fun h=>az (by have:=f1 h;omega) (f1 h).2
 have m2:2<ws.length→0≤ap (ws.getD 2 0)∧ap (ws.getD 2 0)≤255:=fun h=>az (by have:=f2 h;omega) (f2 h).2
 have b0:=f0 (by omega);have c0:=a0 (by omega);have d0:=m0 (by omega)
 refine ai.vc (V:=TT 4 (IX 0 xs.length∧TT 3 ((xs.getD 0 0)=(oQ 13 ws xs k w)∧True))) (.e) Tryz.func149 rfl rfl rfl (by kernel_rfl) ?_
 refine tt ⟨ix,tt ⟨?_,oK⟩⟩
 rfl
abbrev NA (ws xs:List Int) (k w:Int):Ct:=⟨143,(jo ws xs k w),false,(i6 (oQ 10 ws xs k w))⟩
theorem Kk (ws xs:List Int) (k w:Int) (ho:Ea ws xs 3) (h1:ws.getD 0 0=1):CC (NA ws xs k w):=by
 obtain⟨hl,hf,hx,hin⟩:=ho
 have f0:0<ws.length→1≤ws.getD 0 0∧ws.getD 0 0≤8:=fun h=>aB hf h
 have f1:1<ws.length→1≤ws.getD 1 0∧ws.getD 1 0≤8:=fun h=>aB hf h
 have f2:2<ws.length→1≤ws.getD 2 0∧ws.getD 2 0≤8:=fun h=>aB hf h
 have a0:0<ws.length→0≤xs.getD 0 0∧xs.getD 0 0≤ap (ws.getD 0 0):=fun h=>a8 hin (by omega)
 have a1:1<ws.length→0≤xs.getD 1 0∧xs.getD 1 0≤ap (ws.getD 1 0):=fun h=>a8 hin (by omega)
 have a2:2<ws.length→0≤xs.getD 2 0∧xs.getD 2 0≤ap (ws.getD 2 0):=fun h=>a8 hin (by omega)
 have m0:0<ws.length→0≤ap (ws.getD 0 0)∧ap (ws.getD 0 0)≤255:=fun h=>az (by have:=f0 h;omega) (f0 h).2
 have m1:1<ws.length→0≤ap (ws.getD 1 0)∧ap (ws.getD 1 0)≤255:=fun h=>az (by have:=f1 h;omega) (f1 h).2
 have m2:2<ws.length→0≤ap (ws.getD 2 0)∧ap (ws.getD 2 0)≤255:=fun h=>az (by have:=f2 h;omega) (f2 h).2
 have b0:=f0 (by omega);have c0:=a0 (by omega);have d0:=m0 (by omega)
 have b1:=f1 (by omega);have c1:=a1 (by omega);have d1:=m1 (by omega)
 have b2:=f2 (by omega);have c2:=a2 (by omega);have d2:=m2 (by omega)
 have hm1:ap (ws.getD 0 0)=1:=by rw[h1];decide
 have hx0:xs.getD 0 0=0∨xs.getD 0 0=1:=by omega
 refine ai.vc (V:=TT 6 (IX 0 xs.length∧TT 1 (W6 (2-(xs.getD 0 0))∧IX (2-(xs.getD 0 0)) xs.length∧TT 3 ((xs.getD ((2-(xs.getD 0 0)).toNat) 0)=(oQ 10 ws xs k w)∧True)))) (.w 1 [(6,.val (i6 (2-(xs.getD 0 0))))]<|.e) Tryz.func143 rfl rfl rfl (by kernel_rfl) ?_
 refine tt ⟨ix,tt ⟨w6,⟨ix,tt ⟨?_,oK⟩⟩⟩⟩
 rfl
abbrev NB (ws xs:List Int) (k w:Int):Ct:=⟨145,(jo ws xs k w),false,(i6 (oQ 11 ws xs k w))⟩
theorem Kl (ws xs:List Int) (k w:Int) (ho:Ea ws xs 2):CC (NB ws xs k w):=by
 obtain⟨hl,hf,hx,hin⟩:=ho
 have f0:0<ws.length→1≤ws.getD 0 0∧ws.getD 0 0≤8:=fun h=>aB hf h
 have f1:1<ws.length→1≤ws.getD 1 0∧ws.getD 1 0≤8:=fun h=>aB hf h
 have f2:2<ws.length→1≤ws.getD 2 0∧ws.getD 2 0≤8:=fun h=>aB hf h
 have a0:0<ws.length→0≤xs.getD 0 0∧xs.getD 0 0≤ap (ws.getD 0 0):=fun h=>a8 hin (by omega)
 have a1:1<ws.length→0≤xs.getD 1 0∧xs.getD 1 0≤ap (ws.getD 1 0):=fun h=>a8 hin (by omega)
 have a2:2<ws.length→0≤xs.getD 2 0∧xs.getD 2 0≤ap (ws.getD 2 0):=fun h=>a8 hin (by omega)
 have m0:0<ws.length→0≤ap (ws.getD 0 0)∧ap (ws.getD 0 0)≤255:=fun h=>az (by have:=f0 h;omega) (f0 h).2
 have m1:1<ws.length→0≤ap (ws.getD 1 0)∧ap (ws.getD 1 0)≤255:=fun h=>az (by have:=f1 h;omega) (f1 h).2
 have m2:2<ws.length→0≤ap (ws.getD 2 0)∧ap (ws.getD 2 0)≤255:=fun h=>az (by have:=f2 h;omega) (f2 h).2
 have b0:=f0 (by omega);have c0:=a0 (by omega);have d0:=m0 (by omega)
 have b1:=f1 (by omega);have c1:=a1 (by omega);have d1:=m1 (by omega)
 refine ai.vc (V:=TT 4 (IX 0 xs.length∧TT 3 (IX 1 ws.length∧TT 1 ((0≤(ws.getD 1 0)∧(IntKind.wrap .i64 ((xs.getD 0 0)*2^min ((ws.getD 1 0).toNat) 64))=(((xs.getD 0 0).toNat*2^(ws.getD 1 0).toNat:Nat):Int))∧TT 2 (IX 1 xs.length∧TT 1 ((True∧(IntKind.wrap .i64 (BitVec.ofInt (IntKind.i64).bits (((xs.getD 0 0).toNat*2^(ws.getD 1 0).toNat:Nat):Int) ||| BitVec.ofInt (IntKind.i64).bits (xs.getD 1 0)).toNat)=(((xs.getD 0 0).toNat*2^(ws.getD 1 0).toNat ||| (xs.getD 1 0).toNat:Nat):Int))∧TT 2 ((((xs.getD 0 0).toNat*2^(ws.getD 1 0).toNat ||| (xs.getD 1 0).toNat:Nat):Int)=(oQ 11 ws xs k w)∧True))))))) (.w 1 [(8,.val (i6 (((xs.getD 0 0).toNat*2^(ws.getD 1 0).toNat:Nat):Int))),(13,.val (i6 (((xs.getD 0 0).toNat*2^(ws.getD 1 0).toNat ||| (xs.getD 1 0).toNat:Nat):Int)))]<|.e) Tryz.func145 rfl rfl rfl (by kernel_rfl) ?_
 refine tt ⟨ix,tt ⟨ix,tt ⟨⟨om,(Ic (by omega) (by omega))⟩,tt ⟨ix,tt ⟨⟨oK,(Ie (by omega) (by omega) (by omega))⟩,tt ⟨?_,oK⟩⟩⟩⟩⟩⟩
 rfl
abbrev NC (ws xs:List Int) (k w:Int):Ct:=⟨147,(jo ws xs k w),false,(i6 (oQ 12 ws xs k w))⟩
theorem FU (ws xs:List Int) (k w:Int) (ho:Ea ws xs 1) (hk:0≤k∧k≤8∧ax w=true):CC (NC ws xs k w):=by
 obtain⟨hl,hf,hx,hin⟩:=ho
 have f0:0<ws.length→1≤ws.getD 0 0∧ws.getD 0 0≤8:=fun h=>aB hf h
 have f1:1<ws.length→1≤ws.getD 1 0∧ws.getD 1 0≤8:=fun h=>aB hf h
 have f2:2<ws.length→1≤ws.getD 2 0∧ws.getD 2 0≤8:=fun h=>aB hf h
 have a0:0<ws.length→0≤xs.getD 0 0∧xs.getD 0 0≤ap (ws.getD 0 0):=fun h=>a8 hin (by omega)
 have a1:1<ws.length→0≤xs.getD 1 0∧xs.getD 1 0≤ap (ws.getD 1 0):=fun h=>a8 hin (by omega)
 have a2:2<ws.length→0≤xs.getD 2 0∧xs.getD 2 0≤ap (ws.getD 2 0):=fun h=>a8 hin (by omega)
 have m0:0<ws.length→0≤ap (ws.getD 0 0)∧ap (ws.getD 0 0)≤255:=fun h=>az (by have:=f0 h;omega) (f0 h).2
 have m1:1<ws.length→0≤ap (ws.getD 1 0)∧ap (ws.getD 1 0)≤255:=fun h=>az (by have:=f1 h;omega) (f1 h).2
 have m2:2<ws.length→0≤ap (ws.getD 2 0)∧ap (ws.getD 2 0)≤255:=fun h=>az (by have:=f2 h;omega) (f2 h).2
 have b0:=f0 (by omega);have c0:=a0 (by omega);have d0:=m0 (by omega)
 have hw:=bf.1 hk.2.2
 refine ai.vc (V:=TT 4 (IX 0 xs.length∧TT 3 ((0≤k∧(Int.fdiv (xs.getD 0 0) (2^min k.toNat 64))=(xs.getD 0 0 / 2^k.toNat))∧TT 2 (CC (xP w)∧(True∧(IntKind.wrap .i64 (BitVec.ofInt (IntKind.i64).bits (xs.getD 0 0 / 2^k.toNat) &&& BitVec.ofInt (IntKind.i64).bits (ap w)).toNat)=((xs.getD 0 0 / 2^k.toNat)%2^w.toNat))∧TT 2 (((xs.getD 0 0 / 2^k.toNat)%2^w.toNat)=(oQ 12 ws xs k w)∧True))))) (.w 1 [(6,.val (i6 (xs.getD 0 0 / 2^k.toNat))),(9,(xP w).O),(10,.val (i6 ((xs.getD 0 0 / 2^k.toNat)%2^w.toNat)))]<|.e) Tryz.func147 rfl rfl rfl (by kernel_rfl) ?_
 refine tt ⟨ix,tt ⟨⟨om,(CG hk.1 (by omega))⟩,tt ⟨(tH w),⟨⟨oK,(by rw[dq (by omega) (by omega)];exact mm (by omega))⟩,tt ⟨?_,oK⟩⟩⟩⟩⟩
 rfl
end Go.Proofs.YtckgpflobhpnpaaGreat
