/- States: the same, and the document, as bytes. -/
import Derived.Test.YtjklegmimpehlaaGreatXSt4
import Derived.Test.YtjklegmimpehlaaGreatProg
namespace Go.Proofs.YtjklegmimpehlaaGreat.Ab
open Go Go.RowKit
set_option linter.unusedVariables false
set_option linter.unusedSimpArgs false
set_option maxRecDepth 100000
set_option maxHeartbeats 8000000
theorem GC:aF Tryz.prog 8:=eN Tryz.func8
theorem P9:aF Tryz.prog 61:=eN Tryz.func61
theorem tF:aF Tryz.prog 62:=eN Tryz.func62
theorem GD:aF Tryz.prog 63:=eN Tryz.func63
theorem Bl:aF Tryz.prog 65:=eN Tryz.func65
theorem Qa:aF Tryz.prog 68:=eN Tryz.func68
theorem GE:aF Tryz.prog 69:=eN Tryz.func69
theorem Bm:aF Tryz.prog 70:=eN Tryz.func70
theorem Qb:aF Tryz.prog 71:=eN Tryz.func71
theorem Qc:aF Tryz.prog 72:=eN Tryz.func72
theorem Qd:aF Tryz.prog 73:=eN Tryz.func73
theorem Qe:aF Tryz.prog 74:=eN Tryz.func74
theorem Qf:aF Tryz.prog 75:=eN Tryz.func75
theorem Qg:aF Tryz.prog 76:=eN Tryz.func76
theorem Qh:aF Tryz.prog 77:=eN Tryz.func77
theorem Qi:aF Tryz.prog 139:=eN Tryz.func139
theorem Qj:aF Tryz.prog 140:=eN Tryz.func140
theorem Qk:aF Tryz.prog 141:=eN Tryz.func141
theorem Ql:aF Tryz.prog 142:=eN Tryz.func142
theorem Qm:aF Tryz.prog 165:=eN Tryz.func165
theorem Qn:aF Tryz.prog 166:=eN Tryz.func166
def qF (K:af→af→Option Bool) (a0:List af) (a1:List af) (cF:Int):Option (Int⊕Bool):=
 if(decide (cF<(List.length a0:Int)))=true then(gd (0≤cF) (Option.bind (a0[(Int.toNat cF)]?) (fun(x16:af)=>gd (0≤cF) (Option.bind (a1[(Int.toNat cF)]?) (fun(x19:af)=>Option.bind (K x16 x19) (fun(x21:Bool)=>if(!x21)=true then(some (Sum.inr false))else(some (Sum.inl (IntKind.i64.wrap (cF+1))))))))))else(some (Sum.inr true))
def xo (K:af→af→Option Bool) (a0:List af) (a1:List af):Option Bool:=
 if((List.length a0:Int) != (List.length a1:Int))=true then(some false)else(am (fun(s:Int)=>qF K a0 a1 s) Fu 0)
theorem Qo (K:af→af→Option Bool) (hK:∀(a0:af) (a1:af) {r:Bool},K a0 a1=some r→Ok Tryz.prog 69 [.agg [.int .i64 a0.Kind,.int .i64 a0.N,.str a0.Key,.str a0.Value,.sl 5 (List.map aj a0.Kids)],.agg [.int .i64 a1.Kind,.int .i64 a1.N,.str a1.Key,.str a1.Value,.sl 5 (List.map aj a1.Kids)]] [] [] (.bool r) [] []) (a0:List af) (a1:List af) {r:Bool} (h:xo K a0 a1=some r):Ok Tryz.prog 140 [.sl 5 (List.map aj a0),.sl 5 (List.map aj a1),.fn 69 []] [] [] (.bool r) [] []:=by
 refine oK Tryz.func140 rfl fun X=>sr fun _ k1=>rP Y<|en k1<|ai fun _ k2=>sr fun _ k3=>rP mv<|rP (zl br)<|rP mv<|rP (zl br)<|rP bi<|en k3<|wi 14 h (fun c4 h=>?_) fun c4 h=>?_
 ·refine sr fun _ k5=>rP Y<|en k5<|ac<|by cases h;exact rk
 ·refine aq<|k2 _<|ai fun _ k6=>sr fun _ k7=>rP mv<|rP (zl br)<|rP mv<|en k7<|ax<|bv (fun m s=>∃(cF:Int),am (fun(s:Int)=>qF K a0 a1 s) m cF=some r∧s=lit [(1,.sl 5 (List.map aj a1)),(2,.fn 69 []),(15,.sl 5 (List.map aj a0)),(16,.int .i64 (List.length a0:Int)),(17,.int .i64 cF)] [] [] X) Fu
   ⟨_,ra [],0,h,rfl⟩ ?_
  rintro m s ⟨cF,h,rfl⟩
  obtain⟨m0,q8,rfl,h,hq9⟩:=bu h
  replace h:qF K a0 a1 cF=some q8:=h
  refine sr fun _ k10=>rP bi<|en k10<|ai fun _ k11=>wi 18 h (fun c12 h=>?_) fun c12 h=>?_
  ·refine aq<|k11 _<|ai fun _ k13=>ax<|sr fun _ k14=>rP mv<|gE h fun g15 h=>bE h fun x16 y16 h=>rP (i1 (el:=.agg [.int .i64 x16.Kind,.int .i64 x16.N,.str x16.Key,.str x16.Value,.sl 5 (List.map aj x16.Kids)]) W_ W_ br ar g15 (by exact kB (iI _) y16))<|pl 21 (.agg [.int .i64 x16.Kind,.int .i64 x16.N,.str x16.Key,.str x16.Value,.sl 5 (List.map aj x16.Kids)]) ar<|rD (nw ar)<|rP Y<|pZ (aA [.int .i64 x16.Kind,.int .i64 x16.N,.str x16.Key,.str x16.Value,.sl 5 (List.map aj x16.Kids)] ar)<|en k14<|sr fun _ k17=>rP mv<|rP mv<|gE h fun g18 h=>bE h fun x19 y19 h=>rP (i1 (el:=.agg [.int .i64 x19.Kind,.int .i64 x19.N,.str x19.Key,.str x19.Value,.sl 5 (List.map aj x19.Kids)]) W_ W_ br ar g18 (by exact kB (iI _) y19))<|pl 25 (.agg [.int .i64 x19.Kind,.int .i64 x19.N,.str x19.Key,.str x19.Value,.sl 5 (List.map aj x19.Kids)]) ar<|rD (nw ar)<|pZ (aA [.int .i64 x19.Kind,.int .i64 x19.N,.str x19.Key,.str x19.Value,.sl 5 (List.map aj x19.Kids)] ar)<|en k17<|sr fun _ k20=>rP mv<|pl 27 (.agg [.int .i64 x16.Kind,.int .i64 x16.N,.str x16.Key,.str x16.Value,.sl 5 (List.map aj x16.Kids)]) ar<|pl 28 (.agg [.int .i64 x19.Kind,.int .i64 x19.N,.str x19.Key,.str x19.Value,.sl 5 (List.map aj x19.Kids)]) ar<|bE h fun x21 y21 h=>rD (cZ (hK x16 x19 y21) GE)<|rP un<|en k20<|wi 30 h (fun c22 h=>?_) fun c22 h=>?_
   ·refine sr fun _ k23=>rP Y<|en k23<|ac<|by cases ah h hq9;exact rk
   ·refine aq<|k13 _<|aB<|rP bi<|rP mv<|aM<|bk (ra []) ⟨(IntKind.i64.wrap (cF+1)),aI h hq9,rfl⟩
  ·refine bc<|tk (ah h hq9) fun h=>k6 _<|sr fun _ k24=>rP Y<|en k24<|ac<|by cases h;exact rk
def Bn (K:af→af→Option Bool) (a0:af) (a1:af):Option Bool:=
 if(a0.Kind == a1.Kind)=true then(if(a0.N == a1.N)=true then(if(ByteArray.toList a0.Key == ByteArray.toList a1.Key)=true then(if(ByteArray.toList a0.Value == ByteArray.toList a1.Value)=true then(Option.bind (xo K a0.Kids a1.Kids) (fun(x7:Bool)=>some x7))else(some false))else(some false))else(some false))else(some false)
theorem Qp (K:af→af→Option Bool) (hK:∀(a0:af) (a1:af) {r:Bool},K a0 a1=some r→Ok Tryz.prog 69 [.agg [.int .i64 a0.Kind,.int .i64 a0.N,.str a0.Key,.str a0.Value,.sl 5 (List.map aj a0.Kids)],.agg [.int .i64 a1.Kind,.int .i64 a1.N,.str a1.Key,.str a1.Value,.sl 5 (List.map aj a1.Kids)]] [] [] (.bool r) [] []) (a0:af) (a1:af) {r:Bool} (h:Bn K a0 a1=some r):Ok Tryz.prog 69 [.agg [.int .i64 a0.Kind,.int .i64 a0.N,.str a0.Key,.str a0.Value,.sl 5 (List.map aj a0.Kids)],.agg [.int .i64 a1.Kind,.int .i64 a1.N,.str a1.Key,.str a1.Value,.sl 5 (List.map aj a1.Kids)]] [] [] (.bool r) [] []:=by
 refine oK Tryz.func69 rfl fun X=>sr fun _ k1=>rD (bY W_ rfl rfl)<|rD (bY W_ rfl rfl)<|rP Y<|en k1<|sr fun _ k2=>rP (fa ar ae)<|rX (ld ae)<|rP (fa ar ae)<|rX (ld ae)<|rP bi<|rP mv<|li 10 h (fun c3 h=>?_) fun c3 h=>?_
 ·refine rP (fa ar ae)<|rX (ld ae)<|rP (fa ar ae)<|rX (ld ae)<|rP bi<|rP pc<|rP mv<|li 17 h (fun c4 h=>?_) fun c4 h=>?_
  ·refine rP (fa ar ap)<|rX (ld ap)<|rP (fa ar ap)<|rX (ld ap)<|rP bi<|rP pc<|rP mv<|li 24 h (fun c5 h=>?_) fun c5 h=>?_
   ·refine rP (fa ar ap)<|rX (ld ap)<|rP (fa ar ap)<|rX (ld ap)<|rP bi<|rP pc<|rP mv<|li 31 h (fun c6 h=>?_) fun c6 h=>?_
    ·refine rP (fa ar br)<|rX (ld br)<|rP (fa ar br)<|rX (ld br)<|bE h fun x7 y7 h=>rD (cz (.bool x7) (Qo K hK a0.Kids a1.Kids y7) Qj)<|rP pc<|rP Y<|en k2<|ac<|by cases h;exact rk
    ·refine rS<|rS<|rS<|rS<|rS<|rP pc<|rP Y<|en k2<|ac<|by cases h;exact rk
   ·refine rS<|rS<|rS<|rS<|rS<|rP pc<|rP mv<|rS<|rS<|rS<|rS<|rS<|rP pc<|rP Y<|en k2<|ac<|by cases h;exact rk
  ·refine rS<|rS<|rS<|rS<|rS<|rP pc<|rP mv<|rS<|rS<|rS<|rS<|rS<|rP pc<|rP mv<|rS<|rS<|rS<|rS<|rS<|rP pc<|rP Y<|en k2<|ac<|by cases h;exact rk
 ·refine rS<|rS<|rS<|rS<|rS<|rP pc<|rP mv<|rS<|rS<|rS<|rS<|rS<|rP pc<|rP mv<|rS<|rS<|rS<|rS<|rS<|rP pc<|rP mv<|rS<|rS<|rS<|rS<|rS<|rP pc<|rP Y<|en k2<|ac<|by cases h;exact rk
def mS:Nat→af→af→Option Bool
 | 0,_,_=>none
 | n+1,a0,a1=>Bn (mS n) a0 a1
theorem GF:∀(n:Nat) (a0:af) (a1:af) {r:Bool},mS n a0 a1=some r→Ok Tryz.prog 69 [.agg [.int .i64 a0.Kind,.int .i64 a0.N,.str a0.Key,.str a0.Value,.sl 5 (List.map aj a0.Kids)],.agg [.int .i64 a1.Kind,.int .i64 a1.N,.str a1.Key,.str a1.Value,.sl 5 (List.map aj a1.Kids)]] [] [] (.bool r) [] []
 | 0,_,_,_,h=>by simp[mS]at h
 | n+1,a0,a1,_,h=>Qp (mS n) (GF n) a0 a1 h
def Bo (a0:af) (a1:af):Option Bool:=mS Fu a0 a1
theorem Qq (a0:af) (a1:af) {r:Bool} (h:Bo a0 a1=some r):Ok Tryz.prog 69 [.agg [.int .i64 a0.Kind,.int .i64 a0.N,.str a0.Key,.str a0.Value,.sl 5 (List.map aj a0.Kids)],.agg [.int .i64 a1.Kind,.int .i64 a1.N,.str a1.Key,.str a1.Value,.sl 5 (List.map aj a1.Kids)]] [] [] (.bool r) [] []:=GF Fu a0 a1 h
def tG (a0:List bf) (a1:List bf) (bZ:Int):Option (Int⊕Bool):=
 if(decide (bZ<(List.length a0:Int)))=true then(gd (0≤bZ) (Option.bind (a0[(Int.toNat bZ)]?) (fun(x17:bf)=>gd (0≤bZ) (Option.bind (a1[(Int.toNat bZ)]?) (fun(x19:bf)=>if(!((ByteArray.toList x17.Key == ByteArray.toList x19.Key)&&((ByteArray.toList x17.Value == ByteArray.toList x19.Value)&&true)))=true then(some (Sum.inr false))else(some (Sum.inl (IntKind.i64.wrap (bZ+1)))))))))else(some (Sum.inr true))
def tH (a0:List bf) (a1:List bf):Option Bool:=
 if((List.length a0:Int) != (List.length a1:Int))=true then(some false)else(am (fun(s:Int)=>tG a0 a1 s) Fu 0)
theorem Qr (a0:List bf) (a1:List bf) {r:Bool} (h:tH a0 a1=some r):Ok Tryz.prog 166 [.sl 2 (List.map ce a0),.sl 2 (List.map ce a1)] [] [] (.bool r) [] []:=by
 refine oK Tryz.func166 rfl fun X=>sr fun _ k1=>rP Y<|en k1<|ai fun _ k2=>sr fun _ k3=>rP mv<|rP (zl bA)<|rP mv<|rP (zl bA)<|rP bi<|en k3<|wi 10 h (fun c4 h=>?_) fun c4 h=>?_
 ·refine sr fun _ k5=>rP Y<|en k5<|ac<|by cases h;exact rk
 ·refine aq<|k2 _<|ai fun _ k6=>sr fun _ k7=>rP mv<|rP (zl bA)<|rP mv<|en k7<|ax<|bv (fun m s=>∃(bZ:Int),am (fun(s:Int)=>tG a0 a1 s) m bZ=some r∧s=lit [(0,.sl 2 (List.map ce a0)),(1,.sl 2 (List.map ce a1)),(12,.int .i64 (List.length a0:Int)),(13,.int .i64 bZ)] [] [] X) Fu
   ⟨_,ra [],0,h,rfl⟩ ?_
  rintro m s ⟨bZ,h,rfl⟩
  obtain⟨m0,q8,rfl,h,hq9⟩:=bu h
  replace h:tG a0 a1 bZ=some q8:=h
  refine sr fun _ k10=>rP bi<|en k10<|ai fun _ k11=>wi 14 h (fun c12 h=>?_) fun c12 h=>?_
  ·refine aq<|k11 _<|ai fun _ k13=>ax<|sr fun _ k14=>rP mv<|rP Y<|en k14<|ai fun _ k15=>cD (by kernel_rfl) (by decide +kernel)<|tP mv<|tP mv<|gE h fun g16 h=>bE h fun x17 y17 h=>tP (ia bA cM g16 y17)<|tR (cu (v:=.agg [.str x17.Key,.str x17.Value]) W_ W_ cM R_)<|tP mv<|tP mv<|gE h fun g18 h=>bE h fun x19 y19 h=>tP (ia bA cM g18 y19)<|tR (cu (v:=.agg [.str x19.Key,.str x19.Value]) W_ W_ cM R_)<|tP (hY (v:=.bool (!((ByteArray.toList x17.Key == ByteArray.toList x19.Key)&&((ByteArray.toList x17.Value == ByteArray.toList x19.Value)&&true)))) W_ W_ F5 rfl F6 F7 W_ rfl)<|cc (by kernel_rfl)<|k15 _<|wi 24 h (fun c20 h=>?_) fun c20 h=>?_
   ·refine sr fun _ k21=>rP Y<|en k21<|ac<|by cases ah h hq9;exact rk
   ·refine aq<|k13 _<|aB<|rP bi<|rP mv<|aM<|bk (ra []) ⟨(IntKind.i64.wrap (bZ+1)),aI h hq9,rfl⟩
  ·refine bc<|tk (ah h hq9) fun h=>k6 _<|sr fun _ k22=>rP Y<|en k22<|ac<|by cases h;exact rk
def jr (a0:aL) (a1:aL):Option Bool:=
 if((a0.Trace.Hi == a1.Trace.Hi)&&((a0.Trace.Lo == a1.Trace.Lo)&&true))=true then(if(a0.Id == a1.Id)=true then(if(a0.Parent == a1.Parent)=true then(if(ByteArray.toList a0.Service == ByteArray.toList a1.Service)=true then(if(ByteArray.toList a0.Op == ByteArray.toList a1.Op)=true then(if(a0.Start == a1.Start)=true then(if(a0.Dur == a1.Dur)=true then(if(a0.Err == a1.Err)=true then(Option.bind (tH a0.Attrs a1.Attrs) (fun(x11:Bool)=>some x11))else(some false))else(some false))else(some false))else(some false))else(some false))else(some false))else(some false))else(some false)
theorem Qs (a0:aL) (a1:aL) {r:Bool} (h:jr a0 a1=some r):Ok Tryz.prog 142 [.agg [.int .u64 a0.Trace.Hi,.int .u64 a0.Trace.Lo,.int .u64 a0.Id,.int .u64 a0.Parent,.str a0.Service,.str a0.Op,.int .i64 a0.Start,.int .i64 a0.Dur,.bool a0.Err,.sl 2 (List.map ce a0.Attrs)],.agg [.int .u64 a1.Trace.Hi,.int .u64 a1.Trace.Lo,.int .u64 a1.Id,.int .u64 a1.Parent,.str a1.Service,.str a1.Op,.int .i64 a1.Start,.int .i64 a1.Dur,.bool a1.Err,.sl 2 (List.map ce a1.Attrs)]] [] [] (.bool r) [] []:=by
 refine oK Tryz.func142 rfl fun X=>sr fun _ k1=>rD (bY W_ rfl rfl)<|rD (bY W_ rfl rfl)<|rP Y<|en k1<|sr fun _ k2=>rP (fa aJ bX)<|pl 6 (.agg [.int .u64 a0.Trace.Hi,.int .u64 a0.Trace.Lo]) bX<|rP (fa aJ bX)<|pl 8 (.agg [.int .u64 a1.Trace.Hi,.int .u64 a1.Trace.Lo]) bX<|rP (hY (v:=.bool ((a0.Trace.Hi == a1.Trace.Hi)&&((a0.Trace.Lo == a1.Trace.Lo)&&true))) W_ W_ qd rfl qe qg W_ rfl)<|rP mv<|li 10 h (fun c3 h=>?_) fun c3 h=>?_
 ·refine rP (fa aJ bd)<|rX (ld bd)<|rP (fa aJ bd)<|rX (ld bd)<|rP bi<|rP pc<|rP mv<|li 17 h (fun c4 h=>?_) fun c4 h=>?_
  ·refine rP (fa aJ bd)<|rX (ld bd)<|rP (fa aJ bd)<|rX (ld bd)<|rP bi<|rP pc<|rP mv<|li 24 h (fun c5 h=>?_) fun c5 h=>?_
   ·refine rP (fa aJ ap)<|rX (ld ap)<|rP (fa aJ ap)<|rX (ld ap)<|rP bi<|rP pc<|rP mv<|li 31 h (fun c6 h=>?_) fun c6 h=>?_
    ·refine rP (fa aJ ap)<|rX (ld ap)<|rP (fa aJ ap)<|rX (ld ap)<|rP bi<|rP pc<|rP mv<|li 38 h (fun c7 h=>?_) fun c7 h=>?_
     ·refine rP (fa aJ ae)<|rX (ld ae)<|rP (fa aJ ae)<|rX (ld ae)<|rP bi<|rP pc<|rP mv<|li 45 h (fun c8 h=>?_) fun c8 h=>?_
      ·refine rP (fa aJ ae)<|rX (ld ae)<|rP (fa aJ ae)<|rX (ld ae)<|rP bi<|rP pc<|rP mv<|li 52 h (fun c9 h=>?_) fun c9 h=>?_
       ·refine rP (fa aJ aN)<|rX (ld aN)<|rP (fa aJ aN)<|rX (ld aN)<|rP (oV (v:=.bool (a0.Err == a1.Err)) W_ W_ (oW aN) rfl)<|rP pc<|rP mv<|li 59 h (fun c10 h=>?_) fun c10 h=>?_
        ·refine rP (fa aJ bA)<|rX (ld bA)<|rP (fa aJ bA)<|rX (ld bA)<|bE h fun x11 y11 h=>rD (cz (.bool x11) (Qr a0.Attrs a1.Attrs y11) Qn)<|rP pc<|rP Y<|en k2<|ac<|by cases h;exact rk
        ·refine rS<|rS<|rS<|rS<|rS<|rP pc<|rP Y<|en k2<|ac<|by cases h;exact rk
       ·refine rS<|rS<|rS<|rS<|rS<|rP pc<|rP mv<|rS<|rS<|rS<|rS<|rS<|rP pc<|rP Y<|en k2<|ac<|by cases h;exact rk
      ·refine rS<|rS<|rS<|rS<|rS<|rP pc<|rP mv<|rS<|rS<|rS<|rS<|rS<|rP pc<|rP mv<|rS<|rS<|rS<|rS<|rS<|rP pc<|rP Y<|en k2<|ac<|by cases h;exact rk
     ·refine rS<|rS<|rS<|rS<|rS<|rP pc<|rP mv<|rS<|rS<|rS<|rS<|rS<|rP pc<|rP mv<|rS<|rS<|rS<|rS<|rS<|rP pc<|rP mv<|rS<|rS<|rS<|rS<|rS<|rP pc<|rP Y<|en k2<|ac<|by cases h;exact rk
    ·refine rS<|rS<|rS<|rS<|rS<|rP pc<|rP mv<|rS<|rS<|rS<|rS<|rS<|rP pc<|rP mv<|rS<|rS<|rS<|rS<|rS<|rP pc<|rP mv<|rS<|rS<|rS<|rS<|rS<|rP pc<|rP mv<|rS<|rS<|rS<|rS<|rS<|rP pc<|rP Y<|en k2<|ac<|by cases h;exact rk
   ·refine rS<|rS<|rS<|rS<|rS<|rP pc<|rP mv<|rS<|rS<|rS<|rS<|rS<|rP pc<|rP mv<|rS<|rS<|rS<|rS<|rS<|rP pc<|rP mv<|rS<|rS<|rS<|rS<|rS<|rP pc<|rP mv<|rS<|rS<|rS<|rS<|rS<|rP pc<|rP mv<|rS<|rS<|rS<|rS<|rS<|rP pc<|rP Y<|en k2<|ac<|by cases h;exact rk
  ·refine rS<|rS<|rS<|rS<|rS<|rP pc<|rP mv<|rS<|rS<|rS<|rS<|rS<|rP pc<|rP mv<|rS<|rS<|rS<|rS<|rS<|rP pc<|rP mv<|rS<|rS<|rS<|rS<|rS<|rP pc<|rP mv<|rS<|rS<|rS<|rS<|rS<|rP pc<|rP mv<|rS<|rS<|rS<|rS<|rS<|rP pc<|rP mv<|rS<|rS<|rS<|rS<|rS<|rP pc<|rP Y<|en k2<|ac<|by cases h;exact rk
 ·refine rS<|rS<|rS<|rS<|rS<|rP pc<|rP mv<|rS<|rS<|rS<|rS<|rS<|rP pc<|rP mv<|rS<|rS<|rS<|rS<|rS<|rP pc<|rP mv<|rS<|rS<|rS<|rS<|rS<|rP pc<|rP mv<|rS<|rS<|rS<|rS<|rS<|rP pc<|rP mv<|rS<|rS<|rS<|rS<|rS<|rP pc<|rP mv<|rS<|rS<|rS<|rS<|rS<|rP pc<|rP mv<|rS<|rS<|rS<|rS<|rS<|rP pc<|rP Y<|en k2<|ac<|by cases h;exact rk
def tI (a0:List aL) (a1:List aL) (cF:Int):Option (Int⊕Bool):=
 if(decide (cF<(List.length a0:Int)))=true then(gd (0≤cF) (Option.bind (a0[(Int.toNat cF)]?) (fun(x16:aL)=>gd (0≤cF) (Option.bind (a1[(Int.toNat cF)]?) (fun(x19:aL)=>Option.bind (jr x16 x19) (fun(x21:Bool)=>if(!x21)=true then(some (Sum.inr false))else(some (Sum.inl (IntKind.i64.wrap (cF+1))))))))))else(some (Sum.inr true))
def Bp (a0:List aL) (a1:List aL):Option Bool:=
 if((List.length a0:Int) != (List.length a1:Int))=true then(some false)else(am (fun(s:Int)=>tI a0 a1 s) Fu 0)
theorem Qt (a0:List aL) (a1:List aL) {r:Bool} (h:Bp a0 a1=some r):Ok Tryz.prog 141 [.sl 10 (List.map ch a0),.sl 10 (List.map ch a1),.fn 142 []] [] [] (.bool r) [] []:=by
 refine oK Tryz.func141 rfl fun X=>sr fun _ k1=>rP Y<|en k1<|ai fun _ k2=>sr fun _ k3=>rP mv<|rP (zl bN)<|rP mv<|rP (zl bN)<|rP bi<|en k3<|wi 14 h (fun c4 h=>?_) fun c4 h=>?_
 ·refine sr fun _ k5=>rP Y<|en k5<|ac<|by cases h;exact rk
 ·refine aq<|k2 _<|ai fun _ k6=>sr fun _ k7=>rP mv<|rP (zl bN)<|rP mv<|en k7<|ax<|bv (fun m s=>∃(cF:Int),am (fun(s:Int)=>tI a0 a1 s) m cF=some r∧s=lit [(1,.sl 10 (List.map ch a1)),(2,.fn 142 []),(15,.sl 10 (List.map ch a0)),(16,.int .i64 (List.length a0:Int)),(17,.int .i64 cF)] [] [] X) Fu
   ⟨_,ra [],0,h,rfl⟩ ?_
  rintro m s ⟨cF,h,rfl⟩
  obtain⟨m0,q8,rfl,h,hq9⟩:=bu h
  replace h:tI a0 a1 cF=some q8:=h
  refine sr fun _ k10=>rP bi<|en k10<|ai fun _ k11=>wi 18 h (fun c12 h=>?_) fun c12 h=>?_
  ·refine aq<|k11 _<|ai fun _ k13=>ax<|sr fun _ k14=>rP mv<|gE h fun g15 h=>bE h fun x16 y16 h=>rP (ia bN aJ g15 y16)<|pl 21 (.agg [.int .u64 x16.Trace.Hi,.int .u64 x16.Trace.Lo,.int .u64 x16.Id,.int .u64 x16.Parent,.str x16.Service,.str x16.Op,.int .i64 x16.Start,.int .i64 x16.Dur,.bool x16.Err,.sl 2 (List.map ce x16.Attrs)]) aJ<|rD (nw aJ)<|rP Y<|pZ (aA [.int .u64 x16.Trace.Hi,.int .u64 x16.Trace.Lo,.int .u64 x16.Id,.int .u64 x16.Parent,.str x16.Service,.str x16.Op,.int .i64 x16.Start,.int .i64 x16.Dur,.bool x16.Err,.sl 2 (List.map ce x16.Attrs)] aJ)<|en k14<|sr fun _ k17=>rP mv<|rP mv<|gE h fun g18 h=>bE h fun x19 y19 h=>rP (ia bN aJ g18 y19)<|pl 25 (.agg [.int .u64 x19.Trace.Hi,.int .u64 x19.Trace.Lo,.int .u64 x19.Id,.int .u64 x19.Parent,.str x19.Service,.str x19.Op,.int .i64 x19.Start,.int .i64 x19.Dur,.bool x19.Err,.sl 2 (List.map ce x19.Attrs)]) aJ<|rD (nw aJ)<|pZ (aA [.int .u64 x19.Trace.Hi,.int .u64 x19.Trace.Lo,.int .u64 x19.Id,.int .u64 x19.Parent,.str x19.Service,.str x19.Op,.int .i64 x19.Start,.int .i64 x19.Dur,.bool x19.Err,.sl 2 (List.map ce x19.Attrs)] aJ)<|en k17<|sr fun _ k20=>rP mv<|pl 27 (.agg [.int .u64 x16.Trace.Hi,.int .u64 x16.Trace.Lo,.int .u64 x16.Id,.int .u64 x16.Parent,.str x16.Service,.str x16.Op,.int .i64 x16.Start,.int .i64 x16.Dur,.bool x16.Err,.sl 2 (List.map ce x16.Attrs)]) aJ<|pl 28 (.agg [.int .u64 x19.Trace.Hi,.int .u64 x19.Trace.Lo,.int .u64 x19.Id,.int .u64 x19.Parent,.str x19.Service,.str x19.Op,.int .i64 x19.Start,.int .i64 x19.Dur,.bool x19.Err,.sl 2 (List.map ce x19.Attrs)]) aJ<|bE h fun x21 y21 h=>rD (cZ (Qs x16 x19 y21) Ql)<|rP un<|en k20<|wi 30 h (fun c22 h=>?_) fun c22 h=>?_
   ·refine sr fun _ k23=>rP Y<|en k23<|ac<|by cases ah h hq9;exact rk
   ·refine aq<|k13 _<|aB<|rP bi<|rP mv<|aM<|bk (ra []) ⟨(IntKind.i64.wrap (cF+1)),aI h hq9,rfl⟩
  ·refine bc<|tk (ah h hq9) fun h=>k6 _<|sr fun _ k24=>rP Y<|en k24<|ac<|by cases h;exact rk
def xp (a0:az) (a1:az):Option Bool:=
 if((a0.Trace.Hi == a1.Trace.Hi)&&((a0.Trace.Lo == a1.Trace.Lo)&&true))=true then(if(a0.First == a1.First)=true then(if(a0.Last == a1.Last)=true then(if(a0.Sure == a1.Sure)=true then(Option.bind (Bp a0.Spans a1.Spans) (fun(x7:Bool)=>some x7))else(some false))else(some false))else(some false))else(some false)
theorem Qu (a0:az) (a1:az) {r:Bool} (h:xp a0 a1=some r):Ok Tryz.prog 71 [.agg [.int .u64 a0.Trace.Hi,.int .u64 a0.Trace.Lo,.int .i64 a0.First,.int .i64 a0.Last,.bool a0.Sure,.sl 10 (List.map ch a0.Spans)],.agg [.int .u64 a1.Trace.Hi,.int .u64 a1.Trace.Lo,.int .i64 a1.First,.int .i64 a1.Last,.bool a1.Sure,.sl 10 (List.map ch a1.Spans)]] [] [] (.bool r) [] []:=by
 refine oK Tryz.func71 rfl fun X=>sr fun _ k1=>rD (bY W_ rfl rfl)<|rD (bY W_ rfl rfl)<|rP Y<|en k1<|sr fun _ k2=>rP (fa aZ bX)<|pl 6 (.agg [.int .u64 a0.Trace.Hi,.int .u64 a0.Trace.Lo]) bX<|rP (fa aZ bX)<|pl 8 (.agg [.int .u64 a1.Trace.Hi,.int .u64 a1.Trace.Lo]) bX<|rP (hY (v:=.bool ((a0.Trace.Hi == a1.Trace.Hi)&&((a0.Trace.Lo == a1.Trace.Lo)&&true))) W_ W_ qd rfl qe qg W_ rfl)<|rP mv<|li 10 h (fun c3 h=>?_) fun c3 h=>?_
 ·refine rP (fa aZ ae)<|rX (ld ae)<|rP (fa aZ ae)<|rX (ld ae)<|rP bi<|rP pc<|rP mv<|li 17 h (fun c4 h=>?_) fun c4 h=>?_
  ·refine rP (fa aZ ae)<|rX (ld ae)<|rP (fa aZ ae)<|rX (ld ae)<|rP bi<|rP pc<|rP mv<|li 24 h (fun c5 h=>?_) fun c5 h=>?_
   ·refine rP (fa aZ aN)<|rX (ld aN)<|rP (fa aZ aN)<|rX (ld aN)<|rP (oV (v:=.bool (a0.Sure == a1.Sure)) W_ W_ (oW aN) rfl)<|rP pc<|rP mv<|li 31 h (fun c6 h=>?_) fun c6 h=>?_
    ·refine rP (fa aZ bN)<|rX (ld bN)<|rP (fa aZ bN)<|rX (ld bN)<|bE h fun x7 y7 h=>rD (cz (.bool x7) (Qt a0.Spans a1.Spans y7) Qk)<|rP pc<|rP Y<|en k2<|ac<|by cases h;exact rk
    ·refine rS<|rS<|rS<|rS<|rS<|rP pc<|rP Y<|en k2<|ac<|by cases h;exact rk
   ·refine rS<|rS<|rS<|rS<|rS<|rP pc<|rP mv<|rS<|rS<|rS<|rS<|rS<|rP pc<|rP Y<|en k2<|ac<|by cases h;exact rk
  ·refine rS<|rS<|rS<|rS<|rS<|rP pc<|rP mv<|rS<|rS<|rS<|rS<|rS<|rP pc<|rP mv<|rS<|rS<|rS<|rS<|rS<|rP pc<|rP Y<|en k2<|ac<|by cases h;exact rk
 ·refine rS<|rS<|rS<|rS<|rS<|rP pc<|rP mv<|rS<|rS<|rS<|rS<|rS<|rP pc<|rP mv<|rS<|rS<|rS<|rS<|rS<|rP pc<|rP mv<|rS<|rS<|rS<|rS<|rS<|rP pc<|rP Y<|en k2<|ac<|by cases h;exact rk
def tJ (a0:List az) (a1:List az) (cF:Int):Option (Int⊕Bool):=
 if(decide (cF<(List.length a0:Int)))=true then(gd (0≤cF) (Option.bind (a0[(Int.toNat cF)]?) (fun(x16:az)=>gd (0≤cF) (Option.bind (a1[(Int.toNat cF)]?) (fun(x19:az)=>Option.bind (xp x16 x19) (fun(x21:Bool)=>if(!x21)=true then(some (Sum.inr false))else(some (Sum.inl (IntKind.i64.wrap (cF+1))))))))))else(some (Sum.inr true))
def tK (a0:List az) (a1:List az):Option Bool:=
 if((List.length a0:Int) != (List.length a1:Int))=true then(some false)else(am (fun(s:Int)=>tJ a0 a1 s) Fu 0)
theorem Bq (a0:List az) (a1:List az) {r:Bool} (h:tK a0 a1=some r):Ok Tryz.prog 70 [.sl 6 (List.map ak a0),.sl 6 (List.map ak a1),.fn 71 []] [] [] (.bool r) [] []:=by
 refine oK Tryz.func70 rfl fun X=>sr fun _ k1=>rP Y<|en k1<|ai fun _ k2=>sr fun _ k3=>rP mv<|rP (zl bp)<|rP mv<|rP (zl bp)<|rP bi<|en k3<|wi 14 h (fun c4 h=>?_) fun c4 h=>?_
 ·refine sr fun _ k5=>rP Y<|en k5<|ac<|by cases h;exact rk
 ·refine aq<|k2 _<|ai fun _ k6=>sr fun _ k7=>rP mv<|rP (zl bp)<|rP mv<|en k7<|ax<|bv (fun m s=>∃(cF:Int),am (fun(s:Int)=>tJ a0 a1 s) m cF=some r∧s=lit [(1,.sl 6 (List.map ak a1)),(2,.fn 71 []),(15,.sl 6 (List.map ak a0)),(16,.int .i64 (List.length a0:Int)),(17,.int .i64 cF)] [] [] X) Fu
   ⟨_,ra [],0,h,rfl⟩ ?_
  rintro m s ⟨cF,h,rfl⟩
  obtain⟨m0,q8,rfl,h,hq9⟩:=bu h
  replace h:tJ a0 a1 cF=some q8:=h
  refine sr fun _ k10=>rP bi<|en k10<|ai fun _ k11=>wi 18 h (fun c12 h=>?_) fun c12 h=>?_
  ·refine aq<|k11 _<|ai fun _ k13=>ax<|sr fun _ k14=>rP mv<|gE h fun g15 h=>bE h fun x16 y16 h=>rP (ia bp aZ g15 y16)<|pl 21 (.agg [.int .u64 x16.Trace.Hi,.int .u64 x16.Trace.Lo,.int .i64 x16.First,.int .i64 x16.Last,.bool x16.Sure,.sl 10 (List.map ch x16.Spans)]) aZ<|rD (nw aZ)<|rP Y<|pZ (aA [.int .u64 x16.Trace.Hi,.int .u64 x16.Trace.Lo,.int .i64 x16.First,.int .i64 x16.Last,.bool x16.Sure,.sl 10 (List.map ch x16.Spans)] aZ)<|en k14<|sr fun _ k17=>rP mv<|rP mv<|gE h fun g18 h=>bE h fun x19 y19 h=>rP (ia bp aZ g18 y19)<|pl 25 (.agg [.int .u64 x19.Trace.Hi,.int .u64 x19.Trace.Lo,.int .i64 x19.First,.int .i64 x19.Last,.bool x19.Sure,.sl 10 (List.map ch x19.Spans)]) aZ<|rD (nw aZ)<|pZ (aA [.int .u64 x19.Trace.Hi,.int .u64 x19.Trace.Lo,.int .i64 x19.First,.int .i64 x19.Last,.bool x19.Sure,.sl 10 (List.map ch x19.Spans)] aZ)<|en k17<|sr fun _ k20=>rP mv<|pl 27 (.agg [.int .u64 x16.Trace.Hi,.int .u64 x16.Trace.Lo,.int .i64 x16.First,.int .i64 x16.Last,.bool x16.Sure,.sl 10 (List.map ch x16.Spans)]) aZ<|pl 28 (.agg [.int .u64 x19.Trace.Hi,.int .u64 x19.Trace.Lo,.int .i64 x19.First,.int .i64 x19.Last,.bool x19.Sure,.sl 10 (List.map ch x19.Spans)]) aZ<|bE h fun x21 y21 h=>rD (cZ (Qu x16 x19 y21) Qb)<|rP un<|en k20<|wi 30 h (fun c22 h=>?_) fun c22 h=>?_
   ·refine sr fun _ k23=>rP Y<|en k23<|ac<|by cases ah h hq9;exact rk
   ·refine aq<|k13 _<|aB<|rP bi<|rP mv<|aM<|bk (ra []) ⟨(IntKind.i64.wrap (cF+1)),aI h hq9,rfl⟩
  ·refine bc<|tk (ah h hq9) fun h=>k6 _<|sr fun _ k24=>rP Y<|en k24<|ac<|by cases h;exact rk
def xq (a0:Block) (a1:Block):Option Bool:=
 if(a0.Number == a1.Number)=true then(if(a0.Born == a1.Born)=true then(if(a0.Tier == a1.Tier)=true then(Option.bind (tK a0.Episodes a1.Episodes) (fun(x6:Bool)=>some x6))else(some false))else(some false))else(some false)
theorem Qv (a0:Block) (a1:Block) {r:Bool} (h:xq a0 a1=some r):Ok Tryz.prog 73 [.agg [.int .i64 a0.Number,.int .i64 a0.Born,.int .i64 a0.Tier,.sl 6 (List.map ak a0.Episodes)],.agg [.int .i64 a1.Number,.int .i64 a1.Born,.int .i64 a1.Tier,.sl 6 (List.map ak a1.Episodes)]] [] [] (.bool r) [] []:=by
 refine oK Tryz.func73 rfl fun X=>sr fun _ k1=>rD (bY W_ rfl rfl)<|rD (bY W_ rfl rfl)<|rP Y<|en k1<|sr fun _ k2=>rP (fa ca ae)<|rX (ld ae)<|rP (fa ca ae)<|rX (ld ae)<|rP bi<|rP mv<|li 10 h (fun c3 h=>?_) fun c3 h=>?_
 ·refine rP (fa ca ae)<|rX (ld ae)<|rP (fa ca ae)<|rX (ld ae)<|rP bi<|rP pc<|rP mv<|li 17 h (fun c4 h=>?_) fun c4 h=>?_
  ·refine rP (fa ca ae)<|rX (ld ae)<|rP (fa ca ae)<|rX (ld ae)<|rP bi<|rP pc<|rP mv<|li 24 h (fun c5 h=>?_) fun c5 h=>?_
   ·refine rP (fa ca bp)<|rX (ld bp)<|rP (fa ca bp)<|rX (ld bp)<|bE h fun x6 y6 h=>rD (cz (.bool x6) (Bq a0.Episodes a1.Episodes y6) Bm)<|rP pc<|rP Y<|en k2<|ac<|by cases h;exact rk
   ·refine rS<|rS<|rS<|rS<|rS<|rP pc<|rP Y<|en k2<|ac<|by cases h;exact rk
  ·refine rS<|rS<|rS<|rS<|rS<|rP pc<|rP mv<|rS<|rS<|rS<|rS<|rS<|rP pc<|rP Y<|en k2<|ac<|by cases h;exact rk
 ·refine rS<|rS<|rS<|rS<|rS<|rP pc<|rP mv<|rS<|rS<|rS<|rS<|rS<|rP pc<|rP mv<|rS<|rS<|rS<|rS<|rS<|rP pc<|rP Y<|en k2<|ac<|by cases h;exact rk
def tL (a0:List Block) (a1:List Block) (cF:Int):Option (Int⊕Bool):=
 if(decide (cF<(List.length a0:Int)))=true then(gd (0≤cF) (Option.bind (a0[(Int.toNat cF)]?) (fun(x16:Block)=>gd (0≤cF) (Option.bind (a1[(Int.toNat cF)]?) (fun(x19:Block)=>Option.bind (xq x16 x19) (fun(x21:Bool)=>if(!x21)=true then(some (Sum.inr false))else(some (Sum.inl (IntKind.i64.wrap (cF+1))))))))))else(some (Sum.inr true))
def Br (a0:List Block) (a1:List Block):Option Bool:=
 if((List.length a0:Int) != (List.length a1:Int))=true then(some false)else(am (fun(s:Int)=>tL a0 a1 s) Fu 0)
theorem Qw (a0:List Block) (a1:List Block) {r:Bool} (h:Br a0 a1=some r):Ok Tryz.prog 72 [.sl 4 (List.map aR a0),.sl 4 (List.map aR a1),.fn 73 []] [] [] (.bool r) [] []:=by
 refine oK Tryz.func72 rfl fun X=>sr fun _ k1=>rP Y<|en k1<|ai fun _ k2=>sr fun _ k3=>rP mv<|rP (zl bF)<|rP mv<|rP (zl bF)<|rP bi<|en k3<|wi 14 h (fun c4 h=>?_) fun c4 h=>?_
 ·refine sr fun _ k5=>rP Y<|en k5<|ac<|by cases h;exact rk
 ·refine aq<|k2 _<|ai fun _ k6=>sr fun _ k7=>rP mv<|rP (zl bF)<|rP mv<|en k7<|ax<|bv (fun m s=>∃(cF:Int),am (fun(s:Int)=>tL a0 a1 s) m cF=some r∧s=lit [(1,.sl 4 (List.map aR a1)),(2,.fn 73 []),(15,.sl 4 (List.map aR a0)),(16,.int .i64 (List.length a0:Int)),(17,.int .i64 cF)] [] [] X) Fu
   ⟨_,ra [],0,h,rfl⟩ ?_
  rintro m s ⟨cF,h,rfl⟩
  obtain⟨m0,q8,rfl,h,hq9⟩:=bu h
  replace h:tL a0 a1 cF=some q8:=h
  refine sr fun _ k10=>rP bi<|en k10<|ai fun _ k11=>wi 18 h (fun c12 h=>?_) fun c12 h=>?_
  ·refine aq<|k11 _<|ai fun _ k13=>ax<|sr fun _ k14=>rP mv<|gE h fun g15 h=>bE h fun x16 y16 h=>rP (ia bF ca g15 y16)<|pl 21 (.agg [.int .i64 x16.Number,.int .i64 x16.Born,.int .i64 x16.Tier,.sl 6 (List.map ak x16.Episodes)]) ca<|rD (nw ca)<|rP Y<|pZ (aA [.int .i64 x16.Number,.int .i64 x16.Born,.int .i64 x16.Tier,.sl 6 (List.map ak x16.Episodes)] ca)<|en k14<|sr fun _ k17=>rP mv<|rP mv<|gE h fun g18 h=>bE h fun x19 y19 h=>rP (ia bF ca g18 y19)<|pl 25 (.agg [.int .i64 x19.Number,.int .i64 x19.Born,.int .i64 x19.Tier,.sl 6 (List.map ak x19.Episodes)]) ca<|rD (nw ca)<|pZ (aA [.int .i64 x19.Number,.int .i64 x19.Born,.int .i64 x19.Tier,.sl 6 (List.map ak x19.Episodes)] ca)<|en k17<|sr fun _ k20=>rP mv<|pl 27 (.agg [.int .i64 x16.Number,.int .i64 x16.Born,.int .i64 x16.Tier,.sl 6 (List.map ak x16.Episodes)]) ca<|pl 28 (.agg [.int .i64 x19.Number,.int .i64 x19.Born,.int .i64 x19.Tier,.sl 6 (List.map ak x19.Episodes)]) ca<|bE h fun x21 y21 h=>rD (cZ (Qv x16 x19 y21) Qd)<|rP un<|en k20<|wi 30 h (fun c22 h=>?_) fun c22 h=>?_
   ·refine sr fun _ k23=>rP Y<|en k23<|ac<|by cases ah h hq9;exact rk
   ·refine aq<|k13 _<|aB<|rP bi<|rP mv<|aM<|bk (ra []) ⟨(IntKind.i64.wrap (cF+1)),aI h hq9,rfl⟩
  ·refine bc<|tk (ah h hq9) fun h=>k6 _<|sr fun _ k24=>rP Y<|en k24<|ac<|by cases h;exact rk
def tM (a0:List bT) (a1:List bT) (bZ:Int):Option (Int⊕Bool):=
 if(decide (bZ<(List.length a0:Int)))=true then(gd (0≤bZ) (Option.bind (a0[(Int.toNat bZ)]?) (fun(x17:bT)=>gd (0≤bZ) (Option.bind (a1[(Int.toNat bZ)]?) (fun(x19:bT)=>if(!((x17.Trace.Hi == x19.Trace.Hi)&&((x17.Trace.Lo == x19.Trace.Lo)&&((x17.Kept == x19.Kept)&&true))))=true then(some (Sum.inr false))else(some (Sum.inl (IntKind.i64.wrap (bZ+1)))))))))else(some (Sum.inr true))
def Bs (a0:List bT) (a1:List bT):Option Bool:=
 if((List.length a0:Int) != (List.length a1:Int))=true then(some false)else(am (fun(s:Int)=>tM a0 a1 s) Fu 0)
theorem Qx (a0:List bT) (a1:List bT) {r:Bool} (h:Bs a0 a1=some r):Ok Tryz.prog 74 [.sl 3 (List.map aQ a0),.sl 3 (List.map aQ a1)] [] [] (.bool r) [] []:=by
 refine oK Tryz.func74 rfl fun X=>sr fun _ k1=>rP Y<|en k1<|ai fun _ k2=>sr fun _ k3=>rP mv<|rP (zl ci)<|rP mv<|rP (zl ci)<|rP bi<|en k3<|wi 10 h (fun c4 h=>?_) fun c4 h=>?_
 ·refine sr fun _ k5=>rP Y<|en k5<|ac<|by cases h;exact rk
 ·refine aq<|k2 _<|ai fun _ k6=>sr fun _ k7=>rP mv<|rP (zl ci)<|rP mv<|en k7<|ax<|bv (fun m s=>∃(bZ:Int),am (fun(s:Int)=>tM a0 a1 s) m bZ=some r∧s=lit [(0,.sl 3 (List.map aQ a0)),(1,.sl 3 (List.map aQ a1)),(12,.int .i64 (List.length a0:Int)),(13,.int .i64 bZ)] [] [] X) Fu
   ⟨_,ra [],0,h,rfl⟩ ?_
  rintro m s ⟨bZ,h,rfl⟩
  obtain⟨m0,q8,rfl,h,hq9⟩:=bu h
  replace h:tM a0 a1 bZ=some q8:=h
  refine sr fun _ k10=>rP bi<|en k10<|ai fun _ k11=>wi 14 h (fun c12 h=>?_) fun c12 h=>?_
  ·refine aq<|k11 _<|ai fun _ k13=>ax<|sr fun _ k14=>rP mv<|rP Y<|en k14<|ai fun _ k15=>cD (by kernel_rfl) (by decide +kernel)<|tP mv<|tP mv<|gE h fun g16 h=>bE h fun x17 y17 h=>tP (ia ci dW g16 y17)<|tR (cu (v:=.agg [.int .u64 x17.Trace.Hi,.int .u64 x17.Trace.Lo,.bool x17.Kept]) W_ W_ dW R_)<|tP mv<|tP mv<|gE h fun g18 h=>bE h fun x19 y19 h=>tP (ia ci dW g18 y19)<|tR (cu (v:=.agg [.int .u64 x19.Trace.Hi,.int .u64 x19.Trace.Lo,.bool x19.Kept]) W_ W_ dW R_)<|tP (hY (v:=.bool (!((x17.Trace.Hi == x19.Trace.Hi)&&((x17.Trace.Lo == x19.Trace.Lo)&&((x17.Kept == x19.Kept)&&true))))) W_ W_ Gv rfl Gw Gx W_ rfl)<|cc (by kernel_rfl)<|k15 _<|wi 24 h (fun c20 h=>?_) fun c20 h=>?_
   ·refine sr fun _ k21=>rP Y<|en k21<|ac<|by cases ah h hq9;exact rk
   ·refine aq<|k13 _<|aB<|rP bi<|rP mv<|aM<|bk (ra []) ⟨(IntKind.i64.wrap (bZ+1)),aI h hq9,rfl⟩
  ·refine bc<|tk (ah h hq9) fun h=>k6 _<|sr fun _ k22=>rP Y<|en k22<|ac<|by cases h;exact rk
def tN (a0:List bo) (a1:List bo) (bZ:Int):Option (Int⊕Bool):=
 if(decide (bZ<(List.length a0:Int)))=true then(gd (0≤bZ) (Option.bind (a0[(Int.toNat bZ)]?) (fun(x17:bo)=>gd (0≤bZ) (Option.bind (a1[(Int.toNat bZ)]?) (fun(x19:bo)=>if(!((x17.Level == x19.Level)&&((x17.Window == x19.Window)&&((ByteArray.toList x17.Service == ByteArray.toList x19.Service)&&((ByteArray.toList x17.Op == ByteArray.toList x19.Op)&&((x17.Counter.Count == x19.Counter.Count)&&((x17.Counter.Errs == x19.Counter.Errs)&&((x17.Counter.By.c0 == x19.Counter.By.c0)&&((x17.Counter.By.c1 == x19.Counter.By.c1)&&((x17.Counter.By.c2 == x19.Counter.By.c2)&&((x17.Counter.By.c3 == x19.Counter.By.c3)&&((x17.Counter.By.c4 == x19.Counter.By.c4)&&((x17.Counter.By.c5 == x19.Counter.By.c5)&&((x17.Counter.By.c6 == x19.Counter.By.c6)&&((x17.Counter.By.c7 == x19.Counter.By.c7)&&true)))))))))))))))=true then(some (Sum.inr false))else(some (Sum.inl (IntKind.i64.wrap (bZ+1)))))))))else(some (Sum.inr true))
def Bt (a0:List bo) (a1:List bo):Option Bool:=
 if((List.length a0:Int) != (List.length a1:Int))=true then(some false)else(am (fun(s:Int)=>tN a0 a1 s) Fu 0)
theorem Qy (a0:List bo) (a1:List bo) {r:Bool} (h:Bt a0 a1=some r):Ok Tryz.prog 75 [.sl 14 (List.map aP a0),.sl 14 (List.map aP a1)] [] [] (.bool r) [] []:=by
 refine oK Tryz.func75 rfl fun X=>sr fun _ k1=>rP Y<|en k1<|ai fun _ k2=>sr fun _ k3=>rP mv<|rP (zl bU)<|rP mv<|rP (zl bU)<|rP bi<|en k3<|wi 10 h (fun c4 h=>?_) fun c4 h=>?_
 ·refine sr fun _ k5=>rP Y<|en k5<|ac<|by cases h;exact rk
 ·refine aq<|k2 _<|ai fun _ k6=>sr fun _ k7=>rP mv<|rP (zl bU)<|rP mv<|en k7<|ax<|bv (fun m s=>∃(bZ:Int),am (fun(s:Int)=>tN a0 a1 s) m bZ=some r∧s=lit [(0,.sl 14 (List.map aP a0)),(1,.sl 14 (List.map aP a1)),(12,.int .i64 (List.length a0:Int)),(13,.int .i64 bZ)] [] [] X) Fu
   ⟨_,ra [],0,h,rfl⟩ ?_
  rintro m s ⟨bZ,h,rfl⟩
  obtain⟨m0,q8,rfl,h,hq9⟩:=bu h
  replace h:tN a0 a1 bZ=some q8:=h
  refine sr fun _ k10=>rP bi<|en k10<|ai fun _ k11=>wi 14 h (fun c12 h=>?_) fun c12 h=>?_
  ·refine aq<|k11 _<|ai fun _ k13=>ax<|sr fun _ k14=>rP mv<|rP Y<|en k14<|ai fun _ k15=>cD (by kernel_rfl) (by decide +kernel)<|tP mv<|tP mv<|gE h fun g16 h=>bE h fun x17 y17 h=>tP (ia bU bS g16 y17)<|tR (cu (v:=.agg [.int .i64 x17.Level,.int .i64 x17.Window,.str x17.Service,.str x17.Op,.int .i64 x17.Counter.Count,.int .i64 x17.Counter.Errs,.int .i64 x17.Counter.By.c0,.int .i64 x17.Counter.By.c1,.int .i64 x17.Counter.By.c2,.int .i64 x17.Counter.By.c3,.int .i64 x17.Counter.By.c4,.int .i64 x17.Counter.By.c5,.int .i64 x17.Counter.By.c6,.int .i64 x17.Counter.By.c7]) W_ W_ bS R_)<|tP mv<|tP mv<|gE h fun g18 h=>bE h fun x19 y19 h=>tP (ia bU bS g18 y19)<|tR (cu (v:=.agg [.int .i64 x19.Level,.int .i64 x19.Window,.str x19.Service,.str x19.Op,.int .i64 x19.Counter.Count,.int .i64 x19.Counter.Errs,.int .i64 x19.Counter.By.c0,.int .i64 x19.Counter.By.c1,.int .i64 x19.Counter.By.c2,.int .i64 x19.Counter.By.c3,.int .i64 x19.Counter.By.c4,.int .i64 x19.Counter.By.c5,.int .i64 x19.Counter.By.c6,.int .i64 x19.Counter.By.c7]) W_ W_ bS R_)<|tP (CY (v:=.bool (!((x17.Level == x19.Level)&&((x17.Window == x19.Window)&&((ByteArray.toList x17.Service == ByteArray.toList x19.Service)&&((ByteArray.toList x17.Op == ByteArray.toList x19.Op)&&((x17.Counter.Count == x19.Counter.Count)&&((x17.Counter.Errs == x19.Counter.Errs)&&((x17.Counter.By.c0 == x19.Counter.By.c0)&&((x17.Counter.By.c1 == x19.Counter.By.c1)&&((x17.Counter.By.c2 == x19.Counter.By.c2)&&((x17.Counter.By.c3 == x19.Counter.By.c3)&&((x17.Counter.By.c4 == x19.Counter.By.c4)&&((x17.Counter.By.c5 == x19.Counter.By.c5)&&((x17.Counter.By.c6 == x19.Counter.By.c6)&&((x17.Counter.By.c7 == x19.Counter.By.c7)&&true)))))))))))))))) W_ W_ Gl rfl Gm Gn W_ rfl)<|cc (by kernel_rfl)<|k15 _<|wi 24 h (fun c20 h=>?_) fun c20 h=>?_
   ·refine sr fun _ k21=>rP Y<|en k21<|ac<|by cases ah h hq9;exact rk
   ·refine aq<|k13 _<|aB<|rP bi<|rP mv<|aM<|bk (ra []) ⟨(IntKind.i64.wrap (bZ+1)),aI h hq9,rfl⟩
  ·refine bc<|tk (ah h hq9) fun h=>k6 _<|sr fun _ k22=>rP Y<|en k22<|ac<|by cases h;exact rk
def tO (a0:List Edge) (a1:List Edge) (bZ:Int):Option (Int⊕Bool):=
 if(decide (bZ<(List.length a0:Int)))=true then(gd (0≤bZ) (Option.bind (a0[(Int.toNat bZ)]?) (fun(x17:Edge)=>gd (0≤bZ) (Option.bind (a1[(Int.toNat bZ)]?) (fun(x19:Edge)=>if(!((ByteArray.toList x17.From == ByteArray.toList x19.From)&&((ByteArray.toList x17.To == ByteArray.toList x19.To)&&((x17.Count == x19.Count)&&((x17.Errs == x19.Errs)&&true)))))=true then(some (Sum.inr false))else(some (Sum.inl (IntKind.i64.wrap (bZ+1)))))))))else(some (Sum.inr true))
def Bu (a0:List Edge) (a1:List Edge):Option Bool:=
 if((List.length a0:Int) != (List.length a1:Int))=true then(some false)else(am (fun(s:Int)=>tO a0 a1 s) Fu 0)
theorem Qz (a0:List Edge) (a1:List Edge) {r:Bool} (h:Bu a0 a1=some r):Ok Tryz.prog 76 [.sl 4 (List.map aU a0),.sl 4 (List.map aU a1)] [] [] (.bool r) [] []:=by
 refine oK Tryz.func76 rfl fun X=>sr fun _ k1=>rP Y<|en k1<|ai fun _ k2=>sr fun _ k3=>rP mv<|rP (zl bH)<|rP mv<|rP (zl bH)<|rP bi<|en k3<|wi 10 h (fun c4 h=>?_) fun c4 h=>?_
 ·refine sr fun _ k5=>rP Y<|en k5<|ac<|by cases h;exact rk
 ·refine aq<|k2 _<|ai fun _ k6=>sr fun _ k7=>rP mv<|rP (zl bH)<|rP mv<|en k7<|ax<|bv (fun m s=>∃(bZ:Int),am (fun(s:Int)=>tO a0 a1 s) m bZ=some r∧s=lit [(0,.sl 4 (List.map aU a0)),(1,.sl 4 (List.map aU a1)),(12,.int .i64 (List.length a0:Int)),(13,.int .i64 bZ)] [] [] X) Fu
   ⟨_,ra [],0,h,rfl⟩ ?_
  rintro m s ⟨bZ,h,rfl⟩
  obtain⟨m0,q8,rfl,h,hq9⟩:=bu h
  replace h:tO a0 a1 bZ=some q8:=h
  refine sr fun _ k10=>rP bi<|en k10<|ai fun _ k11=>wi 14 h (fun c12 h=>?_) fun c12 h=>?_
  ·refine aq<|k11 _<|ai fun _ k13=>ax<|sr fun _ k14=>rP mv<|rP Y<|en k14<|ai fun _ k15=>cD (by kernel_rfl) (by decide +kernel)<|tP mv<|tP mv<|gE h fun g16 h=>bE h fun x17 y17 h=>tP (ia bH cm g16 y17)<|tR (cu (v:=.agg [.str x17.From,.str x17.To,.int .i64 x17.Count,.int .i64 x17.Errs]) W_ W_ cm R_)<|tP mv<|tP mv<|gE h fun g18 h=>bE h fun x19 y19 h=>tP (ia bH cm g18 y19)<|tR (cu (v:=.agg [.str x19.From,.str x19.To,.int .i64 x19.Count,.int .i64 x19.Errs]) W_ W_ cm R_)<|tP (hY (v:=.bool (!((ByteArray.toList x17.From == ByteArray.toList x19.From)&&((ByteArray.toList x17.To == ByteArray.toList x19.To)&&((x17.Count == x19.Count)&&((x17.Errs == x19.Errs)&&true)))))) W_ W_ Gp rfl Gq Gr W_ rfl)<|cc (by kernel_rfl)<|k15 _<|wi 24 h (fun c20 h=>?_) fun c20 h=>?_
   ·refine sr fun _ k21=>rP Y<|en k21<|ac<|by cases ah h hq9;exact rk
   ·refine aq<|k13 _<|aB<|rP bi<|rP mv<|aM<|bk (ra []) ⟨(IntKind.i64.wrap (bZ+1)),aI h hq9,rfl⟩
  ·refine bc<|tk (ah h hq9) fun h=>k6 _<|sr fun _ k22=>rP Y<|en k22<|ac<|by cases h;exact rk
def tQ (a0:List bz) (a1:List bz) (bZ:Int):Option (Int⊕Bool):=
 if(decide (bZ<(List.length a0:Int)))=true then(gd (0≤bZ) (Option.bind (a0[(Int.toNat bZ)]?) (fun(x17:bz)=>gd (0≤bZ) (Option.bind (a1[(Int.toNat bZ)]?) (fun(x19:bz)=>if(!((ByteArray.toList x17.Service == ByteArray.toList x19.Service)&&((ByteArray.toList x17.Op == ByteArray.toList x19.Op)&&((x17.Trace.Hi == x19.Trace.Hi)&&((x17.Trace.Lo == x19.Trace.Lo)&&((x17.Id == x19.Id)&&((x17.Block == x19.Block)&&true)))))))=true then(some (Sum.inr false))else(some (Sum.inl (IntKind.i64.wrap (bZ+1)))))))))else(some (Sum.inr true))
def Bv (a0:List bz) (a1:List bz):Option Bool:=
 if((List.length a0:Int) != (List.length a1:Int))=true then(some false)else(am (fun(s:Int)=>tQ a0 a1 s) Fu 0)
theorem QA (a0:List bz) (a1:List bz) {r:Bool} (h:Bv a0 a1=some r):Ok Tryz.prog 77 [.sl 6 (List.map aV a0),.sl 6 (List.map aV a1)] [] [] (.bool r) [] []:=by
 refine oK Tryz.func77 rfl fun X=>sr fun _ k1=>rP Y<|en k1<|ai fun _ k2=>sr fun _ k3=>rP mv<|rP (zl bO)<|rP mv<|rP (zl bO)<|rP bi<|en k3<|wi 10 h (fun c4 h=>?_) fun c4 h=>?_
 ·refine sr fun _ k5=>rP Y<|en k5<|ac<|by cases h;exact rk
 ·refine aq<|k2 _<|ai fun _ k6=>sr fun _ k7=>rP mv<|rP (zl bO)<|rP mv<|en k7<|ax<|bv (fun m s=>∃(bZ:Int),am (fun(s:Int)=>tQ a0 a1 s) m bZ=some r∧s=lit [(0,.sl 6 (List.map aV a0)),(1,.sl 6 (List.map aV a1)),(12,.int .i64 (List.length a0:Int)),(13,.int .i64 bZ)] [] [] X) Fu
   ⟨_,ra [],0,h,rfl⟩ ?_
  rintro m s ⟨bZ,h,rfl⟩
  obtain⟨m0,q8,rfl,h,hq9⟩:=bu h
  replace h:tQ a0 a1 bZ=some q8:=h
  refine sr fun _ k10=>rP bi<|en k10<|ai fun _ k11=>wi 14 h (fun c12 h=>?_) fun c12 h=>?_
  ·refine aq<|k11 _<|ai fun _ k13=>ax<|sr fun _ k14=>rP mv<|rP Y<|en k14<|ai fun _ k15=>cD (by kernel_rfl) (by decide +kernel)<|tP mv<|tP mv<|gE h fun g16 h=>bE h fun x17 y17 h=>tP (ia bO cj g16 y17)<|tR (cu (v:=.agg [.str x17.Service,.str x17.Op,.int .u64 x17.Trace.Hi,.int .u64 x17.Trace.Lo,.int .u64 x17.Id,.int .i64 x17.Block]) W_ W_ cj R_)<|tP mv<|tP mv<|gE h fun g18 h=>bE h fun x19 y19 h=>tP (ia bO cj g18 y19)<|tR (cu (v:=.agg [.str x19.Service,.str x19.Op,.int .u64 x19.Trace.Hi,.int .u64 x19.Trace.Lo,.int .u64 x19.Id,.int .i64 x19.Block]) W_ W_ cj R_)<|tP (hY (v:=.bool (!((ByteArray.toList x17.Service == ByteArray.toList x19.Service)&&((ByteArray.toList x17.Op == ByteArray.toList x19.Op)&&((x17.Trace.Hi == x19.Trace.Hi)&&((x17.Trace.Lo == x19.Trace.Lo)&&((x17.Id == x19.Id)&&((x17.Block == x19.Block)&&true)))))))) W_ W_ Gs rfl Gt Gu W_ rfl)<|cc (by kernel_rfl)<|k15 _<|wi 24 h (fun c20 h=>?_) fun c20 h=>?_
   ·refine sr fun _ k21=>rP Y<|en k21<|ac<|by cases ah h hq9;exact rk
   ·refine aq<|k13 _<|aB<|rP bi<|rP mv<|aM<|bk (ra []) ⟨(IntKind.i64.wrap (bZ+1)),aI h hq9,rfl⟩
  ·refine bc<|tk (ah h hq9) fun h=>k6 _<|sr fun _ k22=>rP Y<|en k22<|ac<|by cases h;exact rk
def Bw (a0:aC) (a1:aC) (au:Bool) (fq:Bool):Option Bool:=
 if au=true then(if fq=true then(Option.bind (Bs a0.Memo a1.Memo) (fun(x19:Bool)=>if x19=true then(Option.bind (Bt a0.Rows a1.Rows) (fun(x21:Bool)=>if x21=true then(Option.bind (Bu a0.Edges a1.Edges) (fun(x23:Bool)=>if x23=true then(Option.bind (Bv a0.Slots a1.Slots) (fun(x25:Bool)=>some x25))else(some false)))else(some false)))else(some false)))else(some false))else(some false)
def Bx (a0:aC) (a1:aC) (au:Bool):Option Bool:=
 Option.bind (Option.bind (tK a0.Open a1.Open) (fun(x11:Bool)=>if x11=true then(Option.bind (tK a0.Pending a1.Pending) (fun(x13:Bool)=>if x13=true then(Option.bind (Br a0.Blocks a1.Blocks) (fun(x15:Bool)=>some x15))else(some false)))else(some false))) (fun(s:Bool)=>Bw a0 a1 au s)
def tT (a0:aC) (a1:aC):Option Bool:=
 Option.bind (if(a0.Now == a1.Now)=true then(if(a0.Sec == a1.Sec)=true then(if(a0.Kept == a1.Kept)=true then(if(a0.Next == a1.Next)=true then(Option.bind (Bo a0.Policy a1.Policy) (fun(x8:Bool)=>some x8))else(some false))else(some false))else(some false))else(some false)) (fun(s:Bool)=>Bx a0 a1 s)
theorem GG (a0:aC) (a1:aC) {r:Bool} (h:tT a0 a1=some r):Ok Tryz.prog 17 [.agg [.int .i64 a0.Now,.int .i64 a0.Sec,.int .i64 a0.Kept,.int .i64 a0.Next,.int .i64 a0.Policy.Kind,.int .i64 a0.Policy.N,.str a0.Policy.Key,.str a0.Policy.Value,.sl 5 (List.map aj a0.Policy.Kids),.sl 6 (List.map ak a0.Open),.sl 6 (List.map ak a0.Pending),.sl 3 (List.map aQ a0.Memo),.sl 14 (List.map aP a0.Rows),.sl 4 (List.map aU a0.Edges),.sl 6 (List.map aV a0.Slots),.sl 4 (List.map aR a0.Blocks)],.agg [.int .i64 a1.Now,.int .i64 a1.Sec,.int .i64 a1.Kept,.int .i64 a1.Next,.int .i64 a1.Policy.Kind,.int .i64 a1.Policy.N,.str a1.Policy.Key,.str a1.Policy.Value,.sl 5 (List.map aj a1.Policy.Kids),.sl 6 (List.map ak a1.Open),.sl 6 (List.map ak a1.Pending),.sl 3 (List.map aQ a1.Memo),.sl 14 (List.map aP a1.Rows),.sl 4 (List.map aU a1.Edges),.sl 6 (List.map aV a1.Slots),.sl 4 (List.map aR a1.Blocks)]] [] [] (.bool r) [] []:=by
 refine oK Tryz.func17 rfl fun X=>sr fun _ k1=>rD (bY W_ rfl rfl)<|rD (bY W_ rfl rfl)<|rP Y<|en k1<|bE h fun q2 h hk3=>bx (fun s=>∃(au:Bool),Bx a0 a1 au=some r∧s=lit [(2,.ptr 2 0 0),(3,.ptr 3 0 0),(5,.bool au)] [((2,0),.box [.int .i64 a0.Now,.int .i64 a0.Sec,.int .i64 a0.Kept,.int .i64 a0.Next,.int .i64 a0.Policy.Kind,.int .i64 a0.Policy.N,.str a0.Policy.Key,.str a0.Policy.Value,.sl 5 (List.map aj a0.Policy.Kids),.sl 6 (List.map ak a0.Open),.sl 6 (List.map ak a0.Pending),.sl 3 (List.map aQ a0.Memo),.sl 14 (List.map aP a0.Rows),.sl 4 (List.map aU a0.Edges),.sl 6 (List.map aV a0.Slots),.sl 4 (List.map aR a0.Blocks)]),((3,0),.box [.int .i64 a1.Now,.int .i64 a1.Sec,.int .i64 a1.Kept,.int .i64 a1.Next,.int .i64 a1.Policy.Kind,.int .i64 a1.Policy.N,.str a1.Policy.Key,.str a1.Policy.Value,.sl 5 (List.map aj a1.Policy.Kids),.sl 6 (List.map ak a1.Open),.sl 6 (List.map ak a1.Pending),.sl 3 (List.map aQ a1.Memo),.sl 14 (List.map aP a1.Rows),.sl 4 (List.map aU a1.Edges),.sl 6 (List.map aV a1.Slots),.sl 4 (List.map aR a1.Blocks)])] [(2,1),(3,1)] X) ?_ ?_
 ·skip
  refine aB<|rP (fa av ae)<|rX (ld ae)<|rP (fa av ae)<|rX (ld ae)<|rP bi<|rP mv<|li 12 h (fun c4 h=>?_) fun c4 h=>?_
  ·refine rP (fa av ae)<|rX (ld ae)<|rP (fa av ae)<|rX (ld ae)<|rP bi<|rP pc<|rP mv<|li 19 h (fun c5 h=>?_) fun c5 h=>?_
   ·refine rP (fa av ae)<|rX (ld ae)<|rP (fa av ae)<|rX (ld ae)<|rP bi<|rP pc<|rP mv<|li 26 h (fun c6 h=>?_) fun c6 h=>?_
    ·refine rP (fa av ae)<|rX (ld ae)<|rP (fa av ae)<|rX (ld ae)<|rP bi<|rP pc<|rP mv<|li 33 h (fun c7 h=>?_) fun c7 h=>?_
     ·refine rP (fa av ar)<|pl 35 (.agg [.int .i64 a0.Policy.Kind,.int .i64 a0.Policy.N,.str a0.Policy.Key,.str a0.Policy.Value,.sl 5 (List.map aj a0.Policy.Kids)]) ar<|rP (fa av ar)<|pl 37 (.agg [.int .i64 a1.Policy.Kind,.int .i64 a1.Policy.N,.str a1.Policy.Key,.str a1.Policy.Value,.sl 5 (List.map aj a1.Policy.Kids)]) ar<|bE h fun x8 y8 h=>rD ((cZ (Qq a0.Policy a1.Policy y8) GE).fx (y:=⟨[],.bool x8,[],[38]⟩) rfl)<|rP pc<|rP Y<|aM<|?_
      obtain rfl:=Option.some.inj h
      have h:=hk3
      exact⟨_,ra [(2,0),(3,0)],x8,h,rfl⟩
     ·refine rS<|rS<|rS<|rS<|rS<|rP pc<|rP Y<|aM<|?_
      obtain rfl:=Option.some.inj h
      have h:=hk3
      exact⟨_,ra [(2,0),(3,0)],false,h,rfl⟩
    ·refine rS<|rS<|rS<|rS<|rS<|rP pc<|rP mv<|rS<|rS<|rS<|rS<|rS<|rP pc<|rP Y<|aM<|?_
     obtain rfl:=Option.some.inj h
     have h:=hk3
     exact⟨_,ra [(2,0),(3,0)],false,h,rfl⟩
   ·refine rS<|rS<|rS<|rS<|rS<|rP pc<|rP mv<|rS<|rS<|rS<|rS<|rS<|rP pc<|rP mv<|rS<|rS<|rS<|rS<|rS<|rP pc<|rP Y<|aM<|?_
    obtain rfl:=Option.some.inj h
    have h:=hk3
    exact⟨_,ra [(2,0),(3,0)],false,h,rfl⟩
  ·refine rS<|rS<|rS<|rS<|rS<|rP pc<|rP mv<|rS<|rS<|rS<|rS<|rS<|rP pc<|rP mv<|rS<|rS<|rS<|rS<|rS<|rP pc<|rP mv<|rS<|rS<|rS<|rS<|rS<|rP pc<|rP Y<|aM<|?_
   obtain rfl:=Option.some.inj h
   have h:=hk3
   exact⟨_,ra [(2,0),(3,0)],false,h,rfl⟩
 ·rintro s ⟨au,h,rfl⟩
  refine bE h fun q9 h hk10=>bx (fun s=>∃(fq:Bool),Bw a0 a1 au fq=some r∧s=lit [(2,.ptr 2 0 0),(3,.ptr 3 0 0),(5,.bool au),(6,.bool fq)] [((2,0),.box [.int .i64 a0.Now,.int .i64 a0.Sec,.int .i64 a0.Kept,.int .i64 a0.Next,.int .i64 a0.Policy.Kind,.int .i64 a0.Policy.N,.str a0.Policy.Key,.str a0.Policy.Value,.sl 5 (List.map aj a0.Policy.Kids),.sl 6 (List.map ak a0.Open),.sl 6 (List.map ak a0.Pending),.sl 3 (List.map aQ a0.Memo),.sl 14 (List.map aP a0.Rows),.sl 4 (List.map aU a0.Edges),.sl 6 (List.map aV a0.Slots),.sl 4 (List.map aR a0.Blocks)]),((3,0),.box [.int .i64 a1.Now,.int .i64 a1.Sec,.int .i64 a1.Kept,.int .i64 a1.Next,.int .i64 a1.Policy.Kind,.int .i64 a1.Policy.N,.str a1.Policy.Key,.str a1.Policy.Value,.sl 5 (List.map aj a1.Policy.Kids),.sl 6 (List.map ak a1.Open),.sl 6 (List.map ak a1.Pending),.sl 3 (List.map aQ a1.Memo),.sl 14 (List.map aP a1.Rows),.sl 4 (List.map aU a1.Edges),.sl 6 (List.map aV a1.Slots),.sl 4 (List.map aR a1.Blocks)])] [(2,1),(3,1)] X) ?_ ?_
  ·skip
   refine aB<|rP (fa av bp)<|rX (ld bp)<|rP (fa av bp)<|rX (ld bp)<|bE h fun x11 y11 h=>rD (cZ (Bq a0.Open a1.Open y11) Bm)<|rP mv<|li 45 h (fun c12 h=>?_) fun c12 h=>?_
   ·refine rP (fa av bp)<|rX (ld bp)<|rP (fa av bp)<|rX (ld bp)<|bE h fun x13 y13 h=>rD (cZ (Bq a0.Pending a1.Pending y13) Bm)<|rP pc<|rP mv<|li 52 h (fun c14 h=>?_) fun c14 h=>?_
    ·refine rP (fa av bF)<|rX (ld bF)<|rP (fa av bF)<|rX (ld bF)<|bE h fun x15 y15 h=>rD (cZ (Qw a0.Blocks a1.Blocks y15) Qc)<|rP pc<|rP Y<|aM<|?_
     obtain rfl:=Option.some.inj h
     have h:=hk10
     exact⟨_,ra [(2,0),(3,0)],x15,h,rfl⟩
    ·refine rS<|rS<|rS<|rS<|rS<|rP pc<|rP Y<|aM<|?_
     obtain rfl:=Option.some.inj h
     have h:=hk10
     exact⟨_,ra [(2,0),(3,0)],false,h,rfl⟩
   ·refine rS<|rS<|rS<|rS<|rS<|rP pc<|rP mv<|rS<|rS<|rS<|rS<|rS<|rP pc<|rP Y<|aM<|?_
    obtain rfl:=Option.some.inj h
    have h:=hk10
    exact⟨_,ra [(2,0),(3,0)],false,h,rfl⟩
  ·rintro s ⟨fq,h,rfl⟩
   refine sr fun _ k16=>rP mv<|rP mv<|li 60 h (fun c17 h=>?_) fun c17 h=>?_
   ·refine rP mv<|rP pc<|rP mv<|li 63 h (fun c18 h=>?_) fun c18 h=>?_
    ·refine rP (fa av ci)<|rX (ld ci)<|rP (fa av ci)<|rX (ld ci)<|bE h fun x19 y19 h=>rD (cz (.bool x19) (Qx a0.Memo a1.Memo y19) Qe)<|rP pc<|rP mv<|li 70 h (fun c20 h=>?_) fun c20 h=>?_
     ·refine rP (fa av bU)<|rX (ld bU)<|rP (fa av bU)<|rX (ld bU)<|bE h fun x21 y21 h=>rD (cz (.bool x21) (Qy a0.Rows a1.Rows y21) Qf)<|rP pc<|rP mv<|li 77 h (fun c22 h=>?_) fun c22 h=>?_
      ·refine rP (fa av bH)<|rX (ld bH)<|rP (fa av bH)<|rX (ld bH)<|bE h fun x23 y23 h=>rD (cz (.bool x23) (Qz a0.Edges a1.Edges y23) Qg)<|rP pc<|rP mv<|li 84 h (fun c24 h=>?_) fun c24 h=>?_
       ·refine rP (fa av bO)<|rX (ld bO)<|rP (fa av bO)<|rX (ld bO)<|bE h fun x25 y25 h=>rD (cz (.bool x25) (QA a0.Slots a1.Slots y25) Qh)<|rP pc<|rP Y<|en k16<|ac<|by cases h;exact rk
       ·refine rS<|rS<|rS<|rS<|rS<|rP pc<|rP Y<|en k16<|ac<|by cases h;exact rk
      ·refine rS<|rS<|rS<|rS<|rS<|rP pc<|rP mv<|rS<|rS<|rS<|rS<|rS<|rP pc<|rP Y<|en k16<|ac<|by cases h;exact rk
     ·refine rS<|rS<|rS<|rS<|rS<|rP pc<|rP mv<|rS<|rS<|rS<|rS<|rS<|rP pc<|rP mv<|rS<|rS<|rS<|rS<|rS<|rP pc<|rP Y<|en k16<|ac<|by cases h;exact rk
    ·refine rS<|rS<|rS<|rS<|rS<|rP pc<|rP mv<|rS<|rS<|rS<|rS<|rS<|rP pc<|rP mv<|rS<|rS<|rS<|rS<|rS<|rP pc<|rP mv<|rS<|rS<|rS<|rS<|rS<|rP pc<|rP Y<|en k16<|ac<|by cases h;exact rk
   ·refine rS<|rP pc<|rP mv<|rS<|rS<|rS<|rS<|rS<|rP pc<|rP mv<|rS<|rS<|rS<|rS<|rS<|rP pc<|rP mv<|rS<|rS<|rS<|rS<|rS<|rP pc<|rP mv<|rS<|rS<|rS<|rS<|rS<|rP pc<|rP Y<|en k16<|ac<|by cases h;exact rk
def qG (a1:List Int) (cA:List UInt8) (au:Int):Option ((List UInt8×Int)⊕(List UInt8)):=
 if(decide (au<(List.length a1:Int)))=true then(gd (0≤au) (Option.bind (a1[(Int.toNat au)]?) (fun(x11:Int)=>Option.bind (dm cA (IntKind.u64.wrap x11)) (fun(x12:List UInt8)=>some (Sum.inl (x12,(IntKind.i64.wrap (au+1))))))))else(some (Sum.inr cA))
def kb (a0:List UInt8) (a1:List Int):Option (List UInt8):=
 am (fun(s:List UInt8×Int)=>qG a1 s.1 s.2) Fu (a0,0)
theorem tU (a0:List UInt8) (a1:List Int) {r:List UInt8} (h:kb a0 a1=some r):Ok Tryz.prog 62 [.own 1 0,.sl 1 (List.map cH a1)] [] [(5,1,List.map ag a0)] (.own 2 0) [] [(5,1,List.map ag r)]:=by
 unfold kb at h
 refine oK Tryz.func62 rfl fun X=>sr fun _ k1=>rP Y<|en k1<|ai fun _ k2=>sr fun _ k3=>rP Y<|en k3<|ax<|bv (fun m s=>∃(cA:List UInt8),∃(au:Int),am (fun(s:List UInt8×Int)=>qG a1 s.1 s.2) m (cA,au)=some r∧s=lit [(0,.own 1 0),(1,.sl 1 (List.map cH a1)),(5,.int .i64 au)] [((1,0),.arr 5 1 false (List.map ag cA))] [(1,1)] X) Fu
  ⟨_,ra [(1,0)],a0,0,h,rfl⟩ ?_
 rintro m s ⟨cA,au,h,rfl⟩
 obtain⟨m0,q4,rfl,h,hq5⟩:=bu h
 replace h:qG a1 cA au=some q4:=h
 refine ai fun _ k6=>sr fun _ k7=>rP mv<|rP mv<|rP (zl da)<|rP bi<|en k7<|wi 9 h (fun c8 h=>?_) fun c8 h=>?_
 ·refine aq<|k6 _<|ai fun _ k9=>ax<|aB<|rP mv<|rP mv<|rP mv<|gE h fun g10 h=>bE h fun x11 y11 h=>rP (ia da ae g10 y11)<|rX (ld ae)<|rP (cK (v:=.int .u64 (IntKind.u64.wrap x11)) W_ (cL ae) (cB bd) rfl)<|bE h fun x12 y12 h=>rD (cG [] [(1,0)] [] (d7 cA (IntKind.u64.wrap x11) y12) d8 (.inr ⟨rfl,rfl,⟨cr (fun _=>rfl),trivial⟩⟩))<|rP Y<|en k9<|aB<|rP mv<|rP bi<|rP Y<|aM<|bk (ra [(18,0)]) ⟨x12,(IntKind.i64.wrap (au+1)),aI h hq5,rfl⟩
 ·refine bc<|tk (ah h hq5) fun h=>k2 _<|sr fun _ k13=>rP mv<|rP Y<|en k13<|ac<|by cases h;exact rB [(1,0)]
def qH (a0:List UInt8) (a1:Trace):Option (List UInt8):=
 Option.bind (dm a0 a1.Hi) (fun(x3:List UInt8)=>Option.bind (dm x3 a1.Lo) (fun(x4:List UInt8)=>some x4))
theorem Bz (a0:List UInt8) (a1:Trace) {r:List UInt8} (h:qH a0 a1=some r):Ok Tryz.prog 65 [.own 1 0,.agg [.int .u64 a1.Hi,.int .u64 a1.Lo]] [] [(5,1,List.map ag a0)] (.own 2 0) [] [(5,1,List.map ag r)]:=by
 refine oK Tryz.func65 rfl fun X=>sr fun _ k1=>rD (bY W_ rfl rfl)<|rP Y<|en k1<|ai fun _ k2=>cD (by kernel_rfl) (by decide +kernel)<|tP mv<|tP (fa bX bd)<|tR (ld bd)<|bE h fun x3 y3 h=>tD (cG [] [(1,0)] [] (d7 a0 a1.Hi y3) d8 (.inr ⟨rfl,rfl,⟨cr (fun _=>rfl),trivial⟩⟩))<|tP (fa bX bd)<|tR (ld bd)<|bE h fun x4 y4 h=>tD (cG [] [(8,0)] [] (d7 x3 a1.Lo y4) d8 (.inr ⟨rfl,rfl,⟨cr (fun _=>rfl),trivial⟩⟩))<|tP Y<|cc (by kernel_rfl)<|k2 _<|ac<|by cases h;exact rB [(11,0)]
def qI (a1:az) (cA:List UInt8) (au:Int):Option ((List UInt8×Int)⊕(List UInt8)):=
 if(decide (au<(List.length a1.Spans:Int)))=true then(gd (0≤au) (Option.bind (a1.Spans[(Int.toNat au)]?) (fun(x18:aL)=>Option.bind (wA cA x18) (fun(x19:List UInt8)=>some (Sum.inl (x19,(IntKind.i64.wrap (au+1))))))))else(some (Sum.inr cA))
def qJ (a0:List UInt8) (a1:az):Option (List UInt8):=
 Option.bind (dm a0 (IntKind.u64.wrap a1.First)) (fun(x3:List UInt8)=>Option.bind (dm x3 (IntKind.u64.wrap a1.Last)) (fun(x4:List UInt8)=>Option.bind (mP a1.Sure) (fun(x6:Int)=>Option.bind (dm x4 x6) (fun(x7:List UInt8)=>Option.bind (dm x7 (IntKind.u64.wrap (List.length a1.Spans:Int))) (fun(x8:List UInt8)=>am (fun(s:List UInt8×Int)=>qI a1 s.1 s.2) Fu (x8,0))))))
theorem QB (a0:List UInt8) (a1:az) {r:List UInt8} (h:qJ a0 a1=some r):Ok Tryz.prog 139 [.own 1 0,.agg [.int .u64 a1.Trace.Hi,.int .u64 a1.Trace.Lo,.int .i64 a1.First,.int .i64 a1.Last,.bool a1.Sure,.sl 10 (List.map ch a1.Spans)]] [] [(5,1,List.map ag a0)] (.own 2 0) [] [(5,1,List.map ag r)]:=by
 refine oK Tryz.func139 rfl fun X=>sr fun _ k1=>rD (bY W_ rfl rfl)<|rP Y<|en k1<|ai fun _ k2=>cD (by kernel_rfl) (by decide +kernel)<|tP mv<|tP (fa aZ ae)<|tR (ld ae)<|tP (cK (v:=.int .u64 (IntKind.u64.wrap a1.First)) W_ (cL ae) (cB bd) rfl)<|bE h fun x3 y3 h=>tD (cG [] [(1,0)] [] (d7 a0 (IntKind.u64.wrap a1.First) y3) d8 (.inr ⟨rfl,rfl,⟨cr (fun _=>rfl),trivial⟩⟩))<|tP (fa aZ ae)<|tR (ld ae)<|tP (cK (v:=.int .u64 (IntKind.u64.wrap a1.Last)) W_ (cL ae) (cB bd) rfl)<|bE h fun x4 y4 h=>tD (cG [] [(10,0)] [] (d7 x3 (IntKind.u64.wrap a1.Last) y4) d8 (.inr ⟨rfl,rfl,⟨cr (fun _=>rfl),trivial⟩⟩))<|tP Y<|cc (by kernel_rfl)<|k2 _<|ai fun _ k5=>cD (by kernel_rfl) (by decide +kernel)<|tP mv<|tP (fa aZ aN)<|tR (ld aN)<|bE h fun x6 y6 h=>tD (cZ (Ap a1.Sure y6) Ao)<|bE h fun x7 y7 h=>tD (cG [] [(14,0)] [] (d7 x4 x6 y7) d8 (.inr ⟨rfl,rfl,⟨cr (fun _=>rfl),trivial⟩⟩))<|tP (fa aZ bN)<|tR (ld bN)<|tP (zl bN)<|tP (cK (v:=.int .u64 (IntKind.u64.wrap (List.length a1.Spans:Int))) W_ (cL ae) (cB bd) rfl)<|bE h fun x8 y8 h=>tD (cG [] [(19,0)] [] (d7 x7 (IntKind.u64.wrap (List.length a1.Spans:Int)) y8) d8 (.inr ⟨rfl,rfl,⟨cr (fun _=>rfl),trivial⟩⟩))<|tP Y<|cc (by kernel_rfl)<|k5 _<|ai fun _ k9=>sr fun _ k10=>rP Y<|en k10<|ax<|bv (fun m s=>∃(cA:List UInt8),∃(au:Int),am (fun(s:List UInt8×Int)=>qI a1 s.1 s.2) m (cA,au)=some r∧s=lit [(0,.own 24 0),(3,.ptr 3 0 0),(5,.int .i64 au)] [((24,0),.arr 5 1 false (List.map ag cA)),((3,0),.box [.int .u64 a1.Trace.Hi,.int .u64 a1.Trace.Lo,.int .i64 a1.First,.int .i64 a1.Last,.bool a1.Sure,.sl 10 (List.map ch a1.Spans)])] [(3,1),(24,1)] X) Fu
  ⟨_,ra [(24,0),(3,0)],x8,0,h,rfl⟩ ?_
 rintro m s ⟨cA,au,h,rfl⟩
 obtain⟨m0,q11,rfl,h,hq12⟩:=bu h
 replace h:qI a1 cA au=some q11:=h
 refine ai fun _ k13=>sr fun _ k14=>rP mv<|rP (fa aZ bN)<|rX (ld bN)<|rP (zl bN)<|rP bi<|en k14<|wi 29 h (fun c15 h=>?_) fun c15 h=>?_
 ·refine aq<|k13 _<|ai fun _ k16=>ax<|aB<|rP mv<|rP (fa aZ bN)<|rX (ld bN)<|rP mv<|gE h fun g17 h=>bE h fun x18 y18 h=>rP (ia bN aJ g17 y18)<|pl 37 (.agg [.int .u64 x18.Trace.Hi,.int .u64 x18.Trace.Lo,.int .u64 x18.Id,.int .u64 x18.Parent,.str x18.Service,.str x18.Op,.int .i64 x18.Start,.int .i64 x18.Dur,.bool x18.Err,.sl 2 (List.map ce x18.Attrs)]) aJ<|bE h fun x19 y19 h=>rD (cG [] [(24,0)] [] (NP cA x18 y19) Qm (.inr ⟨rfl,rfl,⟨cr (fun _=>rfl),trivial⟩⟩))<|rP Y<|en k16<|aB<|rP mv<|rP bi<|rP Y<|aM<|bk (ra [(38,0),(3,0)]) ⟨x19,(IntKind.i64.wrap (au+1)),aI h hq12,rfl⟩
 ·refine bc<|tk (ah h hq12) fun h=>k9 _<|sr fun _ k20=>rP mv<|rP Y<|en k20<|ac<|by cases h;exact rB [(24,0)]
def qK (a1:List az) (cA:List UInt8) (au:Int):Option ((List UInt8×Int)⊕(List UInt8)):=
 if(decide (au<(List.length a1:Int)))=true then(gd (0≤au) (Option.bind (a1[(Int.toNat au)]?) (fun(x13:az)=>Option.bind (qH cA x13.Trace) (fun(x14:List UInt8)=>gd (0≤au) (Option.bind (a1[(Int.toNat au)]?) (fun(x16:az)=>Option.bind (qJ x14 x16) (fun(x17:List UInt8)=>some (Sum.inl (x17,(IntKind.i64.wrap (au+1)))))))))))else(some (Sum.inr cA))
def oA (a0:List UInt8) (a1:List az):Option (List UInt8):=
 Option.bind (dm a0 (IntKind.u64.wrap (List.length a1:Int))) (fun(x3:List UInt8)=>am (fun(s:List UInt8×Int)=>qK a1 s.1 s.2) Fu (x3,0))
theorem GH (a0:List UInt8) (a1:List az) {r:List UInt8} (h:oA a0 a1=some r):Ok Tryz.prog 63 [.own 1 0,.sl 6 (List.map ak a1)] [] [(5,1,List.map ag a0)] (.own 2 0) [] [(5,1,List.map ag r)]:=by
 refine oK Tryz.func63 rfl fun X=>sr fun _ k1=>rP Y<|en k1<|sr fun _ k2=>rP mv<|rP mv<|rP (zl bp)<|rP (cK (v:=.int .u64 (IntKind.u64.wrap (List.length a1:Int))) W_ (cL ae) (cB bd) rfl)<|bE h fun x3 y3 h=>rD (cG [] [(1,0)] [] (d7 a0 (IntKind.u64.wrap (List.length a1:Int)) y3) d8 (.inr ⟨rfl,rfl,⟨cr (fun _=>rfl),trivial⟩⟩))<|rP Y<|en k2<|ai fun _ k4=>sr fun _ k5=>rP Y<|en k5<|ax<|bv (fun m s=>∃(cA:List UInt8),∃(au:Int),am (fun(s:List UInt8×Int)=>qK a1 s.1 s.2) m (cA,au)=some r∧s=lit [(0,.own 10 0),(1,.sl 6 (List.map ak a1)),(5,.int .i64 au)] [((10,0),.arr 5 1 false (List.map ag cA))] [(10,1)] X) Fu
  ⟨_,ra [(10,0)],x3,0,h,rfl⟩ ?_
 rintro m s ⟨cA,au,h,rfl⟩
 obtain⟨m0,q6,rfl,h,hq7⟩:=bu h
 replace h:qK a1 cA au=some q6:=h
 refine ai fun _ k8=>sr fun _ k9=>rP mv<|rP mv<|rP (zl bp)<|rP bi<|en k9<|wi 14 h (fun c10 h=>?_) fun c10 h=>?_
 ·refine aq<|k8 _<|ai fun _ k11=>ax<|cD (by kernel_rfl) (by decide +kernel)<|tP mv<|tP mv<|tP mv<|gE h fun g12 h=>bE h fun x13 y13 h=>tP (ia bp aZ g12 y13)<|tP (fa aZ bX)<|tR (cu (v:=.agg [.int .u64 x13.Trace.Hi,.int .u64 x13.Trace.Lo]) W_ W_ bX R_)<|bE h fun x14 y14 h=>tD (cG [] [(10,0)] [] (Bz cA x13.Trace y14) Bl (.inr ⟨rfl,rfl,⟨cr (fun _=>rfl),trivial⟩⟩))<|tP mv<|tP mv<|gE h fun g15 h=>bE h fun x16 y16 h=>tP (ia bp aZ g15 y16)<|tR (cu (v:=.agg [.int .u64 x16.Trace.Hi,.int .u64 x16.Trace.Lo,.int .i64 x16.First,.int .i64 x16.Last,.bool x16.Sure,.sl 10 (List.map ch x16.Spans)]) W_ W_ aZ R_)<|bE h fun x17 y17 h=>tD (cG [] [(23,0)] [] (QB x14 x16 y17) Qi (.inr ⟨rfl,rfl,⟨cr (fun _=>rfl),trivial⟩⟩))<|tP Y<|cc (by kernel_rfl)<|k11 _<|aB<|rP mv<|rP bi<|rP Y<|aM<|bk (ra [(28,0)]) ⟨x17,(IntKind.i64.wrap (au+1)),aI h hq7,rfl⟩
 ·refine bc<|tk (ah h hq7) fun h=>k4 _<|sr fun _ k18=>rP mv<|rP Y<|en k18<|ac<|by cases h;exact rB [(10,0)]
def oB (a0:aC) (lU:List UInt8) (bg:Int):Option ((List UInt8×Int)⊕(List UInt8)):=
 if(decide (bg<(List.length a0.Memo:Int)))=true then(gd (0≤bg) (Option.bind (a0.Memo[(Int.toNat bg)]?) (fun(x27:bT)=>Option.bind (qH lU x27.Trace) (fun(x28:List UInt8)=>gd (0≤bg) (Option.bind (a0.Memo[(Int.toNat bg)]?) (fun(x30:bT)=>Option.bind (mP x30.Kept) (fun(x31:Int)=>Option.bind (dm x28 x31) (fun(x32:List UInt8)=>some (Sum.inl (x32,(IntKind.i64.wrap (bg+1))))))))))))else(some (Sum.inr lU))
def oC (gP:Int) (x46:bo) (lV:List UInt8) (iP:Int):Option ((List UInt8×Int)⊕((List UInt8×Int)⊕(List UInt8))):=
 if(decide (iP<8))=true then(gd (0≤iP) (gd (iP<8) (Option.bind (([x46.Counter.By.c0,x46.Counter.By.c1,x46.Counter.By.c2,x46.Counter.By.c3,x46.Counter.By.c4,x46.Counter.By.c5,x46.Counter.By.c6,x46.Counter.By.c7]:List Int)[(Int.toNat iP)]?) (fun(x63:Int)=>Option.bind (dm lV (IntKind.u64.wrap x63)) (fun(x64:List UInt8)=>some (Sum.inl (x64,(IntKind.i64.wrap (iP+1)))))))))else(some (Sum.inr (Sum.inl (lV,(IntKind.i64.wrap (gP+1))))))
def oD (a0:aC) (lW:List UInt8) (gP:Int):Option ((List UInt8×Int)⊕(List UInt8)):=
 if(decide (gP<(List.length a0.Rows:Int)))=true then(gd (0≤gP) (Option.bind (a0.Rows[(Int.toNat gP)]?) (fun(x46:bo)=>Option.bind (kb lW [x46.Level,x46.Window]) (fun(x48:List UInt8)=>Option.bind (ga x48 x46.Service) (fun(x50:List UInt8)=>Option.bind (ga x50 x46.Op) (fun(x51:List UInt8)=>Option.bind (kb x51 [x46.Counter.Count,x46.Counter.Errs]) (fun(x53:List UInt8)=>am (fun(s:List UInt8×Int)=>oC gP x46 s.1 s.2) Fu (x53,0))))))))else(some (Sum.inr lW))
def oE (a0:aC) (lX:List UInt8) (gf:Int):Option ((List UInt8×Int)⊕(List UInt8)):=
 if(decide (gf<(List.length a0.Edges:Int)))=true then(gd (0≤gf) (Option.bind (a0.Edges[(Int.toNat gf)]?) (fun(x78:Edge)=>Option.bind (ga lX x78.From) (fun(x79:List UInt8)=>Option.bind (ga x79 x78.To) (fun(x80:List UInt8)=>Option.bind (kb x80 [x78.Count,x78.Errs]) (fun(x81:List UInt8)=>some (Sum.inl (x81,(IntKind.i64.wrap (gf+1))))))))))else(some (Sum.inr lX))
def oF (a0:aC) (lY:List UInt8) (eg:Int):Option ((List UInt8×Int)⊕(List UInt8)):=
 if(decide (eg<(List.length a0.Slots:Int)))=true then(gd (0≤eg) (Option.bind (a0.Slots[(Int.toNat eg)]?) (fun(x95:bz)=>Option.bind (ga lY x95.Service) (fun(x97:List UInt8)=>Option.bind (ga x97 x95.Op) (fun(x98:List UInt8)=>Option.bind (qH x98 x95.Trace) (fun(x99:List UInt8)=>Option.bind (dm x99 x95.Id) (fun(x100:List UInt8)=>Option.bind (dm x100 (IntKind.u64.wrap x95.Block)) (fun(x101:List UInt8)=>some (Sum.inl (x101,(IntKind.i64.wrap (eg+1))))))))))))else(some (Sum.inr lY))
def oG (a0:aC) (lZ:List UInt8) (ir:Int):Option ((List UInt8×Int)⊕(List UInt8)):=
 if(decide (ir<(List.length a0.Blocks:Int)))=true then(gd (0≤ir) (Option.bind (a0.Blocks[(Int.toNat ir)]?) (fun(x114:Block)=>gd (0≤ir) (Option.bind (a0.Blocks[(Int.toNat ir)]?) (fun(x116:Block)=>gd (0≤ir) (Option.bind (a0.Blocks[(Int.toNat ir)]?) (fun(x118:Block)=>Option.bind (kb lZ [x114.Number,x116.Born,x118.Tier]) (fun(x119:List UInt8)=>some (Sum.inl (x119,(IntKind.i64.wrap (ir+1))))))))))))else(some (Sum.inr lZ))
def BA (qO:List UInt8):Option (List UInt8):=
 Option.bind (vQ qO) (fun(x121:List UInt8)=>some x121)
def BB (a0:aC) (qQ:List UInt8):Option (List UInt8):=
 Option.bind (dm qQ (IntKind.u64.wrap (List.length a0.Blocks:Int))) (fun(x103:List UInt8)=>Option.bind (am (fun(s:List UInt8×Int)=>oG a0 s.1 s.2) Fu (x103,0)) (fun(s:List UInt8)=>BA s))
def BC (a0:aC) (qT:List UInt8):Option (List UInt8):=
 Option.bind (dm qT (IntKind.u64.wrap (List.length a0.Slots:Int))) (fun(x83:List UInt8)=>Option.bind (am (fun(s:List UInt8×Int)=>oF a0 s.1 s.2) Fu (x83,0)) (fun(s:List UInt8)=>BB a0 s))
def BD (a0:aC) (qU:List UInt8):Option (List UInt8):=
 Option.bind (dm qU (IntKind.u64.wrap (List.length a0.Edges:Int))) (fun(x66:List UInt8)=>Option.bind (am (fun(s:List UInt8×Int)=>oE a0 s.1 s.2) Fu (x66,0)) (fun(s:List UInt8)=>BC a0 s))
def BE (a0:aC) (qV:List UInt8):Option (List UInt8):=
 Option.bind (dm qV (IntKind.u64.wrap (List.length a0.Rows:Int))) (fun(x34:List UInt8)=>Option.bind (am (fun(s:List UInt8×Int)=>oD a0 s.1 s.2) Fu (x34,0)) (fun(s:List UInt8)=>BD a0 s))
def oH (a0:aC):Option (List UInt8):=
 Option.bind (qy a0) (fun(x4:Bool)=>if(!x4)=true then(some [])else(Option.bind (wh a0.Policy) (fun(x8:List UInt8)=>Option.bind (kb [] [a0.Now,a0.Sec,a0.Kept,a0.Next,(List.length x8:Int)]) (fun(x10:List UInt8)=>gd ((List.length (x10++x8))*1≤140737488355328∧(List.length (x10++x8))≤140737488355328) (Option.bind (oA (x10++x8) a0.Open) (fun(x13:List UInt8)=>Option.bind (oA x13 a0.Pending) (fun(x14:List UInt8)=>Option.bind (dm x14 (IntKind.u64.wrap (List.length a0.Memo:Int))) (fun(x16:List UInt8)=>Option.bind (am (fun(s:List UInt8×Int)=>oB a0 s.1 s.2) Fu (x16,0)) (fun(s:List UInt8)=>BE a0 s)))))))))
theorem GI (a0:aC) {r:List UInt8} (h:oH a0=some r):Ok Tryz.prog 16 [.agg [.int .i64 a0.Now,.int .i64 a0.Sec,.int .i64 a0.Kept,.int .i64 a0.Next,.int .i64 a0.Policy.Kind,.int .i64 a0.Policy.N,.str a0.Policy.Key,.str a0.Policy.Value,.sl 5 (List.map aj a0.Policy.Kids),.sl 6 (List.map ak a0.Open),.sl 6 (List.map ak a0.Pending),.sl 3 (List.map aQ a0.Memo),.sl 14 (List.map aP a0.Rows),.sl 4 (List.map aU a0.Edges),.sl 6 (List.map aV a0.Slots),.sl 4 (List.map aR a0.Blocks)]] [] [] (.own 2 0) [] [(5,1,List.map ag r)]:=by
 refine oK Tryz.func16 rfl fun X=>sr fun _ k1=>rD (bY W_ rfl rfl)<|rP Y<|en k1<|ai fun _ k2=>sr fun _ k3=>pl 14 (.agg [.int .i64 a0.Now,.int .i64 a0.Sec,.int .i64 a0.Kept,.int .i64 a0.Next,.int .i64 a0.Policy.Kind,.int .i64 a0.Policy.N,.str a0.Policy.Key,.str a0.Policy.Value,.sl 5 (List.map aj a0.Policy.Kids),.sl 6 (List.map ak a0.Open),.sl 6 (List.map ak a0.Pending),.sl 3 (List.map aQ a0.Memo),.sl 14 (List.map aP a0.Rows),.sl 4 (List.map aU a0.Edges),.sl 6 (List.map aV a0.Slots),.sl 4 (List.map aR a0.Blocks)]) av<|bE h fun x4 y4 h=>rD (cZ (Gy a0 y4) GC)<|rP un<|en k3<|wi 16 h (fun c5 h=>?_) fun c5 h=>?_
 ·refine sr fun _ k6=>rP Y<|en k6<|eZ 2 5 1 W_ D_ D_<|ac<|by cases h;exact rB [(2,0)]
 ·refine aq<|k2 _<|sr fun _ k7=>rP (fa av ar)<|pl 18 (.agg [.int .i64 a0.Policy.Kind,.int .i64 a0.Policy.N,.str a0.Policy.Key,.str a0.Policy.Value,.sl 5 (List.map aj a0.Policy.Kids)]) ar<|bE h fun x8 y8 h=>rD (cZ (Nd a0.Policy y8) P9)<|rP Y<|en k7<|sr fun _ k9=>rP (fa av ae)<|rX (ld ae)<|rP (fa av ae)<|rX (ld ae)<|rP (fa av ae)<|rX (ld ae)<|rP (fa av ae)<|rX (ld ae)<|rP mv<|rX ((xZ W_ W_ aH).cast (v':=.int .i64 (List.length x8:Int)) (by exact um _))<|rD (bs (List.map cH [a0.Now,a0.Sec,a0.Kept,a0.Next,(List.length x8:Int)]) da ae rfl)<|bE h fun x10 y10 h=>rD (cG [] [] [(30,0)] ((tU [] [a0.Now,a0.Sec,a0.Kept,a0.Next,(List.length x8:Int)] y10).nilRow0) tF (.inr ⟨rfl,rfl,⟨cr (fun _=>rfl),trivial⟩⟩))<|rP Y<|en k9<|ai fun _ k11=>cD (by kernel_rfl) (by decide +kernel)<|tP mv<|tP mv<|gE h fun g12 h=>tD (dw (v:=List.map ag (x10++x8)) W_ W_ aH bG rfl rfl W_ (by first | exact .inl rfl | exact .inr ⟨rfl,rfl⟩) W_ (by first | exact .inr rfl | exact .inl rfl) (dL _ _) (dv g12))<|tP (fa av bp)<|tR (ld bp)<|bE h fun x13 y13 h=>tD (cG [] [(34,0)] [] (GH (x10++x8) a0.Open y13) GD (.inr ⟨rfl,rfl,⟨cr (fun _=>rfl),trivial⟩⟩))<|tP (fa av bp)<|tR (ld bp)<|bE h fun x14 y14 h=>tD (cG [] [(37,0)] [] (GH x13 a0.Pending y14) GD (.inr ⟨rfl,rfl,⟨cr (fun _=>rfl),trivial⟩⟩))<|tP Y<|cc (by kernel_rfl)<|k11 _<|sr fun _ k15=>rP mv<|rP (fa av ci)<|rX (ld ci)<|rP (zl ci)<|rP (cK (v:=.int .u64 (IntKind.u64.wrap (List.length a0.Memo:Int))) W_ (cL ae) (cB bd) rfl)<|bE h fun x16 y16 h=>rD (cG [] [(40,0)] [] (d7 x14 (IntKind.u64.wrap (List.length a0.Memo:Int)) y16) d8 (.inr ⟨rfl,rfl,⟨cr (fun _=>rfl),trivial⟩⟩))<|rP Y<|en k15<|bE h fun q17 h hk18=>bx (fun s=>∃(qV:List UInt8),BE a0 qV=some r∧s=lit [(1,.ptr 1 0 0),(4,.own 46 0)] [((1,0),.box [.int .i64 a0.Now,.int .i64 a0.Sec,.int .i64 a0.Kept,.int .i64 a0.Next,.int .i64 a0.Policy.Kind,.int .i64 a0.Policy.N,.str a0.Policy.Key,.str a0.Policy.Value,.sl 5 (List.map aj a0.Policy.Kids),.sl 6 (List.map ak a0.Open),.sl 6 (List.map ak a0.Pending),.sl 3 (List.map aQ a0.Memo),.sl 14 (List.map aP a0.Rows),.sl 4 (List.map aU a0.Edges),.sl 6 (List.map aV a0.Slots),.sl 4 (List.map aR a0.Blocks)]),((46,0),.arr 5 1 false (List.map ag qV))] [(1,1),(46,1)] X) ?_ ?_
  ·skip
   refine sr fun _ k19=>rP Y<|en k19<|ax<|bv (fun m s=>∃(lU:List UInt8),∃(bg:Int),am (fun(s:List UInt8×Int)=>oB a0 s.1 s.2) m (lU,bg)=some q17∧s=lit [(1,.ptr 1 0 0),(4,.own 46 0),(5,.int .i64 bg)] [((1,0),.box [.int .i64 a0.Now,.int .i64 a0.Sec,.int .i64 a0.Kept,.int .i64 a0.Next,.int .i64 a0.Policy.Kind,.int .i64 a0.Policy.N,.str a0.Policy.Key,.str a0.Policy.Value,.sl 5 (List.map aj a0.Policy.Kids),.sl 6 (List.map ak a0.Open),.sl 6 (List.map ak a0.Pending),.sl 3 (List.map aQ a0.Memo),.sl 14 (List.map aP a0.Rows),.sl 4 (List.map aU a0.Edges),.sl 6 (List.map aV a0.Slots),.sl 4 (List.map aR a0.Blocks)]),((46,0),.arr 5 1 false (List.map ag lU))] [(1,1),(46,1)] X) Fu
    ⟨_,ra [(1,0),(46,0)],x16,0,h,rfl⟩ ?_
   rintro m s ⟨lU,bg,h,rfl⟩
   obtain⟨m1,q20,rfl,h,hq21⟩:=bu h
   replace h:oB a0 lU bg=some q20:=h
   refine ai fun _ k22=>sr fun _ k23=>rP mv<|rP (fa av ci)<|rX (ld ci)<|rP (zl ci)<|rP bi<|en k23<|wi 51 h (fun c24 h=>?_) fun c24 h=>?_
   ·refine aq<|k22 _<|ai fun _ k25=>ax<|cD (by kernel_rfl) (by decide +kernel)<|tP mv<|tP (fa av ci)<|tR (ld ci)<|tP mv<|gE h fun g26 h=>bE h fun x27 y27 h=>tP (ia ci dW g26 y27)<|tP (fa dW bX)<|tR (cu (v:=.agg [.int .u64 x27.Trace.Hi,.int .u64 x27.Trace.Lo]) W_ W_ bX R_)<|bE h fun x28 y28 h=>tD (cG [] [(46,0)] [] (Bz lU x27.Trace y28) Bl (.inr ⟨rfl,rfl,⟨cr (fun _=>rfl),trivial⟩⟩))<|tP (fa av ci)<|tR (ld ci)<|tP mv<|gE h fun g29 h=>bE h fun x30 y30 h=>tP (ia ci dW g29 y30)<|tP (fa dW aN)<|tR (ld aN)<|bE h fun x31 y31 h=>tD (cZ (Ap x30.Kept y31) Ao)<|bE h fun x32 y32 h=>tD (cG [] [(61,0)] [] (d7 x28 x31 y32) d8 (.inr ⟨rfl,rfl,⟨cr (fun _=>rfl),trivial⟩⟩))<|tP Y<|cc (by kernel_rfl)<|k25 _<|aB<|rP mv<|rP bi<|rP Y<|aM<|bk (ra [(1,0),(69,0)]) ⟨x32,(IntKind.i64.wrap (bg+1)),aI h hq21,rfl⟩
   ·refine bc<|tk (ah h hq21) fun h=>?_
    obtain rfl:=Option.some.inj h
    have h:=hk18
    exact⟨_,ra [(1,0),(46,0)],lU,h,rfl⟩
  ·rintro s ⟨qV,h,rfl⟩
   refine sr fun _ k33=>rP mv<|rP (fa av bU)<|rX (ld bU)<|rP (zl bU)<|rP (cK (v:=.int .u64 (IntKind.u64.wrap (List.length a0.Rows:Int))) W_ (cL ae) (cB bd) rfl)<|bE h fun x34 y34 h=>rD (cG [] [(46,0)] [] (d7 qV (IntKind.u64.wrap (List.length a0.Rows:Int)) y34) d8 (.inr ⟨rfl,rfl,⟨cr (fun _=>rfl),trivial⟩⟩))<|rP Y<|en k33<|bE h fun q35 h hk36=>bx (fun s=>∃(qU:List UInt8),BD a0 qU=some r∧s=lit [(1,.ptr 1 0 0),(4,.own 75 0)] [((1,0),.box [.int .i64 a0.Now,.int .i64 a0.Sec,.int .i64 a0.Kept,.int .i64 a0.Next,.int .i64 a0.Policy.Kind,.int .i64 a0.Policy.N,.str a0.Policy.Key,.str a0.Policy.Value,.sl 5 (List.map aj a0.Policy.Kids),.sl 6 (List.map ak a0.Open),.sl 6 (List.map ak a0.Pending),.sl 3 (List.map aQ a0.Memo),.sl 14 (List.map aP a0.Rows),.sl 4 (List.map aU a0.Edges),.sl 6 (List.map aV a0.Slots),.sl 4 (List.map aR a0.Blocks)]),((75,0),.arr 5 1 false (List.map ag qU))] [(1,1),(75,1)] X) ?_ ?_
   ·skip
    refine sr fun _ k37=>rP Y<|en k37<|ax<|bv (fun m s=>∃(lW:List UInt8),∃(gP:Int),am (fun(s:List UInt8×Int)=>oD a0 s.1 s.2) m (lW,gP)=some q35∧s=lit [(1,.ptr 1 0 0),(4,.own 75 0),(6,.int .i64 gP)] [((1,0),.box [.int .i64 a0.Now,.int .i64 a0.Sec,.int .i64 a0.Kept,.int .i64 a0.Next,.int .i64 a0.Policy.Kind,.int .i64 a0.Policy.N,.str a0.Policy.Key,.str a0.Policy.Value,.sl 5 (List.map aj a0.Policy.Kids),.sl 6 (List.map ak a0.Open),.sl 6 (List.map ak a0.Pending),.sl 3 (List.map aQ a0.Memo),.sl 14 (List.map aP a0.Rows),.sl 4 (List.map aU a0.Edges),.sl 6 (List.map aV a0.Slots),.sl 4 (List.map aR a0.Blocks)]),((75,0),.arr 5 1 false (List.map ag lW))] [(1,1),(75,1)] X) Fu
     ⟨_,ra [(1,0),(75,0)],x34,0,h,rfl⟩ ?_
    rintro m s ⟨lW,gP,h,rfl⟩
    obtain⟨m3,q38,rfl,h,hq39⟩:=bu h
    replace h:oD a0 lW gP=some q38:=h
    refine ai fun _ k40=>sr fun _ k41=>rP mv<|rP (fa av bU)<|rX (ld bU)<|rP (zl bU)<|rP bi<|en k41<|wi 80 h (fun c42 h=>?_) fun c42 h=>?_
    ·refine aq<|k40 _<|ai fun _ k43=>ax<|sr fun _ k44=>rP (fa av bU)<|rX (ld bU)<|rP mv<|gE h fun g45 h=>bE h fun x46 y46 h=>rP (ia bU bS g45 y46)<|pl 87 (.agg [.int .i64 x46.Level,.int .i64 x46.Window,.str x46.Service,.str x46.Op,.int .i64 x46.Counter.Count,.int .i64 x46.Counter.Errs,.int .i64 x46.Counter.By.c0,.int .i64 x46.Counter.By.c1,.int .i64 x46.Counter.By.c2,.int .i64 x46.Counter.By.c3,.int .i64 x46.Counter.By.c4,.int .i64 x46.Counter.By.c5,.int .i64 x46.Counter.By.c6,.int .i64 x46.Counter.By.c7]) bS<|rD (nw bS)<|pZ (aA [.int .i64 x46.Level,.int .i64 x46.Window,.str x46.Service,.str x46.Op,.int .i64 x46.Counter.Count,.int .i64 x46.Counter.Errs,.int .i64 x46.Counter.By.c0,.int .i64 x46.Counter.By.c1,.int .i64 x46.Counter.By.c2,.int .i64 x46.Counter.By.c3,.int .i64 x46.Counter.By.c4,.int .i64 x46.Counter.By.c5,.int .i64 x46.Counter.By.c6,.int .i64 x46.Counter.By.c7] bS)<|en k44<|sr fun _ k47=>rP mv<|rP (fa bS ae)<|rX (ld ae)<|rP (fa bS ae)<|rX (ld ae)<|rD (bs (List.map cH [x46.Level,x46.Window]) da ae rfl)<|bE h fun x48 y48 h=>rD (cG [] [(75,0)] [(93,0)] (tU lW [x46.Level,x46.Window] y48) tF (.inr ⟨rfl,rfl,⟨cr (fun _=>rfl),trivial⟩⟩))<|rP Y<|en k47<|ai fun _ k49=>cD (by kernel_rfl) (by decide +kernel)<|tP mv<|tP (fa bS ap)<|tR (ld ap)<|bE h fun x50 y50 h=>tD (cG [] [(94,0)] [] (jj x48 x46.Service y50) jp (.inr ⟨rfl,rfl,⟨cr (fun _=>rfl),trivial⟩⟩))<|tP (fa bS ap)<|tR (ld ap)<|bE h fun x51 y51 h=>tD (cG [] [(98,0)] [] (jj x50 x46.Op y51) jp (.inr ⟨rfl,rfl,⟨cr (fun _=>rfl),trivial⟩⟩))<|tP Y<|cc (by kernel_rfl)<|k49 _<|sr fun _ k52=>rP mv<|rP (fa bS dp)<|rP (fa dp ae)<|rX (ld ae)<|rP (fa bS dp)<|rP (fa dp ae)<|rX (ld ae)<|rD (bs (List.map cH [x46.Counter.Count,x46.Counter.Errs]) da ae rfl)<|bE h fun x53 y53 h=>rD (cG [] [(101,0)] [(109,0)] (tU x51 [x46.Counter.Count,x46.Counter.Errs] y53) tF (.inr ⟨rfl,rfl,⟨cr (fun _=>rfl),trivial⟩⟩))<|rP Y<|en k52<|sr fun _ k54=>rP Y<|en k54<|ax<|bv (fun m s=>∃(lV:List UInt8),∃(iP:Int),am (fun(s:List UInt8×Int)=>oC gP x46 s.1 s.2) m (lV,iP)=some q38∧s=lit [(1,.ptr 1 0 0),(4,.own 110 0),(6,.int .i64 gP),(7,.ptr 7 0 0),(8,.int .i64 iP)] [((1,0),.box [.int .i64 a0.Now,.int .i64 a0.Sec,.int .i64 a0.Kept,.int .i64 a0.Next,.int .i64 a0.Policy.Kind,.int .i64 a0.Policy.N,.str a0.Policy.Key,.str a0.Policy.Value,.sl 5 (List.map aj a0.Policy.Kids),.sl 6 (List.map ak a0.Open),.sl 6 (List.map ak a0.Pending),.sl 3 (List.map aQ a0.Memo),.sl 14 (List.map aP a0.Rows),.sl 4 (List.map aU a0.Edges),.sl 6 (List.map aV a0.Slots),.sl 4 (List.map aR a0.Blocks)]),((110,0),.arr 5 1 false (List.map ag lV)),((7,0),.box [.int .i64 x46.Level,.int .i64 x46.Window,.str x46.Service,.str x46.Op,.int .i64 x46.Counter.Count,.int .i64 x46.Counter.Errs,.int .i64 x46.Counter.By.c0,.int .i64 x46.Counter.By.c1,.int .i64 x46.Counter.By.c2,.int .i64 x46.Counter.By.c3,.int .i64 x46.Counter.By.c4,.int .i64 x46.Counter.By.c5,.int .i64 x46.Counter.By.c6,.int .i64 x46.Counter.By.c7])] [(1,1),(7,1),(110,1)] X) Fu
      ⟨_,ra [(1,0),(110,0),(7,0)],x53,0,h,rfl⟩ ?_
     rintro m s ⟨lV,iP,h,rfl⟩
     obtain⟨m4,q55,rfl,h,hq56⟩:=bu h
     replace h:oC gP x46 lV iP=some q55:=h
     refine ai fun _ k57=>sr fun _ k58=>rP mv<|rP bi<|en k58<|wi 112 h (fun c59 h=>?_) fun c59 h=>?_
     ·refine aq<|k57 _<|ai fun _ k60=>ax<|aB<|rP mv<|rP mv<|rP (fa bS dp)<|rP (fa dp jq)<|gE h fun g61 h=>gE h fun g62 h=>bE h fun x63 y63 h=>rP (uE (q:=.ptr 7 0 (6+(Int.toNat iP)*1)) W_ W_ jq ae g61 g62 rfl)<|rX (cu (v:=.int .i64 x63) W_ (CA R_) ae (CJ (off:=6) (f:=cH) (l:=[x46.Counter.By.c0,x46.Counter.By.c1,x46.Counter.By.c2,x46.Counter.By.c3,x46.Counter.By.c4,x46.Counter.By.c5,x46.Counter.By.c6,x46.Counter.By.c7]) (pre:=[.int .i64 x46.Level,.int .i64 x46.Window,.str x46.Service,.str x46.Op,.int .i64 x46.Counter.Count,.int .i64 x46.Counter.Errs]) (post:=[]) (i:=(Int.toNat iP)) rfl rfl y63))<|rP (cK (v:=.int .u64 (IntKind.u64.wrap x63)) W_ (cL ae) (cB bd) rfl)<|bE h fun x64 y64 h=>rD (cG [] [(110,0)] [] (d7 lV (IntKind.u64.wrap x63) y64) d8 (.inr ⟨rfl,rfl,⟨cr (fun _=>rfl),trivial⟩⟩))<|rP Y<|en k60<|aB<|rP mv<|rP bi<|rP Y<|aM<|bk (ra [(1,0),(122,0),(7,0)]) ⟨x64,(IntKind.i64.wrap (iP+1)),aI h hq56,rfl⟩
     ·refine bc<|tk (ah h hq56) fun h=>k43 _<|aB<|rP mv<|rP bi<|rP Y<|aM<|bk (ra [(1,0),(110,0)]) ⟨lV,(IntKind.i64.wrap (gP+1)),aI h hq39,rfl⟩
    ·refine bc<|tk (ah h hq39) fun h=>?_
     obtain rfl:=Option.some.inj h
     have h:=hk36
     exact⟨_,ra [(1,0),(75,0)],lW,h,rfl⟩
   ·rintro s ⟨qU,h,rfl⟩
    refine sr fun _ k65=>rP mv<|rP (fa av bH)<|rX (ld bH)<|rP (zl bH)<|rP (cK (v:=.int .u64 (IntKind.u64.wrap (List.length a0.Edges:Int))) W_ (cL ae) (cB bd) rfl)<|bE h fun x66 y66 h=>rD (cG [] [(75,0)] [] (d7 qU (IntKind.u64.wrap (List.length a0.Edges:Int)) y66) d8 (.inr ⟨rfl,rfl,⟨cr (fun _=>rfl),trivial⟩⟩))<|rP Y<|en k65<|bE h fun q67 h hk68=>bx (fun s=>∃(qT:List UInt8),BC a0 qT=some r∧s=lit [(1,.ptr 1 0 0),(4,.own 128 0)] [((1,0),.box [.int .i64 a0.Now,.int .i64 a0.Sec,.int .i64 a0.Kept,.int .i64 a0.Next,.int .i64 a0.Policy.Kind,.int .i64 a0.Policy.N,.str a0.Policy.Key,.str a0.Policy.Value,.sl 5 (List.map aj a0.Policy.Kids),.sl 6 (List.map ak a0.Open),.sl 6 (List.map ak a0.Pending),.sl 3 (List.map aQ a0.Memo),.sl 14 (List.map aP a0.Rows),.sl 4 (List.map aU a0.Edges),.sl 6 (List.map aV a0.Slots),.sl 4 (List.map aR a0.Blocks)]),((128,0),.arr 5 1 false (List.map ag qT))] [(1,1),(128,1)] X) ?_ ?_
    ·skip
     refine sr fun _ k69=>rP Y<|en k69<|ax<|bv (fun m s=>∃(lX:List UInt8),∃(gf:Int),am (fun(s:List UInt8×Int)=>oE a0 s.1 s.2) m (lX,gf)=some q67∧s=lit [(1,.ptr 1 0 0),(4,.own 128 0),(9,.int .i64 gf)] [((1,0),.box [.int .i64 a0.Now,.int .i64 a0.Sec,.int .i64 a0.Kept,.int .i64 a0.Next,.int .i64 a0.Policy.Kind,.int .i64 a0.Policy.N,.str a0.Policy.Key,.str a0.Policy.Value,.sl 5 (List.map aj a0.Policy.Kids),.sl 6 (List.map ak a0.Open),.sl 6 (List.map ak a0.Pending),.sl 3 (List.map aQ a0.Memo),.sl 14 (List.map aP a0.Rows),.sl 4 (List.map aU a0.Edges),.sl 6 (List.map aV a0.Slots),.sl 4 (List.map aR a0.Blocks)]),((128,0),.arr 5 1 false (List.map ag lX))] [(1,1),(128,1)] X) Fu
      ⟨_,ra [(1,0),(128,0)],x66,0,h,rfl⟩ ?_
     rintro m s ⟨lX,gf,h,rfl⟩
     obtain⟨m6,q70,rfl,h,hq71⟩:=bu h
     replace h:oE a0 lX gf=some q70:=h
     refine ai fun _ k72=>sr fun _ k73=>rP mv<|rP (fa av bH)<|rX (ld bH)<|rP (zl bH)<|rP bi<|en k73<|wi 133 h (fun c74 h=>?_) fun c74 h=>?_
     ·refine aq<|k72 _<|ai fun _ k75=>ax<|sr fun _ k76=>rP (fa av bH)<|rX (ld bH)<|rP mv<|gE h fun g77 h=>bE h fun x78 y78 h=>rP (ia bH cm g77 y78)<|pl 140 (.agg [.str x78.From,.str x78.To,.int .i64 x78.Count,.int .i64 x78.Errs]) cm<|rD (nw cm)<|pZ (aA [.str x78.From,.str x78.To,.int .i64 x78.Count,.int .i64 x78.Errs] cm)<|en k76<|cD (by kernel_rfl) (by decide +kernel)<|tP mv<|tP (fa cm ap)<|tR (ld ap)<|bE h fun x79 y79 h=>tD (cG [] [(128,0)] [] (jj lX x78.From y79) jp (.inr ⟨rfl,rfl,⟨cr (fun _=>rfl),trivial⟩⟩))<|tP (fa cm ap)<|tR (ld ap)<|bE h fun x80 y80 h=>tD (cG [] [(144,0)] [] (jj x79 x78.To y80) jp (.inr ⟨rfl,rfl,⟨cr (fun _=>rfl),trivial⟩⟩))<|tP (fa cm ae)<|tR (ld ae)<|tP (fa cm ae)<|tR (ld ae)<|tD (bs (List.map cH [x78.Count,x78.Errs]) da ae rfl)<|bE h fun x81 y81 h=>tD (cG [] [(147,0)] [(152,0)] (tU x80 [x78.Count,x78.Errs] y81) tF (.inr ⟨rfl,rfl,⟨cr (fun _=>rfl),trivial⟩⟩))<|tP Y<|cc (by kernel_rfl)<|k75 _<|aB<|rP mv<|rP bi<|rP Y<|aM<|bk (ra [(1,0),(153,0)]) ⟨x81,(IntKind.i64.wrap (gf+1)),aI h hq71,rfl⟩
     ·refine bc<|tk (ah h hq71) fun h=>?_
      obtain rfl:=Option.some.inj h
      have h:=hk68
      exact⟨_,ra [(1,0),(128,0)],lX,h,rfl⟩
    ·rintro s ⟨qT,h,rfl⟩
     refine sr fun _ k82=>rP mv<|rP (fa av bO)<|rX (ld bO)<|rP (zl bO)<|rP (cK (v:=.int .u64 (IntKind.u64.wrap (List.length a0.Slots:Int))) W_ (cL ae) (cB bd) rfl)<|bE h fun x83 y83 h=>rD (cG [] [(128,0)] [] (d7 qT (IntKind.u64.wrap (List.length a0.Slots:Int)) y83) d8 (.inr ⟨rfl,rfl,⟨cr (fun _=>rfl),trivial⟩⟩))<|rP Y<|en k82<|bE h fun q84 h hk85=>bx (fun s=>∃(qQ:List UInt8),BB a0 qQ=some r∧s=lit [(1,.ptr 1 0 0),(4,.own 159 0)] [((1,0),.box [.int .i64 a0.Now,.int .i64 a0.Sec,.int .i64 a0.Kept,.int .i64 a0.Next,.int .i64 a0.Policy.Kind,.int .i64 a0.Policy.N,.str a0.Policy.Key,.str a0.Policy.Value,.sl 5 (List.map aj a0.Policy.Kids),.sl 6 (List.map ak a0.Open),.sl 6 (List.map ak a0.Pending),.sl 3 (List.map aQ a0.Memo),.sl 14 (List.map aP a0.Rows),.sl 4 (List.map aU a0.Edges),.sl 6 (List.map aV a0.Slots),.sl 4 (List.map aR a0.Blocks)]),((159,0),.arr 5 1 false (List.map ag qQ))] [(1,1),(159,1)] X) ?_ ?_
     ·skip
      refine sr fun _ k86=>rP Y<|en k86<|ax<|bv (fun m s=>∃(lY:List UInt8),∃(eg:Int),am (fun(s:List UInt8×Int)=>oF a0 s.1 s.2) m (lY,eg)=some q84∧s=lit [(1,.ptr 1 0 0),(4,.own 159 0),(11,.int .i64 eg)] [((1,0),.box [.int .i64 a0.Now,.int .i64 a0.Sec,.int .i64 a0.Kept,.int .i64 a0.Next,.int .i64 a0.Policy.Kind,.int .i64 a0.Policy.N,.str a0.Policy.Key,.str a0.Policy.Value,.sl 5 (List.map aj a0.Policy.Kids),.sl 6 (List.map ak a0.Open),.sl 6 (List.map ak a0.Pending),.sl 3 (List.map aQ a0.Memo),.sl 14 (List.map aP a0.Rows),.sl 4 (List.map aU a0.Edges),.sl 6 (List.map aV a0.Slots),.sl 4 (List.map aR a0.Blocks)]),((159,0),.arr 5 1 false (List.map ag lY))] [(1,1),(159,1)] X) Fu
       ⟨_,ra [(1,0),(159,0)],x83,0,h,rfl⟩ ?_
      rintro m s ⟨lY,eg,h,rfl⟩
      obtain⟨m8,q87,rfl,h,hq88⟩:=bu h
      replace h:oF a0 lY eg=some q87:=h
      refine ai fun _ k89=>sr fun _ k90=>rP mv<|rP (fa av bO)<|rX (ld bO)<|rP (zl bO)<|rP bi<|en k90<|wi 164 h (fun c91 h=>?_) fun c91 h=>?_
      ·refine aq<|k89 _<|ai fun _ k92=>ax<|sr fun _ k93=>rP (fa av bO)<|rX (ld bO)<|rP mv<|gE h fun g94 h=>bE h fun x95 y95 h=>rP (ia bO cj g94 y95)<|pl 171 (.agg [.str x95.Service,.str x95.Op,.int .u64 x95.Trace.Hi,.int .u64 x95.Trace.Lo,.int .u64 x95.Id,.int .i64 x95.Block]) cj<|rD (nw cj)<|pZ (aA [.str x95.Service,.str x95.Op,.int .u64 x95.Trace.Hi,.int .u64 x95.Trace.Lo,.int .u64 x95.Id,.int .i64 x95.Block] cj)<|en k93<|ai fun _ k96=>cD (by kernel_rfl) (by decide +kernel)<|tP mv<|tP (fa cj ap)<|tR (ld ap)<|bE h fun x97 y97 h=>tD (cG [] [(159,0)] [] (jj lY x95.Service y97) jp (.inr ⟨rfl,rfl,⟨cr (fun _=>rfl),trivial⟩⟩))<|tP (fa cj ap)<|tR (ld ap)<|bE h fun x98 y98 h=>tD (cG [] [(175,0)] [] (jj x97 x95.Op y98) jp (.inr ⟨rfl,rfl,⟨cr (fun _=>rfl),trivial⟩⟩))<|tP (fa cj bX)<|tR (cu (v:=.agg [.int .u64 x95.Trace.Hi,.int .u64 x95.Trace.Lo]) W_ W_ bX R_)<|bE h fun x99 y99 h=>tD (cG [] [(178,0)] [] (Bz x98 x95.Trace y99) Bl (.inr ⟨rfl,rfl,⟨cr (fun _=>rfl),trivial⟩⟩))<|tP Y<|cc (by kernel_rfl)<|k96 _<|cD (by kernel_rfl) (by decide +kernel)<|tP mv<|tP (fa cj bd)<|tR (ld bd)<|bE h fun x100 y100 h=>tD (cG [] [(181,0)] [] (d7 x99 x95.Id y100) d8 (.inr ⟨rfl,rfl,⟨cr (fun _=>rfl),trivial⟩⟩))<|tP (fa cj ae)<|tR (ld ae)<|tP (cK (v:=.int .u64 (IntKind.u64.wrap x95.Block)) W_ (cL ae) (cB bd) rfl)<|bE h fun x101 y101 h=>tD (cG [] [(185,0)] [] (d7 x100 (IntKind.u64.wrap x95.Block) y101) d8 (.inr ⟨rfl,rfl,⟨cr (fun _=>rfl),trivial⟩⟩))<|tP Y<|cc (by kernel_rfl)<|k92 _<|aB<|rP mv<|rP bi<|rP Y<|aM<|bk (ra [(1,0),(189,0)]) ⟨x101,(IntKind.i64.wrap (eg+1)),aI h hq88,rfl⟩
      ·refine bc<|tk (ah h hq88) fun h=>?_
       obtain rfl:=Option.some.inj h
       have h:=hk85
       exact⟨_,ra [(1,0),(159,0)],lY,h,rfl⟩
     ·rintro s ⟨qQ,h,rfl⟩
      refine sr fun _ k102=>rP mv<|rP (fa av bF)<|rX (ld bF)<|rP (zl bF)<|rP (cK (v:=.int .u64 (IntKind.u64.wrap (List.length a0.Blocks:Int))) W_ (cL ae) (cB bd) rfl)<|bE h fun x103 y103 h=>rD (cG [] [(159,0)] [] (d7 qQ (IntKind.u64.wrap (List.length a0.Blocks:Int)) y103) d8 (.inr ⟨rfl,rfl,⟨cr (fun _=>rfl),trivial⟩⟩))<|rP Y<|en k102<|bE h fun q104 h hk105=>bx (fun s=>∃(qO:List UInt8),BA qO=some r∧s=lit [(4,.own 195 0)] [((195,0),.arr 5 1 false (List.map ag qO))] [(195,1)] X) ?_ ?_
      ·skip
       refine sr fun _ k106=>rP Y<|en k106<|ax<|bv (fun m s=>∃(lZ:List UInt8),∃(ir:Int),am (fun(s:List UInt8×Int)=>oG a0 s.1 s.2) m (lZ,ir)=some q104∧s=lit [(1,.ptr 1 0 0),(4,.own 195 0),(13,.int .i64 ir)] [((1,0),.box [.int .i64 a0.Now,.int .i64 a0.Sec,.int .i64 a0.Kept,.int .i64 a0.Next,.int .i64 a0.Policy.Kind,.int .i64 a0.Policy.N,.str a0.Policy.Key,.str a0.Policy.Value,.sl 5 (List.map aj a0.Policy.Kids),.sl 6 (List.map ak a0.Open),.sl 6 (List.map ak a0.Pending),.sl 3 (List.map aQ a0.Memo),.sl 14 (List.map aP a0.Rows),.sl 4 (List.map aU a0.Edges),.sl 6 (List.map aV a0.Slots),.sl 4 (List.map aR a0.Blocks)]),((195,0),.arr 5 1 false (List.map ag lZ))] [(1,1),(195,1)] X) Fu
        ⟨_,ra [(1,0),(195,0)],x103,0,h,rfl⟩ ?_
       rintro m s ⟨lZ,ir,h,rfl⟩
       obtain⟨m10,q107,rfl,h,hq108⟩:=bu h
       replace h:oG a0 lZ ir=some q107:=h
       refine ai fun _ k109=>sr fun _ k110=>rP mv<|rP (fa av bF)<|rX (ld bF)<|rP (zl bF)<|rP bi<|en k110<|wi 200 h (fun c111 h=>?_) fun c111 h=>?_
       ·refine aq<|k109 _<|ai fun _ k112=>ax<|cD (by kernel_rfl) (by decide +kernel)<|tP mv<|tP (fa av bF)<|tR (ld bF)<|tP mv<|gE h fun g113 h=>bE h fun x114 y114 h=>tP (ia bF ca g113 y114)<|tP (fa ca ae)<|tR (ld ae)<|tP (fa av bF)<|tR (ld bF)<|tP mv<|gE h fun g115 h=>bE h fun x116 y116 h=>tP (ia bF ca g115 y116)<|tP (fa ca ae)<|tR (ld ae)<|tP (fa av bF)<|tR (ld bF)<|tP mv<|gE h fun g117 h=>bE h fun x118 y118 h=>tP (ia bF ca g117 y118)<|tP (fa ca ae)<|tR (ld ae)<|tD ((bs (List.map cH [x114.Number,x116.Born,x118.Tier]) da ae rfl).fx (y:=⟨_,.own 222 0,[((222,0),some (.arr 3 1 false (List.map cH [x114.Number,x116.Born,x118.Tier])))],[222]⟩) rfl)<|bE h fun x119 y119 h=>tD ((cG [] [(195,0)] [(222,0)] (tU lZ [x114.Number,x116.Born,x118.Tier] y119) tF (.inr ⟨rfl,rfl,⟨cr (fun _=>rfl),trivial⟩⟩)).fx (y:=⟨[(222,0)],.own 223 0,[((223,0),some (.arr 5 1 false (List.map ag x119))),((195,0),none)],[223,223]⟩) rfl)<|tP Y<|cc (by kernel_rfl)<|k112 _<|aB<|rP mv<|rP bi<|rP Y<|aM<|bk (ra [(1,0),(223,0)]) ⟨x119,(IntKind.i64.wrap (ir+1)),aI h hq108,rfl⟩
       ·refine bc<|tk (ah h hq108) fun h=>?_
        obtain rfl:=Option.some.inj h
        have h:=hk105
        exact⟨_,ra [(195,0)],lZ,h,rfl⟩
      ·rintro s ⟨qO,h,rfl⟩
       refine sr fun _ k120=>rP mv<|bE h fun x121 y121 h=>rD (cG [] [] [(195,0)] (My qO y121) Qa (.inr ⟨rfl,rfl,⟨cr (fun _=>rfl),trivial⟩⟩))<|rP Y<|en k120<|ac<|by cases h;exact rB [(225,0)]
end Go.Proofs.YtjklegmimpehlaaGreat.Ab
