/- Episodes as bytes. -/
import Derived.Test.YtjklegmimpehlaaGreatXR2
import Derived.Test.YtjklegmimpehlaaGreatProg
namespace Go.Proofs.YtjklegmimpehlaaGreat.Ab
open Go Go.RowKit
set_option linter.unusedVariables false
set_option linter.unusedSimpArgs false
set_option maxRecDepth 100000
set_option maxHeartbeats 8000000
structure az where
  Trace:Trace
  First:Int
  Last:Int
  Sure:Bool
  Spans:List aL
  deriving DecidableEq
theorem aZ:bm Tryz.prog 69=some ⟨.struct [(0,62),(2,3),(3,3),(4,4),(5,67)],6,64,[.int .u64 0,.int .u64 0,.int .i64 0,.int .i64 0,.bool false,.nil]⟩:=by kernel_rfl
theorem gJ:aF Tryz.prog 21:=eN Tryz.func21
theorem nP:aF Tryz.prog 49:=eN Tryz.func49
theorem FD:aF Tryz.prog 52:=eN Tryz.func52
theorem MA:aF Tryz.prog 122:=eN Tryz.func122
theorem MB:aF Tryz.prog 123:=eN Tryz.func123
theorem MC:aF Tryz.prog 127:=eN Tryz.func127
theorem MD:aF Tryz.prog 145:=eN Tryz.func145
theorem ME:aF Tryz.prog 154:=eN Tryz.func154
theorem MF:aF Tryz.prog 170:=eN Tryz.func170
def vR (a0:Int):Option Bool:=
 if(decide (a0<0))=true then(some true)else(some (decide ((1099511627776:Int)<a0)))
theorem MG (a0:Int) {r:Bool} (h:vR a0=some r):Ok Tryz.prog 123 [.int .i64 a0] [] [] (.bool r) [] []:=by
 refine oK Tryz.func123 rfl fun X=>sr fun _ k1=>rP Y<|en k1<|sr fun _ k2=>rP mv<|rP bi<|rP mv<|li 5 h (fun c3 h=>?_) fun c3 h=>?_
 ·refine rS<|rS<|rP pc<|rP Y<|en k2<|ac<|by cases h;exact rk
 ·refine rP mv<|rP bi<|rP pc<|rP Y<|en k2<|ac<|by cases h;exact rk
def pG (a0:List Int) (aS:Int):Option (Int⊕Int):=
 if(decide (aS<(List.length a0:Int)))=true then(gd (0≤aS) (Option.bind (a0[(Int.toNat aS)]?) (fun(x13:Int)=>Option.bind (vR x13) (fun(x14:Bool)=>if x14=true then(some (Sum.inr aS))else(some (Sum.inl (IntKind.i64.wrap (aS+1))))))))else(some (Sum.inr (-1)))
def vS (a0:List Int):Option Int:=
 am (fun(s:Int)=>pG a0 s) Fu 0
theorem MH (a0:List Int) {r:Int} (h:vS a0=some r):Ok Tryz.prog 154 [.sl 1 (List.map cH a0),.fn 123 []] [] [] (.int .i64 r) [] []:=by
 unfold vS at h
 refine oK Tryz.func154 rfl fun X=>sr fun _ k1=>rP Y<|en k1<|ai fun _ k2=>sr fun _ k3=>rP mv<|rP (zl da)<|rP mv<|en k3<|ax<|bv (fun m s=>∃(aS:Int),am (fun(s:Int)=>pG a0 s) m aS=some r∧s=lit [(0,.sl 1 (List.map cH a0)),(1,.fn 123 []),(7,.int .i64 (List.length a0:Int)),(8,.int .i64 aS)] [] [] X) Fu
  ⟨_,ra [],0,h,rfl⟩ ?_
 rintro m s ⟨aS,h,rfl⟩
 obtain⟨m0,q4,rfl,h,hq5⟩:=bu h
 replace h:pG a0 aS=some q4:=h
 refine sr fun _ k6=>rP bi<|en k6<|ai fun _ k7=>wi 9 h (fun c8 h=>?_) fun c8 h=>?_
 ·refine aq<|k7 _<|ai fun _ k9=>ax<|sr fun _ k10=>rP mv<|rP Y<|en k10<|sr fun _ k11=>rP mv<|rP mv<|rP mv<|gE h fun g12 h=>bE h fun x13 y13 h=>rP (ia da ae g12 y13)<|rX (ld ae)<|bE h fun x14 y14 h=>rD (cZ (MG x13 y14) MB)<|en k11<|wi 16 h (fun c15 h=>?_) fun c15 h=>?_
  ·refine sr fun _ k16=>rP mv<|rP Y<|en k16<|ac<|by cases ah h hq5;exact rk
  ·refine aq<|k9 _<|aB<|rP bi<|rP mv<|aM<|bk (ra []) ⟨(IntKind.i64.wrap (aS+1)),aI h hq5,rfl⟩
 ·refine bc<|tk (ah h hq5) fun h=>k2 _<|sr fun _ k17=>rP Y<|en k17<|ac<|by cases h;exact rk
def zw (a0:List Int):Option Bool:=
 Option.bind (vS a0) (fun(x3:Int)=>some (decide ((0:Int)≤x3)))
theorem MI (a0:List Int) {r:Bool} (h:zw a0=some r):Ok Tryz.prog 122 [.sl 1 (List.map cH a0),.fn 123 []] [] [] (.bool r) [] []:=by
 refine oK Tryz.func122 rfl fun X=>sr fun _ k1=>rP Y<|en k1<|sr fun _ k2=>rP mv<|rP mv<|bE h fun x3 y3 h=>rD (cZ (MH a0 y3) ME)<|rP bi<|rP Y<|en k2<|ac<|by cases h;exact rk
def kT (a0:List Int):Option Bool:=
 Option.bind (zw a0) (fun(x3:Bool)=>some (!x3))
theorem nQ (a0:List Int) {r:Bool} (h:kT a0=some r):Ok Tryz.prog 49 [.sl 1 (List.map cH a0)] [] [] (.bool r) [] []:=by
 refine oK Tryz.func49 rfl fun X=>sr fun _ k1=>rP Y<|en k1<|sr fun _ k2=>rP mv<|bE h fun x3 y3 h=>rD (cZ (MI a0 y3) MA)<|rP un<|rP Y<|en k2<|ac<|by cases h;exact rk
def vT (dO:List Int) (im:Int) (x24:aL):Option ((List Int×Int)⊕Bool):=
 some (Sum.inl ((kC dO x24.Id),(IntKind.i64.wrap (im+1))))
def nR (a0:az) (dO:List Int) (im:Int):Option ((List Int×Int)⊕Bool):=
 if(decide (im<(List.length a0.Spans:Int)))=true then(gd (0≤im) (Option.bind (a0.Spans[(Int.toNat im)]?) (fun(x24:aL)=>Option.bind (if(!((x24.Trace.Hi == a0.Trace.Hi)&&((x24.Trace.Lo == a0.Trace.Lo)&&true)))=true then(some (Sum.inr (Sum.inr false)))else(if(decide (x24.Id∈dO))=true then(some (Sum.inr (Sum.inr false)))else(some (Sum.inl ())))) (Sum.elim (fun(s:Unit)=>vT dO im x24) some))))else(some (Sum.inr true))
def sC (a0:az):Option Bool:=
 am (fun(s:List Int×Int)=>nR a0 s.1 s.2) Fu (([]:List Int),0)
def pH (a0:az):Option Bool:=
 Option.bind (Option.bind (kT [a0.First,a0.Last]) (fun(x5:Bool)=>if(!x5)=true then(some (Sum.inr false))else(if((List.length a0.Spans:Int) == 0)=true then(some (Sum.inr false))else(Option.bind (wx a0.Spans) (fun(x10:Bool)=>if(!x10)=true then(some (Sum.inr false))else(some (Sum.inl ()))))))) (Sum.elim (fun(s:Unit)=>sC a0) some)
theorem FE (a0:az) {r:Bool} (h:pH a0=some r):Ok Tryz.prog 52 [.agg [.int .u64 a0.Trace.Hi,.int .u64 a0.Trace.Lo,.int .i64 a0.First,.int .i64 a0.Last,.bool a0.Sure,.sl 10 (List.map ch a0.Spans)]] [] [] (.bool r) [] []:=by
 refine oK Tryz.func52 rfl fun X=>sr fun _ k1=>rD (bY W_ rfl rfl)<|rP Y<|en k1<|bE h fun q2 h hk3=>bx (fun s=>sC a0=some r∧s=lit [(1,.ptr 1 0 0)] [((1,0),.box [.int .u64 a0.Trace.Hi,.int .u64 a0.Trace.Lo,.int .i64 a0.First,.int .i64 a0.Last,.bool a0.Sure,.sl 10 (List.map ch a0.Spans)])] [(1,1)] X) ?_ ?_
 ·skip
  refine sr fun _ k4=>rP (fa aZ ae)<|rX (ld ae)<|rP (fa aZ ae)<|rX (ld ae)<|rD (bs (List.map cH [a0.First,a0.Last]) da ae rfl)<|bE h fun x5 y5 h=>rD (cG [] [] [(10,0)] (nQ [a0.First,a0.Last] y5) nP)<|rP un<|rP mv<|li 13 h (fun c6 h=>?_) fun c6 h=>?_
  ·refine rS<|rS<|rS<|rS<|rP pc<|rP mv<|rS<|rS<|rS<|rS<|rP pc<|en k4<|bM D_ rfl<|sr fun _ k7=>rP Y<|en k7<|ac<|by cases ah h hk3;exact rk
  ·refine rP (fa aZ bN)<|rX (ld bN)<|rP (zl bN)<|rP bi<|rP pc<|rP mv<|li 19 h (fun c8 h=>?_) fun c8 h=>?_
   ·refine rS<|rS<|rS<|rS<|rP pc<|en k4<|bM D_ rfl<|sr fun _ k9=>rP Y<|en k9<|ac<|by cases ah h hk3;exact rk
   ·refine rP (fa aZ bN)<|rX (ld bN)<|bE h fun x10 y10 h=>rD (cZ (NM a0.Spans y10) MC)<|rP un<|rP pc<|en k4<|wi 24 h (fun c11 h=>?_) fun c11 h=>?_
    ·refine sr fun _ k12=>rP Y<|en k12<|ac<|by cases ah h hk3;exact rk
    ·refine aq<|tk (aI h hk3) fun h=>?_
     exact⟨_,ra [(1,0)],h,rfl⟩
 ·rintro s ⟨h,rfl⟩
  unfold sC at h
  refine sr fun _ k13=>rD (Il (d:=25) .u64)<|rP Y<|en k13<|ai fun _ k14=>sr fun _ k15=>rP (fa aZ bN)<|rX (ld bN)<|rP (zl bN)<|rP mv<|en k15<|ax<|bv (fun m s=>∃(dO:List Int),∃(im:Int),am (fun(s:List Int×Int)=>nR a0 s.1 s.2) m (dO,im)=some r∧s=lit [(1,.ptr 1 0 0),(3,.mp 25 0),(27,.sl 10 (List.map ch a0.Spans)),(28,.int .i64 (List.length a0.Spans:Int)),(29,.int .i64 im)] [((1,0),.box [.int .u64 a0.Trace.Hi,.int .u64 a0.Trace.Lo,.int .i64 a0.First,.int .i64 a0.Last,.bool a0.Sure,.sl 10 (List.map ch a0.Spans)]),((25,0),.mp .u64 dO)] [(1,1),(25,1)] X) Fu
   ⟨_,ra [(1,0),(25,0)],([]:List Int),0,h,rfl⟩ ?_
  rintro m s ⟨dO,im,h,rfl⟩
  obtain⟨m1,q16,rfl,h,hq17⟩:=bu h
  replace h:nR a0 dO im=some q16:=h
  refine sr fun _ k18=>rP bi<|en k18<|ai fun _ k19=>wi 30 h (fun c20 h=>?_) fun c20 h=>?_
  ·refine aq<|k19 _<|ai fun _ k21=>ax<|sr fun _ k22=>gE h fun g23 h=>bE h fun x24 y24 h=>rP (ia bN aJ g23 y24)<|pl 32 (.agg [.int .u64 x24.Trace.Hi,.int .u64 x24.Trace.Lo,.int .u64 x24.Id,.int .u64 x24.Parent,.str x24.Service,.str x24.Op,.int .i64 x24.Start,.int .i64 x24.Dur,.bool x24.Err,.sl 2 (List.map ce x24.Attrs)]) aJ<|rD (nw aJ)<|pZ (aA [.int .u64 x24.Trace.Hi,.int .u64 x24.Trace.Lo,.int .u64 x24.Id,.int .u64 x24.Parent,.str x24.Service,.str x24.Op,.int .i64 x24.Start,.int .i64 x24.Dur,.bool x24.Err,.sl 2 (List.map ce x24.Attrs)] aJ)<|en k22<|bE h fun q25 h hk26=>bx (fun s=>vT dO im x24=some q16∧s=lit [(1,.ptr 1 0 0),(3,.mp 25 0),(5,.ptr 5 0 0),(27,.sl 10 (List.map ch a0.Spans)),(28,.int .i64 (List.length a0.Spans:Int)),(29,.int .i64 im)] [((1,0),.box [.int .u64 a0.Trace.Hi,.int .u64 a0.Trace.Lo,.int .i64 a0.First,.int .i64 a0.Last,.bool a0.Sure,.sl 10 (List.map ch a0.Spans)]),((25,0),.mp .u64 dO),((5,0),.box [.int .u64 x24.Trace.Hi,.int .u64 x24.Trace.Lo,.int .u64 x24.Id,.int .u64 x24.Parent,.str x24.Service,.str x24.Op,.int .i64 x24.Start,.int .i64 x24.Dur,.bool x24.Err,.sl 2 (List.map ce x24.Attrs)])] [(1,1),(5,1),(25,1)] X) ?_ ?_
   ·skip
    refine sr fun _ k27=>rP (fa aJ bX)<|pl 34 (.agg [.int .u64 x24.Trace.Hi,.int .u64 x24.Trace.Lo]) bX<|rP (fa aZ bX)<|pl 36 (.agg [.int .u64 a0.Trace.Hi,.int .u64 a0.Trace.Lo]) bX<|rP (hY (v:=.bool (!((x24.Trace.Hi == a0.Trace.Hi)&&((x24.Trace.Lo == a0.Trace.Lo)&&true)))) W_ W_ qd rfl qe qg W_ rfl)<|rP mv<|li 38 h (fun c28 h=>?_) fun c28 h=>?_
    ·refine rS<|rS<|rS<|rS<|rP pc<|en k27<|bM D_ rfl<|sr fun _ k29=>rP Y<|en k29<|ac<|tk (ah h hk26) fun h=>by cases ah h hq17;exact rk
    ·refine rP mv<|rP (fa aJ bd)<|rX (ld bd)<|rX (In W_ W_ W_ Tryz.underlying175 Tryz.underlying60 Tryz.zeroValue4)<|rP pc<|en k27<|wi 43 h (fun c30 h=>?_) fun c30 h=>?_
     ·refine sr fun _ k31=>rP Y<|en k31<|ac<|tk (ah h hk26) fun h=>by cases ah h hq17;exact rk
     ·refine aq<|tk (aI h hk26) fun h=>?_
      exact⟨_,ra [(1,0),(25,0),(5,0)],h,rfl⟩
   ·rintro s ⟨h,rfl⟩
    unfold vT at h
    refine aB<|rP mv<|rP (fa aJ bd)<|rX (ld bd)<|rJ none rfl rfl (Io W_ W_ W_ R_ Tryz.underlying175 Tryz.underlying60) D_<|en k21<|aB<|rP bi<|rP mv<|aM<|bk (ra [(1,0),(25,0)]) ⟨(kC dO x24.Id),(IntKind.i64.wrap (im+1)),aI h hq17,rfl⟩
  ·refine bc<|tk (ah h hq17) fun h=>k14 _<|sr fun _ k32=>rP Y<|en k32<|ac<|by cases h;exact rk
def sD (a1:az) (cf:List UInt8) (lb:Int):Option ((List UInt8×Int)⊕aE):=
 if(decide (lb<(List.length a1.Spans:Int)))=true then(gd (0≤lb) (Option.bind (a1.Spans[(Int.toNat lb)]?) (fun(x17:aL)=>Option.bind (wy (aE.mk cf) x17) (fun(x18:aE)=>some (Sum.inl (x18.B,(IntKind.i64.wrap (lb+1))))))))else(some (Sum.inr (aE.mk cf)))
def vU (a0:aE) (a1:az):Option aE:=
 Option.bind (em a0 [a1.First,a1.Last]) (fun(x3:aE)=>Option.bind (qb x3 a1.Sure) (fun(x5:aE)=>Option.bind (em x5 [(List.length a1.Spans:Int)]) (fun(x7:aE)=>am (fun(s:List UInt8×Int)=>sD a1 s.1 s.2) Fu (x7.B,0))))
theorem MJ (a0:aE) (a1:az) {r:aE} (h:vU a0 a1=some r):Ok Tryz.prog 86 [.ptr 0 0 0,.agg [.int .u64 a1.Trace.Hi,.int .u64 a1.Trace.Lo,.int .i64 a1.First,.int .i64 a1.Last,.bool a1.Sure,.sl 10 (List.map ch a1.Spans)]] [[.own 1 0]] [(5,1,List.map ag a0.B)] (.tup []) [[.own 2 0]] [(5,1,List.map ag r.B)]:=by
 refine oK Tryz.func86 rfl fun X=>sr fun _ k1=>rD (bY W_ rfl rfl)<|en k1<|sr fun _ k2=>rP mv<|rP (fa aZ ae)<|rX (ld ae)<|rP (fa aZ ae)<|rX (ld ae)<|rD (bs (List.map cH [a1.First,a1.Last]) da ae rfl)<|bE h fun x3 y3 h=>rD (db (d:=11) (n:=0) W_ (cG [(0,0)] [(1,0)] [(11,0)] (eX a0 [a1.First,a1.Last] y3) eW (.inl ⟨⟨_,_,_,rfl⟩,trivial⟩)))<|en k2<|sr fun _ k4=>rP mv<|rP (fa aZ aN)<|rX (ld aN)<|bE h fun x5 y5 h=>rD (cG [(0,0)] [(12,0)] [] (Aa x3 a1.Sure y5) Ak (.inl trivial))<|en k4<|sr fun _ k6=>rP mv<|rP (fa aZ bN)<|rX (ld bN)<|rP (zl bN)<|rD (bs (List.map cH [(List.length a1.Spans:Int)]) da ae rfl)<|bE h fun x7 y7 h=>rD (db (d:=21) (n:=0) W_ (cG [(0,0)] [(16,0)] [(21,0)] (eX x5 [(List.length a1.Spans:Int)] y7) eW (.inl ⟨⟨_,_,_,rfl⟩,trivial⟩)))<|en k6<|sr fun _ k8=>rP (fa aZ bN)<|rX (ld bN)<|rP (zl bN)<|rP mv<|en k8<|ax<|bv (fun m s=>∃(cf:List UInt8),∃(lb:Int),am (fun(s:List UInt8×Int)=>sD a1 s.1 s.2) m (cf,lb)=some r∧s=lit [(0,.ptr 0 0 0),(24,.sl 10 (List.map ch a1.Spans)),(25,.int .i64 (List.length a1.Spans:Int)),(26,.int .i64 lb)] [((0,0),.box [.own 22 0]),((22,0),.arr 5 1 false (List.map ag cf))] [(0,1),(22,1)] X) Fu
  ⟨_,ra [(0,0),(22,0)],x7.B,0,h,rfl⟩ ?_
 rintro m s ⟨cf,lb,h,rfl⟩
 obtain⟨m0,q9,rfl,h,hq10⟩:=bu h
 replace h:sD a1 cf lb=some q9:=h
 refine sr fun _ k11=>rP bi<|en k11<|ai fun _ k12=>wi 27 h (fun c13 h=>?_) fun c13 h=>?_
 ·refine aq<|k12 _<|ai fun _ k14=>ax<|sr fun _ k15=>gE h fun g16 h=>bE h fun x17 y17 h=>rP (ia bN aJ g16 y17)<|pl 29 (.agg [.int .u64 x17.Trace.Hi,.int .u64 x17.Trace.Lo,.int .u64 x17.Id,.int .u64 x17.Parent,.str x17.Service,.str x17.Op,.int .i64 x17.Start,.int .i64 x17.Dur,.bool x17.Err,.sl 2 (List.map ce x17.Attrs)]) aJ<|rD (nw aJ)<|pZ (aA [.int .u64 x17.Trace.Hi,.int .u64 x17.Trace.Lo,.int .u64 x17.Id,.int .u64 x17.Parent,.str x17.Service,.str x17.Op,.int .i64 x17.Start,.int .i64 x17.Dur,.bool x17.Err,.sl 2 (List.map ce x17.Attrs)] aJ)<|en k15<|aB<|rP mv<|pl 31 (.agg [.int .u64 x17.Trace.Hi,.int .u64 x17.Trace.Lo,.int .u64 x17.Id,.int .u64 x17.Parent,.str x17.Service,.str x17.Op,.int .i64 x17.Start,.int .i64 x17.Dur,.bool x17.Err,.sl 2 (List.map ce x17.Attrs)]) aJ<|bE h fun x18 y18 h=>rD (cG [(0,0)] [(22,0)] [] (NN (aE.mk cf) x17 y18) MD (.inl trivial))<|en k14<|aB<|rP bi<|rP mv<|aM<|bk (ra [(0,0),(32,0)]) ⟨x18.B,(IntKind.i64.wrap (lb+1)),aI h hq10,rfl⟩
 ·refine bc<|by cases ah h hq10;exact rB [(22,0)]
def pJ (x12:Int×Z) (dq:List UInt8) (di:Bool) (io:List aL) (mV:Int):Option ((List UInt8×Bool×List aL×Int)⊕(List UInt8×Bool×List aL)):=
 if(decide (mV<x12.1))=true then(if di=true then(some (Sum.inr (dq,di,io)))else(Option.bind (eF (Z.mk dq di)) (fun(x22:aL×Z)=>gd ((List.length (io++[x22.1]))*112≤140737488355328∧(List.length (io++[x22.1]))≤140737488355328) (some (Sum.inl (x22.2.B,x22.2.Bad,(io++[x22.1]),(IntKind.i64.wrap (mV+1))))))))else(some (Sum.inr (dq,di,io)))
def zx (a1:Trace) (x4:Int×Z) (x6:Int×Z) (x8:Bool×Z) (aW:List UInt8) (aX:Bool) (ey:List aL):Option (az×Z):=
 if aX=true then(some ((az.mk a1 x4.1 x6.1 x8.1 ey),(Z.mk aW true)))else(Option.bind (pH (az.mk a1 x4.1 x6.1 x8.1 ey)) (fun(x27:Bool)=>some ((az.mk a1 x4.1 x6.1 x8.1 ey),(Z.mk aW (!x27)))))
def mJ (a0:Z) (a1:Trace):Option (az×Z):=
 Option.bind (cE a0 1099511627776) (fun(x4:Int×Z)=>Option.bind (cE x4.2 1099511627776) (fun(x6:Int×Z)=>Option.bind (ji x6.2) (fun(x8:Bool×Z)=>Option.bind (Option.bind (dZ x8.2) (fun(x12:Int×Z)=>am (fun(s:List UInt8×Bool×List aL×Int)=>pJ x12 s.1 s.2.1 s.2.2.1 s.2.2.2) Fu (x12.2.B,x12.2.Bad,[],0))) (fun(s:List UInt8×Bool×List aL)=>zx a1 x4 x6 x8 s.1 s.2.1 s.2.2))))
theorem MK (a0:Z) (a1:Trace) {r:az×Z} (h:mJ a0 a1=some r):Ok Tryz.prog 149 [.ptr 0 0 0,.agg [.int .u64 a1.Hi,.int .u64 a1.Lo]] [[.sl 1 (List.map ag a0.B),.bool a0.Bad]] [] (.agg [.int .u64 r.1.Trace.Hi,.int .u64 r.1.Trace.Lo,.int .i64 r.1.First,.int .i64 r.1.Last,.bool r.1.Sure,.own 2 0]) [[.sl 1 (List.map ag r.2.B),.bool r.2.Bad]] [(131,10,List.map ch r.1.Spans)]:=by
 refine oK Tryz.func149 rfl fun X=>sr fun _ k1=>rD (bY W_ rfl rfl)<|rD (nw aZ)<|en k1<|sr fun _ k2=>pl 6 (.agg [.int .u64 a1.Hi,.int .u64 a1.Lo]) bX<|rP (cP (cs:=[.int .u64 a1.Hi,.int .u64 a1.Lo,.int .i64 0,.int .i64 0,.bool false,.nil]) aZ rfl [⟨.struct [(0,60),(1,60)],2,16,[.int .u64 0,.int .u64 0]⟩,⟨.int .i64,1,8,[.int .i64 0]⟩,⟨.int .i64,1,8,[.int .i64 0]⟩,⟨.bool,1,1,[.bool false]⟩,⟨.slice 131,1,24,[.nil]⟩] (by simp only[List.map,ae,aN,bX,bN]) (by rfl) R_)<|rD (nw aZ)<|pZ (aA [.int .u64 a1.Hi,.int .u64 a1.Lo,.int .i64 0,.int .i64 0,.bool false,.nil] aZ)<|en k2<|sr fun _ k3=>rP mv<|bE h fun x4 y4 h=>rD (cG [(0,0)] [] [] (eL a0 1099511627776 y4) eK (.inl trivial))<|rP (fa aZ ae)<|pZ (aA [.int .u64 a1.Hi,.int .u64 a1.Lo,.int .i64 x4.1,.int .i64 0,.bool false,.nil] ae)<|en k3<|sr fun _ k5=>rP mv<|bE h fun x6 y6 h=>rD (cG [(0,0)] [] [] (eL x4.2 1099511627776 y6) eK (.inl trivial))<|rP (fa aZ ae)<|pZ (aA [.int .u64 a1.Hi,.int .u64 a1.Lo,.int .i64 x4.1,.int .i64 x6.1,.bool false,.nil] ae)<|en k5<|sr fun _ k7=>rP mv<|bE h fun x8 y8 h=>rD (cG [(0,0)] [] [] (Af x6.2 y8) Al (.inl trivial))<|rP (fa aZ aN)<|pZ (aA [.int .u64 a1.Hi,.int .u64 a1.Lo,.int .i64 x4.1,.int .i64 x6.1,.bool x8.1,.nil] aN)<|en k7<|bE h fun q9 h hk10=>bx (fun s=>∃(aW:List UInt8),∃(aX:Bool),∃(ey:List aL),zx a1 x4 x6 x8 aW aX ey=some r∧s=lit [(0,.ptr 0 0 0),(4,.ptr 4 0 0),(5,.ptr 5 0 0)] [((0,0),.box [.sl 1 (List.map ag aW),.bool aX]),((4,0),.box [.int .u64 0,.int .u64 0,.int .i64 0,.int .i64 0,.bool false,.nil]),((5,0),.box [.int .u64 a1.Hi,.int .u64 a1.Lo,.int .i64 x4.1,.int .i64 x6.1,.bool x8.1,.own 5 1]),((5,1),.arr 131 10 false (List.map ch ey))] [(0,1),(4,1),(5,2)] X) ?_ ?_
 ·skip
  refine sr fun _ k11=>rP mv<|bE h fun x12 y12 h=>rD (cG [(0,0)] [] [] (kW x8.2 y12) kV (.inl trivial))<|rP mv<|en k11<|ax<|iY 5 0 5 5 131 10 (cs:=[.int .u64 a1.Hi,.int .u64 a1.Lo,.int .i64 x4.1,.int .i64 x6.1,.bool x8.1,.nil]) R_ rfl D_<|bv (fun m s=>∃(dq:List UInt8),∃(di:Bool),∃(io:List aL),∃(mV:Int),am (fun(s:List UInt8×Bool×List aL×Int)=>pJ x12 s.1 s.2.1 s.2.2.1 s.2.2.2) m (dq,di,io,mV)=some q9∧s=lit [(0,.ptr 0 0 0),(4,.ptr 4 0 0),(5,.ptr 5 0 0),(18,.int .i64 x12.1),(19,.int .i64 mV)] [((0,0),.box [.sl 1 (List.map ag dq),.bool di]),((4,0),.box [.int .u64 0,.int .u64 0,.int .i64 0,.int .i64 0,.bool false,.nil]),((5,0),.box [.int .u64 a1.Hi,.int .u64 a1.Lo,.int .i64 x4.1,.int .i64 x6.1,.bool x8.1,.own 5 1]),((5,1),.arr 131 10 false (List.map ch io))] [(0,1),(4,1),(5,2)] X) Fu
   ⟨_,ra [(0,0),(4,0),(5,0),(5,1)],x12.2.B,x12.2.Bad,[],0,h,rfl⟩ ?_
  rintro m s ⟨dq,di,io,mV,h,rfl⟩
  obtain⟨m1,q13,rfl,h,hq14⟩:=bu h
  replace h:pJ x12 dq di io mV=some q13:=h
  refine sr fun _ k15=>rP bi<|en k15<|ai fun _ k16=>wi 20 h (fun c17 h=>?_) fun c17 h=>?_
  ·refine aq<|k16 _<|ai fun _ k18=>ax<|ai fun _ k19=>sr fun _ k20=>rP mv<|rP nk<|rP (fa cQ aN)<|rX (ld aN)<|en k20<|wi 24 h (fun c21 h=>?_) fun c21 h=>?_
   ·refine bc<|tk (ah h hq14) fun h=>?_
    obtain rfl:=Option.some.inj h
    have h:=hk10
    exact⟨_,ra [(0,0),(4,0),(5,0),(5,1)],dq,di,io,h,rfl⟩
   ·refine aq<|k19 _<|cD (by kernel_rfl) (by decide +kernel)<|tP (fa aZ bN)<|tR (ld bN)<|tP mv<|bE h fun x22 y22 h=>tD (cG [(0,0)] [] [] (NO (Z.mk dq di) y22) MF (.inl trivial))<|tD (db (d:=28) (n:=0) W_ (bs (List.map ch [x22.1]) bN aJ rfl))<|gE h fun g23 h=>tD (dw (v:=List.map ch (io++[x22.1])) W_ W_ bN aJ rfl rfl W_ (by first | exact .inl rfl | exact .inr ⟨rfl,rfl⟩) W_ (by first | exact .inr rfl | exact .inl rfl) (dL _ _) (dv g23))<|tP (fa aZ bN)<|gj none rfl rfl (gm (cs':=[.int .u64 a1.Hi,.int .u64 a1.Lo,.int .i64 x4.1,.int .i64 x6.1,.bool x8.1,.own 30 0]) W_ W_ W_ bN rfl rfl rfl R_) D_<|cc (by kernel_rfl)<|k18 _<|aB<|rP bi<|rP mv<|aM<|bk (ra [(0,0),(4,0),(5,0),(30,0)]) ⟨x22.2.B,x22.2.Bad,(io++[x22.1]),(IntKind.i64.wrap (mV+1)),aI h hq14,rfl⟩
  ·refine bc<|tk (ah h hq14) fun h=>?_
   obtain rfl:=Option.some.inj h
   have h:=hk10
   exact⟨_,ra [(0,0),(4,0),(5,0),(5,1)],dq,di,io,h,rfl⟩
 ·rintro s ⟨aW,aX,ey,h,rfl⟩
  refine sr fun _ k24=>rP mv<|rP mv<|rP nk<|rP (fa cQ aN)<|rX (ld aN)<|rP mv<|li 38 h (fun c25 h=>?_) fun c25 h=>?_
  ·refine rS<|rS<|rS<|rP pc<|rP nk<|rP (fa cQ aN)<|pZ (aA [.sl 1 (List.map ag aW),.bool true] aN)<|en k24<|sr fun _ k26=>pl 45 (.agg [.int .u64 a1.Hi,.int .u64 a1.Lo,.int .i64 x4.1,.int .i64 x6.1,.bool x8.1,.own 5 1]) aZ<|pZ (aA [.int .u64 a1.Hi,.int .u64 a1.Lo,.int .i64 x4.1,.int .i64 x6.1,.bool x8.1,.own 5 1] aZ)<|en k26<|ac<|by cases h;exact rB [(5,1)]
  ·refine pl 39 (.agg [.int .u64 a1.Hi,.int .u64 a1.Lo,.int .i64 x4.1,.int .i64 x6.1,.bool x8.1,.own 5 1]) aZ<|bE h fun x27 y27 h=>rD (cG [] [] [(5,1)] (FE (az.mk a1 x4.1 x6.1 x8.1 ey) y27) FD)<|rP un<|rP pc<|rP nk<|rP (fa cQ aN)<|pZ (aA [.sl 1 (List.map ag aW),.bool (!x27)] aN)<|en k24<|sr fun _ k28=>pl 45 (.agg [.int .u64 a1.Hi,.int .u64 a1.Lo,.int .i64 x4.1,.int .i64 x6.1,.bool x8.1,.own 5 1]) aZ<|pZ (aA [.int .u64 a1.Hi,.int .u64 a1.Lo,.int .i64 x4.1,.int .i64 x6.1,.bool x8.1,.own 5 1] aZ)<|en k28<|ac<|by cases h;exact rB [(5,1)]
def fN (a0:Int):Option Bool:=
 if(decide ((0:Int)≤a0))=true then(some (decide (a0≤1099511627776)))else(some false)
theorem gK (a0:Int) {r:Bool} (h:fN a0=some r):Ok Tryz.prog 21 [.int .i64 a0] [] [] (.bool r) [] []:=by
 refine oK Tryz.func21 rfl fun X=>sr fun _ k1=>rP Y<|en k1<|sr fun _ k2=>rP mv<|rP bi<|rP mv<|li 5 h (fun c3 h=>?_) fun c3 h=>?_
 ·refine rP mv<|rP bi<|rP pc<|rP Y<|en k2<|ac<|by cases h;exact rk
 ·refine rS<|rS<|rP pc<|rP Y<|en k2<|ac<|by cases h;exact rk
def nS (a0:az) (ck:Int) (ff:Int):Option (Int⊕(Int⊕Bool)):=
 if(decide (ff<ck))=true then(gd (0≤ff) (Option.bind (a0.Spans[(Int.toNat ff)]?) (fun(x42:aL)=>gd (0≤ck) (Option.bind (a0.Spans[(Int.toNat ck)]?) (fun(x44:aL)=>if(x42.Id == x44.Id)=true then(some (Sum.inr (Sum.inr false)))else(some (Sum.inl (IntKind.i64.wrap (ff+1)))))))))else(some (Sum.inr (Sum.inl (IntKind.i64.wrap (ck+1)))))
def sE (a0:az) (ck:Int):Option (Int⊕Bool):=
 am (fun(s:Int)=>nS a0 ck s) Fu 0
def nT (a0:az) (ck:Int):Option (Int⊕Bool):=
 if(decide (ck<(List.length a0.Spans:Int)))=true then(Option.bind (gd (0≤ck) (Option.bind (a0.Spans[(Int.toNat ck)]?) (fun(x25:aL)=>Option.bind (ta x25) (fun(x26:Bool)=>if(!x26)=true then(some (Sum.inr (Sum.inr false)))else(gd (0≤ck) (Option.bind (a0.Spans[(Int.toNat ck)]?) (fun(x30:aL)=>if(!((x30.Trace.Hi == a0.Trace.Hi)&&((x30.Trace.Lo == a0.Trace.Lo)&&true)))=true then(some (Sum.inr (Sum.inr false)))else(some (Sum.inl ()))))))))) (Sum.elim (fun(s:Unit)=>sE a0 ck) some))else(some (Sum.inr true))
def sF (a0:az):Option Bool:=
 am (fun(s:Int)=>nT a0 s) Fu 0
def vV (a0:az):Option Bool:=
 Option.bind (Option.bind (fN a0.First) (fun(x5:Bool)=>if(!x5)=true then(some (Sum.inr false))else(Option.bind (fN a0.Last) (fun(x8:Bool)=>if(!x8)=true then(some (Sum.inr false))else(if((List.length a0.Spans:Int) == 0)=true then(some (Sum.inr false))else(some (Sum.inl ()))))))) (Sum.elim (fun(s:Unit)=>sF a0) some)
theorem ML (a0:az) {r:Bool} (h:vV a0=some r):Ok Tryz.prog 23 [.agg [.int .u64 a0.Trace.Hi,.int .u64 a0.Trace.Lo,.int .i64 a0.First,.int .i64 a0.Last,.bool a0.Sure,.sl 10 (List.map ch a0.Spans)]] [] [] (.bool r) [] []:=by
 refine oK Tryz.func23 rfl fun X=>sr fun _ k1=>rD (bY W_ rfl rfl)<|rP Y<|en k1<|bE h fun q2 h hk3=>bx (fun s=>sF a0=some r∧s=lit [(1,.ptr 1 0 0)] [((1,0),.box [.int .u64 a0.Trace.Hi,.int .u64 a0.Trace.Lo,.int .i64 a0.First,.int .i64 a0.Last,.bool a0.Sure,.sl 10 (List.map ch a0.Spans)])] [(1,1)] X) ?_ ?_
 ·skip
  refine sr fun _ k4=>rP (fa aZ ae)<|rX (ld ae)<|bE h fun x5 y5 h=>rD (cZ (gK a0.First y5) gJ)<|rP un<|rP mv<|li 9 h (fun c6 h=>?_) fun c6 h=>?_
  ·refine rS<|rS<|rS<|rS<|rP pc<|rP mv<|rS<|rS<|rS<|rS<|rP pc<|en k4<|bM D_ rfl<|sr fun _ k7=>rP Y<|en k7<|ac<|by cases ah h hk3;exact rk
  ·refine rP (fa aZ ae)<|rX (ld ae)<|bE h fun x8 y8 h=>rD (cZ (gK a0.Last y8) gJ)<|rP un<|rP pc<|rP mv<|li 15 h (fun c9 h=>?_) fun c9 h=>?_
   ·refine rS<|rS<|rS<|rS<|rP pc<|en k4<|bM D_ rfl<|sr fun _ k10=>rP Y<|en k10<|ac<|by cases ah h hk3;exact rk
   ·refine rP (fa aZ bN)<|rX (ld bN)<|rP (zl bN)<|rP bi<|rP pc<|en k4<|wi 20 h (fun c11 h=>?_) fun c11 h=>?_
    ·refine sr fun _ k12=>rP Y<|en k12<|ac<|by cases ah h hk3;exact rk
    ·refine aq<|tk (aI h hk3) fun h=>?_
     exact⟨_,ra [(1,0)],h,rfl⟩
 ·rintro s ⟨h,rfl⟩
  unfold sF at h
  refine ai fun _ k13=>sr fun _ k14=>rP Y<|en k14<|ax<|bv (fun m s=>∃(ck:Int),am (fun(s:Int)=>nT a0 s) m ck=some r∧s=lit [(1,.ptr 1 0 0),(3,.int .i64 ck)] [((1,0),.box [.int .u64 a0.Trace.Hi,.int .u64 a0.Trace.Lo,.int .i64 a0.First,.int .i64 a0.Last,.bool a0.Sure,.sl 10 (List.map ch a0.Spans)])] [(1,1)] X) Fu
   ⟨_,ra [(1,0)],0,h,rfl⟩ ?_
  rintro m s ⟨ck,h,rfl⟩
  obtain⟨m1,q15,rfl,h,hq16⟩:=bu h
  replace h:nT a0 ck=some q15:=h
  refine ai fun _ k17=>sr fun _ k18=>rP mv<|rP (fa aZ bN)<|rX (ld bN)<|rP (zl bN)<|rP bi<|en k18<|wi 25 h (fun c19 h=>?_) fun c19 h=>?_
  ·refine aq<|k17 _<|ai fun _ k20=>ax<|bE h fun q21 h hk22=>bx (fun s=>sE a0 ck=some q15∧s=lit [(1,.ptr 1 0 0),(3,.int .i64 ck)] [((1,0),.box [.int .u64 a0.Trace.Hi,.int .u64 a0.Trace.Lo,.int .i64 a0.First,.int .i64 a0.Last,.bool a0.Sure,.sl 10 (List.map ch a0.Spans)])] [(1,1)] X) ?_ ?_
   ·skip
    refine ai fun _ k23=>cD (by kernel_rfl) (by decide +kernel)<|tP (fa aZ bN)<|tR (ld bN)<|tP mv<|gE h fun g24 h=>bE h fun x25 y25 h=>tP (ia bN aJ g24 y25)<|tR (cu (v:=.agg [.int .u64 x25.Trace.Hi,.int .u64 x25.Trace.Lo,.int .u64 x25.Id,.int .u64 x25.Parent,.str x25.Service,.str x25.Op,.int .i64 x25.Start,.int .i64 x25.Dur,.bool x25.Err,.sl 2 (List.map ce x25.Attrs)]) W_ W_ aJ R_)<|bE h fun x26 y26 h=>tD (cZ (Gb x25 y26) Ga)<|tP un<|tP mv<|fT (c:=(!x26)) 35 rfl (fun c27=>?_) (fun c27=>?_)
    ·have h:=fy c27 h
     refine tS<|tS<|tS<|tS<|tS<|tS<|tS<|tS<|tS<|tP pc<|cc (by kernel_rfl)<|k23 _<|bM D_ rfl<|sr fun _ k28=>rP Y<|en k28<|ac<|tk (ah h hk22) fun h=>by cases ah h hq16;exact rk
    ·have h:=fA c27 h
     refine tP (fa aZ bN)<|tR (ld bN)<|tP mv<|gE h fun g29 h=>bE h fun x30 y30 h=>tP (ia bN aJ g29 y30)<|tP (fa aJ bX)<|tR (cu (v:=.agg [.int .u64 x30.Trace.Hi,.int .u64 x30.Trace.Lo]) W_ W_ bX R_)<|tP (fa aZ bX)<|tR (cu (v:=.agg [.int .u64 a0.Trace.Hi,.int .u64 a0.Trace.Lo]) W_ W_ bX R_)<|tP (hY (v:=.bool (!((x30.Trace.Hi == a0.Trace.Hi)&&((x30.Trace.Lo == a0.Trace.Lo)&&true)))) W_ W_ qd rfl qe qg W_ rfl)<|tP pc<|cc (by kernel_rfl)<|k23 _<|wi 45 h (fun c31 h=>?_) fun c31 h=>?_
     ·refine sr fun _ k32=>rP Y<|en k32<|ac<|tk (ah h hk22) fun h=>by cases ah h hq16;exact rk
     ·refine aq<|tk (aI h hk22) fun h=>?_
      exact⟨_,ra [(1,0)],h,rfl⟩
   ·rintro s ⟨h,rfl⟩
    unfold sE at h
    refine sr fun _ k33=>rP Y<|en k33<|ax<|bv (fun m s=>∃(ff:Int),am (fun(s:Int)=>nS a0 ck s) m ff=some q15∧s=lit [(1,.ptr 1 0 0),(3,.int .i64 ck),(4,.int .i64 ff)] [((1,0),.box [.int .u64 a0.Trace.Hi,.int .u64 a0.Trace.Lo,.int .i64 a0.First,.int .i64 a0.Last,.bool a0.Sure,.sl 10 (List.map ch a0.Spans)])] [(1,1)] X) Fu
     ⟨_,ra [(1,0)],0,h,rfl⟩ ?_
    rintro m s ⟨ff,h,rfl⟩
    obtain⟨m3,q34,rfl,h,hq35⟩:=bu h
    replace h:nS a0 ck ff=some q34:=h
    refine ai fun _ k36=>sr fun _ k37=>rP mv<|rP mv<|rP bi<|en k37<|wi 48 h (fun c38 h=>?_) fun c38 h=>?_
    ·refine aq<|k36 _<|ai fun _ k39=>ax<|ai fun _ k40=>cD (by kernel_rfl) (by decide +kernel)<|tP (fa aZ bN)<|tR (ld bN)<|tP mv<|gE h fun g41 h=>bE h fun x42 y42 h=>tP (ia bN aJ g41 y42)<|tP (fa aJ bd)<|tR (ld bd)<|tP (fa aZ bN)<|tR (ld bN)<|tP mv<|gE h fun g43 h=>bE h fun x44 y44 h=>tP (ia bN aJ g43 y44)<|tP (fa aJ bd)<|tR (ld bd)<|tP bi<|cc (by kernel_rfl)<|k40 _<|wi 63 h (fun c45 h=>?_) fun c45 h=>?_
     ·refine sr fun _ k46=>rP Y<|en k46<|ac<|tk (ah h hq35) fun h=>by cases ah h hq16;exact rk
     ·refine aq<|k39 _<|aB<|rP mv<|rP bi<|rP Y<|aM<|bk (ra [(1,0)]) ⟨(IntKind.i64.wrap (ff+1)),aI h hq35,rfl⟩
    ·refine bc<|tk (ah h hq35) fun h=>k20 _<|aB<|rP mv<|rP bi<|rP Y<|aM<|bk (ra [(1,0)]) ⟨(IntKind.i64.wrap (ck+1)),aI h hq16,rfl⟩
  ·refine bc<|tk (ah h hq16) fun h=>k13 _<|sr fun _ k47=>rP Y<|en k47<|ac<|by cases h;exact rk
end Go.Proofs.YtjklegmimpehlaaGreat.Ab
