/- States as bytes: written. -/
import Derived.Test.YtjklegmimpehlaaGreatXBlk
import Derived.Test.YtjklegmimpehlaaGreatProg
namespace Go.Proofs.YtjklegmimpehlaaGreat.Ab
open Go Go.RowKit
set_option linter.unusedVariables false
set_option linter.unusedSimpArgs false
set_option maxRecDepth 100000
set_option maxHeartbeats 8000000
structure fO where
  c0:Int
  c1:Int
  c2:Int
  c3:Int
  c4:Int
  c5:Int
  c6:Int
  c7:Int
  deriving DecidableEq
structure Counter where
  Count:Int
  Errs:Int
  By:fO
  deriving DecidableEq
structure bo where
  Level:Int
  Window:Int
  Service:ByteArray
  Op:ByteArray
  Counter:Counter
  deriving DecidableEq
structure Edge where
  From:ByteArray
  To:ByteArray
  Count:Int
  Errs:Int
  deriving DecidableEq
structure bz where
  Service:ByteArray
  Op:ByteArray
  Trace:Trace
  Id:Int
  Block:Int
  deriving DecidableEq
structure bT where
  Trace:Trace
  Kept:Bool
  deriving DecidableEq
structure Block where
  Number:Int
  Born:Int
  Tier:Int
  Episodes:List az
  deriving DecidableEq
structure aC where
  Now:Int
  Sec:Int
  Kept:Int
  Next:Int
  Policy:af
  Open:List az
  Pending:List az
  Memo:List bT
  Rows:List bo
  Edges:List Edge
  Slots:List bz
  Blocks:List Block
def ak (x:az):PV:=.agg [.int .u64 x.Trace.Hi,.int .u64 x.Trace.Lo,.int .i64 x.First,.int .i64 x.Last,.bool x.Sure,.sl 10 (List.map ch x.Spans)]
def aQ (x:bT):PV:=.agg [.int .u64 x.Trace.Hi,.int .u64 x.Trace.Lo,.bool x.Kept]
def aP (x:bo):PV:=.agg [.int .i64 x.Level,.int .i64 x.Window,.str x.Service,.str x.Op,.int .i64 x.Counter.Count,.int .i64 x.Counter.Errs,.int .i64 x.Counter.By.c0,.int .i64 x.Counter.By.c1,.int .i64 x.Counter.By.c2,.int .i64 x.Counter.By.c3,.int .i64 x.Counter.By.c4,.int .i64 x.Counter.By.c5,.int .i64 x.Counter.By.c6,.int .i64 x.Counter.By.c7]
def aU (x:Edge):PV:=.agg [.str x.From,.str x.To,.int .i64 x.Count,.int .i64 x.Errs]
def aV (x:bz):PV:=.agg [.str x.Service,.str x.Op,.int .u64 x.Trace.Hi,.int .u64 x.Trace.Lo,.int .u64 x.Id,.int .i64 x.Block]
def aR (x:Block):PV:=.agg [.int .i64 x.Number,.int .i64 x.Born,.int .i64 x.Tier,.sl 6 (List.map ak x.Episodes)]
theorem bp:bm Tryz.prog 25=some ⟨.slice 69,1,24,[.nil]⟩:=by kernel_rfl
theorem bU:bm Tryz.prog 27=some ⟨.slice 57,1,24,[.nil]⟩:=by kernel_rfl
theorem bH:bm Tryz.prog 28=some ⟨.slice 59,1,24,[.nil]⟩:=by kernel_rfl
theorem bO:bm Tryz.prog 29=some ⟨.slice 64,1,24,[.nil]⟩:=by kernel_rfl
theorem bF:bm Tryz.prog 30=some ⟨.slice 41,1,24,[.nil]⟩:=by kernel_rfl
theorem av:bm Tryz.prog 32=some ⟨.struct [(0,3),(1,3),(2,3),(3,3),(4,24),(9,25),(10,25),(11,26),(12,27),(13,28),(14,29),(15,30)],16,272,[.int .i64 0,.int .i64 0,.int .i64 0,.int .i64 0,.int .i64 0,.int .i64 0,.str ByteArray.empty,.str ByteArray.empty,.nil,.nil,.nil,.nil,.nil,.nil,.nil,.nil]⟩:=by kernel_rfl
theorem ca:bm Tryz.prog 41=some ⟨.struct [(0,3),(1,3),(2,3),(3,25)],4,48,[.int .i64 0,.int .i64 0,.int .i64 0,.nil]⟩:=by kernel_rfl
theorem jq:bm Tryz.prog 53=some ⟨.arr 8 3,8,64,[.int .i64 0,.int .i64 0,.int .i64 0,.int .i64 0,.int .i64 0,.int .i64 0,.int .i64 0,.int .i64 0]⟩:=by kernel_rfl
theorem dp:bm Tryz.prog 55=some ⟨.struct [(0,3),(1,3),(2,53)],10,80,[.int .i64 0,.int .i64 0,.int .i64 0,.int .i64 0,.int .i64 0,.int .i64 0,.int .i64 0,.int .i64 0,.int .i64 0,.int .i64 0]⟩:=by kernel_rfl
theorem bS:bm Tryz.prog 57=some ⟨.struct [(0,3),(1,3),(2,9),(3,9),(4,55)],14,128,[.int .i64 0,.int .i64 0,.str ByteArray.empty,.str ByteArray.empty,.int .i64 0,.int .i64 0,.int .i64 0,.int .i64 0,.int .i64 0,.int .i64 0,.int .i64 0,.int .i64 0,.int .i64 0,.int .i64 0]⟩:=by kernel_rfl
theorem cm:bm Tryz.prog 59=some ⟨.struct [(0,9),(1,9),(2,3),(3,3)],4,48,[.str ByteArray.empty,.str ByteArray.empty,.int .i64 0,.int .i64 0]⟩:=by kernel_rfl
theorem cj:bm Tryz.prog 64=some ⟨.struct [(0,9),(1,9),(2,62),(4,60),(5,3)],6,64,[.str ByteArray.empty,.str ByteArray.empty,.int .u64 0,.int .u64 0,.int .u64 0,.int .i64 0]⟩:=by kernel_rfl
theorem NR:bm Tryz.prog 66=some ⟨.other,1,8,[.nilf]⟩:=by kernel_rfl
theorem NS:bm Tryz.prog 109=some ⟨.other,1,8,[.nilf]⟩:=by kernel_rfl
theorem NT:bm Tryz.prog 111=some ⟨.other,1,8,[.nilf]⟩:=by kernel_rfl
theorem NU:bm Tryz.prog 113=some ⟨.other,1,8,[.nilf]⟩:=by kernel_rfl
theorem NV:bm Tryz.prog 115=some ⟨.other,1,8,[.nilf]⟩:=by kernel_rfl
theorem Gc:aF Tryz.prog 51:=eN Tryz.func51
theorem NW:aF Tryz.prog 53:=eN Tryz.func53
theorem NX:aF Tryz.prog 54:=eN Tryz.func54
theorem NY:aF Tryz.prog 55:=eN Tryz.func55
theorem NZ:aF Tryz.prog 56:=eN Tryz.func56
theorem N0:aF Tryz.prog 57:=eN Tryz.func57
theorem N1:aF Tryz.prog 58:=eN Tryz.func58
theorem N3:aF Tryz.prog 59:=eN Tryz.func59
theorem N4:aF Tryz.prog 60:=eN Tryz.func60
theorem N5:aF Tryz.prog 125:=eN Tryz.func125
theorem N6:aF Tryz.prog 126:=eN Tryz.func126
theorem N7:aF Tryz.prog 128:=eN Tryz.func128
theorem N8:aF Tryz.prog 129:=eN Tryz.func129
theorem N9:aF Tryz.prog 130:=eN Tryz.func130
theorem Oa:aF Tryz.prog 132:=eN Tryz.func132
theorem Ob:aF Tryz.prog 133:=eN Tryz.func133
theorem Oc:aF Tryz.prog 134:=eN Tryz.func134
theorem Od:aF Tryz.prog 135:=eN Tryz.func135
theorem Oe:aF Tryz.prog 136:=eN Tryz.func136
theorem Of:aF Tryz.prog 137:=eN Tryz.func137
theorem Og:aF Tryz.prog 156:=eN Tryz.func156
theorem Oh:aF Tryz.prog 160:=eN Tryz.func160
theorem Oi:aF Tryz.prog 161:=eN Tryz.func161
theorem Oj:aF Tryz.prog 162:=eN Tryz.func162
theorem Ol:aF Tryz.prog 163:=eN Tryz.func163
theorem Om:aF Tryz.prog 164:=eN Tryz.func164
def Gd (a0:Int):Option Int:=
 gd (0≤a0) (Option.bind ([60,3600,86400][(Int.toNat a0)]?) (fun(x11:Int)=>some x11))
def wB (a0:Int):Option Int:=
 Option.bind (if(decide (a0<0))=true then(some (Sum.inr 0))else(if(decide ((3:Int)≤a0))=true then(some (Sum.inr 0))else(some (Sum.inl ())))) (Sum.elim (fun(s:Unit)=>Gd a0) some)
theorem On (a0:Int) {r:Int} (h:wB a0=some r):Ok Tryz.prog 161 [.int .i64 a0] [] [] (.int .i64 r) [] []:=by
 refine oK Tryz.func161 rfl fun X=>sr fun _ k1=>rP Y<|en k1<|bE h fun q2 h hk3=>bx (fun s=>Gd a0=some r∧s=lit [(0,.int .i64 a0)] [] [] X) ?_ ?_
 ·skip
  refine sr fun _ k4=>rP mv<|rP bi<|rP mv<|li 5 h (fun c5 h=>?_) fun c5 h=>?_
  ·refine rS<|rS<|rP pc<|en k4<|bM D_ rfl<|sr fun _ k6=>rP Y<|en k6<|ac<|by cases ah h hk3;exact rk
  ·refine rP mv<|rP bi<|rP pc<|en k4<|wi 8 h (fun c7 h=>?_) fun c7 h=>?_
   ·refine sr fun _ k8=>rP Y<|en k8<|ac<|by cases ah h hk3;exact rk
   ·refine aq<|tk (aI h hk3) fun h=>?_
    exact⟨_,ra [],h,rfl⟩
 ·rintro s ⟨h,rfl⟩
  refine sr fun _ k9=>rD (bs (List.map cH [60,3600,86400]) da ae rfl)<|rP mv<|gE h fun g10 h=>bE h fun x11 y11 h=>rX (CR W_ W_ W_ da ae g10 (by exact Cq y11))<|rX (cu (v:=.int .i64 x11) W_ (Cn W_ (by exact ul y11)) ae R_)<|rP Y<|en k9<|ac<|by cases h;exact rk
def Aq (a1:Int) (x3:Int):Option (Int×Int×Bool):=
 some ((IntKind.i64.wrap (a1*x3)),(IntKind.i64.wrap ((IntKind.i64.wrap (a1+1))*x3)),true)
def wC (a0:Int) (a1:Int):Option (Int×Int×Bool):=
 Option.bind (wB a0) (fun(x3:Int)=>Option.bind (if(x3 == 0)=true then(some (Sum.inr (0,0,false)))else(if(decide (a1<0))=true then(some (Sum.inr (0,0,false)))else(gd (¬x3=0) (if(decide ((IntKind.i64.wrap (Int.tdiv 1099511627776 x3))<a1))=true then(some (Sum.inr (0,0,false)))else(some (Sum.inl ())))))) (Sum.elim (fun(s:Unit)=>Aq a1 x3) some))
theorem Oo (a0:Int) (a1:Int) {r:Int×Int×Bool} (h:wC a0 a1=some r):Ok Tryz.prog 130 [.int .i64 a0,.int .i64 a1] [] [] (.tup [.int .i64 r.1,.int .i64 r.2.1,.bool r.2.2]) [] []:=by
 refine oK Tryz.func130 rfl fun X=>sr fun _ k1=>rP Y<|rP Y<|rP Y<|en k1<|sr fun _ k2=>rP mv<|bE h fun x3 y3 h=>rD (cZ (On a0 y3) Oi)<|rP Y<|en k2<|bE h fun q4 h hk5=>bx (fun s=>Aq a1 x3=some r∧s=lit [(1,.int .i64 a1),(7,.int .i64 x3)] [] [] X) ?_ ?_
 ·skip
  refine sr fun _ k6=>rP mv<|rP bi<|rP mv<|li 12 h (fun c7 h=>?_) fun c7 h=>?_
  ·refine rS<|rS<|rP pc<|rP mv<|rS<|rS<|rS<|rS<|rP pc<|en k6<|bM D_ rfl<|sr fun _ k8=>rP Y<|rP Y<|rP Y<|en k8<|ac<|by cases ah h hk5;exact rk
  ·refine rP mv<|rP bi<|rP pc<|rP mv<|li 16 h (fun c9 h=>?_) fun c9 h=>?_
   ·refine rS<|rS<|rS<|rS<|rP pc<|en k6<|bM D_ rfl<|sr fun _ k10=>rP Y<|rP Y<|rP Y<|en k10<|ac<|by cases ah h hk5;exact rk
   ·refine rP mv<|rP mv<|gE h fun g11 h=>rP (jO (v:=.int .i64 (IntKind.i64.wrap (Int.tdiv 1099511627776 x3))) W_ W_ (B0 g11))<|rP bi<|rP pc<|en k6<|wi 21 h (fun c12 h=>?_) fun c12 h=>?_
    ·refine sr fun _ k13=>rP Y<|rP Y<|rP Y<|en k13<|ac<|by cases ah h hk5;exact rk
    ·refine aq<|tk (aI h hk5) fun h=>?_
     exact⟨_,ra [],h,rfl⟩
 ·rintro s ⟨h,rfl⟩
  unfold Aq at h
  refine sr fun _ k14=>rP mv<|rP mv<|rP bi<|rP mv<|rP bi<|rP mv<|rP bi<|rP Y<|rP Y<|rP Y<|en k14<|ac<|by cases h;exact rk
def wD (a0:bo):Option Bool:=
 Option.bind (wC a0.Level a0.Window) (fun(x3:Int×Int×Bool)=>if x3.2.2=true then(Option.bind (gL a0.Service) (fun(x6:Bool)=>if x6=true then(Option.bind (gL a0.Op) (fun(x8:Bool)=>if x8=true then(Option.bind (kT [a0.Counter.Count,a0.Counter.Errs]) (fun(x10:Bool)=>if x10=true then(Option.bind (kT [a0.Counter.By.c0,a0.Counter.By.c1,a0.Counter.By.c2,a0.Counter.By.c3,a0.Counter.By.c4,a0.Counter.By.c5,a0.Counter.By.c6,a0.Counter.By.c7]) (fun(x12:Bool)=>some x12))else(some false)))else(some false)))else(some false)))else(some false))
theorem Oq (a0:bo) {r:Bool} (h:wD a0=some r):Ok Tryz.prog 54 [.agg [.int .i64 a0.Level,.int .i64 a0.Window,.str a0.Service,.str a0.Op,.int .i64 a0.Counter.Count,.int .i64 a0.Counter.Errs,.int .i64 a0.Counter.By.c0,.int .i64 a0.Counter.By.c1,.int .i64 a0.Counter.By.c2,.int .i64 a0.Counter.By.c3,.int .i64 a0.Counter.By.c4,.int .i64 a0.Counter.By.c5,.int .i64 a0.Counter.By.c6,.int .i64 a0.Counter.By.c7]] [] [] (.bool r) [] []:=by
 refine oK Tryz.func54 rfl fun X=>sr fun _ k1=>rD (bY W_ rfl rfl)<|rP Y<|en k1<|sr fun _ k2=>rP (fa bS ae)<|rX (ld ae)<|rP (fa bS ae)<|rX (ld ae)<|bE h fun x3 y3 h=>rD (cZ (Oo a0.Level a0.Window y3) N9)<|rP mv<|rP ex<|rP ex<|rP ex<|rP Y<|rP Y<|rP Y<|en k2<|sr fun _ k4=>rP mv<|rP mv<|li 16 h (fun c5 h=>?_) fun c5 h=>?_
 ·refine rP (fa bS ap)<|rX (ld ap)<|bE h fun x6 y6 h=>rD (cz (.bool x6) (kY a0.Service y6) kX)<|rP pc<|rP mv<|li 21 h (fun c7 h=>?_) fun c7 h=>?_
  ·refine rP (fa bS ap)<|rX (ld ap)<|bE h fun x8 y8 h=>rD (cz (.bool x8) (kY a0.Op y8) kX)<|rP pc<|rP mv<|li 26 h (fun c9 h=>?_) fun c9 h=>?_
   ·refine rP (fa bS dp)<|rP (fa dp ae)<|rX (ld ae)<|rP (fa bS dp)<|rP (fa dp ae)<|rX (ld ae)<|rD ((bs (List.map cH [a0.Counter.Count,a0.Counter.Errs]) da ae rfl).fx (y:=⟨_,.own 33 0,[((33,0),some (.arr 3 1 false (List.map cH [a0.Counter.Count,a0.Counter.Errs])))],[33]⟩) rfl)<|bE h fun x10 y10 h=>rD ((cG [] [] [(33,0)] (nQ [a0.Counter.Count,a0.Counter.Errs] y10) nP).fx (y:=⟨[(33,0)],.bool x10,[],[34]⟩) rfl)<|rP pc<|rP mv<|li 36 h (fun c11 h=>?_) fun c11 h=>?_
    ·refine rP (fa bS dp)<|rP (fa dp jq)<|rD (CV (off:=6) (v:=List.map cH [a0.Counter.By.c0,a0.Counter.By.c1,a0.Counter.By.c2,a0.Counter.By.c3,a0.Counter.By.c4,a0.Counter.By.c5,a0.Counter.By.c6,a0.Counter.By.c7]) W_ R_ jq ae rfl rfl rfl)<|bE h fun x12 y12 h=>rD (cz (.bool x12) (nQ [a0.Counter.By.c0,a0.Counter.By.c1,a0.Counter.By.c2,a0.Counter.By.c3,a0.Counter.By.c4,a0.Counter.By.c5,a0.Counter.By.c6,a0.Counter.By.c7] y12) nP)<|rP pc<|rP Y<|en k4<|ac<|by cases h;exact rk
    ·refine rS<|rS<|rS<|rS<|rP pc<|rP Y<|en k4<|ac<|by cases h;exact rk
   ·refine rS<|rS<|rS<|rS<|rS<|rS<|rS<|rS<|rP pc<|rP mv<|rS<|rS<|rS<|rS<|rP pc<|rP Y<|en k4<|ac<|by cases h;exact rk
  ·refine rS<|rS<|rS<|rP pc<|rP mv<|rS<|rS<|rS<|rS<|rS<|rS<|rS<|rS<|rP pc<|rP mv<|rS<|rS<|rS<|rS<|rP pc<|rP Y<|en k4<|ac<|by cases h;exact rk
 ·refine rS<|rS<|rS<|rP pc<|rP mv<|rS<|rS<|rS<|rP pc<|rP mv<|rS<|rS<|rS<|rS<|rS<|rS<|rS<|rS<|rP pc<|rP mv<|rS<|rS<|rS<|rS<|rP pc<|rP Y<|en k4<|ac<|by cases h;exact rk
def wE (a0:Edge):Option Bool:=
 Option.bind (gL a0.From) (fun(x3:Bool)=>if x3=true then(Option.bind (gL a0.To) (fun(x5:Bool)=>if x5=true then(Option.bind (kT [a0.Count,a0.Errs]) (fun(x7:Bool)=>some x7))else(some false)))else(some false))
theorem Ot (a0:Edge) {r:Bool} (h:wE a0=some r):Ok Tryz.prog 56 [.agg [.str a0.From,.str a0.To,.int .i64 a0.Count,.int .i64 a0.Errs]] [] [] (.bool r) [] []:=by
 refine oK Tryz.func56 rfl fun X=>sr fun _ k1=>rD (bY W_ rfl rfl)<|rP Y<|en k1<|sr fun _ k2=>rP (fa cm ap)<|rX (ld ap)<|bE h fun x3 y3 h=>rD (cZ (kY a0.From y3) kX)<|rP mv<|li 6 h (fun c4 h=>?_) fun c4 h=>?_
 ·refine rP (fa cm ap)<|rX (ld ap)<|bE h fun x5 y5 h=>rD (cZ (kY a0.To y5) kX)<|rP pc<|rP mv<|li 11 h (fun c6 h=>?_) fun c6 h=>?_
  ·refine rP (fa cm ae)<|rX (ld ae)<|rP (fa cm ae)<|rX (ld ae)<|rD (bs (List.map cH [a0.Count,a0.Errs]) da ae rfl)<|bE h fun x7 y7 h=>rD (cG [] [] [(16,0)] (nQ [a0.Count,a0.Errs] y7) nP)<|rP pc<|rP Y<|en k2<|ac<|by cases h;exact rk
  ·refine rS<|rS<|rS<|rS<|rS<|rS<|rP pc<|rP Y<|en k2<|ac<|by cases h;exact rk
 ·refine rS<|rS<|rS<|rP pc<|rP mv<|rS<|rS<|rS<|rS<|rS<|rS<|rP pc<|rP Y<|en k2<|ac<|by cases h;exact rk
def wF (a0:bz):Option Bool:=
 Option.bind (gL a0.Service) (fun(x3:Bool)=>if x3=true then(Option.bind (gL a0.Op) (fun(x5:Bool)=>if x5=true then(Option.bind (kT [a0.Block]) (fun(x7:Bool)=>some x7))else(some false)))else(some false))
theorem Ou (a0:bz) {r:Bool} (h:wF a0=some r):Ok Tryz.prog 58 [.agg [.str a0.Service,.str a0.Op,.int .u64 a0.Trace.Hi,.int .u64 a0.Trace.Lo,.int .u64 a0.Id,.int .i64 a0.Block]] [] [] (.bool r) [] []:=by
 refine oK Tryz.func58 rfl fun X=>sr fun _ k1=>rD (bY W_ rfl rfl)<|rP Y<|en k1<|sr fun _ k2=>rP (fa cj ap)<|rX (ld ap)<|bE h fun x3 y3 h=>rD (cZ (kY a0.Service y3) kX)<|rP mv<|li 6 h (fun c4 h=>?_) fun c4 h=>?_
 ·refine rP (fa cj ap)<|rX (ld ap)<|bE h fun x5 y5 h=>rD (cZ (kY a0.Op y5) kX)<|rP pc<|rP mv<|li 11 h (fun c6 h=>?_) fun c6 h=>?_
  ·refine rP (fa cj ae)<|rX (ld ae)<|rD (bs (List.map cH [a0.Block]) da ae rfl)<|bE h fun x7 y7 h=>rD (cG [] [] [(14,0)] (nQ [a0.Block] y7) nP)<|rP pc<|rP Y<|en k2<|ac<|by cases h;exact rk
  ·refine rS<|rS<|rS<|rS<|rP pc<|rP Y<|en k2<|ac<|by cases h;exact rk
 ·refine rS<|rS<|rS<|rP pc<|rP mv<|rS<|rS<|rS<|rS<|rP pc<|rP Y<|en k2<|ac<|by cases h;exact rk
def Ar (a0:az):Option Bool:=
 Option.bind (pH a0) (fun(x3:Bool)=>some (!x3))
theorem Ov (a0:az) {r:Bool} (h:Ar a0=some r):Ok Tryz.prog 126 [.agg [.int .u64 a0.Trace.Hi,.int .u64 a0.Trace.Lo,.int .i64 a0.First,.int .i64 a0.Last,.bool a0.Sure,.sl 10 (List.map ch a0.Spans)],.rptr [.fn 52 []]] [] [] (.bool r) [] []:=by
 refine oK Tryz.func126 rfl fun X=>sr fun _ k1=>rD (bY W_ rfl rfl)<|rP Y<|en k1<|sr fun _ k2=>rX (ld NR)<|pl 5 (.agg [.int .u64 a0.Trace.Hi,.int .u64 a0.Trace.Lo,.int .i64 a0.First,.int .i64 a0.Last,.bool a0.Sure,.sl 10 (List.map ch a0.Spans)]) aZ<|bE h fun x3 y3 h=>rD (cZ (FE a0 y3) FD)<|rP un<|rP Y<|en k2<|ac<|by cases h;exact rk
def qk (a0:List az) (aS:Int):Option (Int⊕Int):=
 if(decide (aS<(List.length a0:Int)))=true then(gd (0≤aS) (Option.bind (a0[(Int.toNat aS)]?) (fun(x13:az)=>Option.bind (Ar x13) (fun(x14:Bool)=>if x14=true then(some (Sum.inr aS))else(some (Sum.inl (IntKind.i64.wrap (aS+1))))))))else(some (Sum.inr (-1)))
def wG (a0:List az):Option Int:=
 am (fun(s:Int)=>qk a0 s) Fu 0
theorem Ow (a0:List az) {r:Int} (h:wG a0=some r):Ok Tryz.prog 156 [.sl 6 (List.map ak a0),.fn 126 [.rptr [.fn 52 []]]] [] [] (.int .i64 r) [] []:=by
 unfold wG at h
 refine oK Tryz.func156 rfl fun X=>sr fun _ k1=>rP Y<|en k1<|ai fun _ k2=>sr fun _ k3=>rP mv<|rP (zl bp)<|rP mv<|en k3<|ax<|bv (fun m s=>∃(aS:Int),am (fun(s:Int)=>qk a0 s) m aS=some r∧s=lit [(0,.sl 6 (List.map ak a0)),(1,.fn 126 [.rptr [.fn 52 []]]),(7,.int .i64 (List.length a0:Int)),(8,.int .i64 aS)] [] [] X) Fu
  ⟨_,ra [],0,h,rfl⟩ ?_
 rintro m s ⟨aS,h,rfl⟩
 obtain⟨m0,q4,rfl,h,hq5⟩:=bu h
 replace h:qk a0 aS=some q4:=h
 refine sr fun _ k6=>rP bi<|en k6<|ai fun _ k7=>wi 9 h (fun c8 h=>?_) fun c8 h=>?_
 ·refine aq<|k7 _<|ai fun _ k9=>ax<|sr fun _ k10=>rP mv<|rP Y<|en k10<|sr fun _ k11=>rP mv<|rP mv<|rP mv<|gE h fun g12 h=>bE h fun x13 y13 h=>rP (ia bp aZ g12 y13)<|pl 15 (.agg [.int .u64 x13.Trace.Hi,.int .u64 x13.Trace.Lo,.int .i64 x13.First,.int .i64 x13.Last,.bool x13.Sure,.sl 10 (List.map ch x13.Spans)]) aZ<|bE h fun x14 y14 h=>rD (cZ (Ov x13 y14) N6)<|en k11<|wi 16 h (fun c15 h=>?_) fun c15 h=>?_
  ·refine sr fun _ k16=>rP mv<|rP Y<|en k16<|ac<|by cases ah h hq5;exact rk
  ·refine aq<|k9 _<|aB<|rP bi<|rP mv<|aM<|bk (ra []) ⟨(IntKind.i64.wrap (aS+1)),aI h hq5,rfl⟩
 ·refine bc<|tk (ah h hq5) fun h=>k2 _<|sr fun _ k17=>rP Y<|en k17<|ac<|by cases h;exact rk
def As (a0:List az):Option Bool:=
 Option.bind (wG a0) (fun(x3:Int)=>some (decide ((0:Int)≤x3)))
theorem Ox (a0:List az) {r:Bool} (h:As a0=some r):Ok Tryz.prog 125 [.sl 6 (List.map ak a0),.fn 126 [.rptr [.fn 52 []]]] [] [] (.bool r) [] []:=by
 refine oK Tryz.func125 rfl fun X=>sr fun _ k1=>rP Y<|en k1<|sr fun _ k2=>rP mv<|rP mv<|bE h fun x3 y3 h=>rD (cZ (Ow a0 y3) Og)<|rP bi<|rP Y<|en k2<|ac<|by cases h;exact rk
def tg (a0:List az):Option Bool:=
 Option.bind (As a0) (fun(x3:Bool)=>some (!x3))
theorem Ge (a0:List az) {r:Bool} (h:tg a0=some r):Ok Tryz.prog 51 [.sl 6 (List.map ak a0),.fn 52 []] [] [] (.bool r) [] []:=by
 refine oK Tryz.func51 rfl fun X=>sr fun _ k1=>rD (bY W_ rfl rfl)<|rP Y<|en k1<|sr fun _ k2=>rP mv<|rP (ix (vs:=[.ptr 3 0 0]) rfl)<|bE h fun x3 y3 h=>rD (cG [] [] [(3,0)] (Ox a0 y3) N5)<|rP un<|rP Y<|en k2<|ac<|by cases h;exact rk
def At (a0:bo):Option Bool:=
 Option.bind (wD a0) (fun(x3:Bool)=>some (!x3))
theorem Oy (a0:bo) {r:Bool} (h:At a0=some r):Ok Tryz.prog 129 [.agg [.int .i64 a0.Level,.int .i64 a0.Window,.str a0.Service,.str a0.Op,.int .i64 a0.Counter.Count,.int .i64 a0.Counter.Errs,.int .i64 a0.Counter.By.c0,.int .i64 a0.Counter.By.c1,.int .i64 a0.Counter.By.c2,.int .i64 a0.Counter.By.c3,.int .i64 a0.Counter.By.c4,.int .i64 a0.Counter.By.c5,.int .i64 a0.Counter.By.c6,.int .i64 a0.Counter.By.c7],.rptr [.fn 54 []]] [] [] (.bool r) [] []:=by
 refine oK Tryz.func129 rfl fun X=>sr fun _ k1=>rD (bY W_ rfl rfl)<|rP Y<|en k1<|sr fun _ k2=>rX (ld NS)<|pl 5 (.agg [.int .i64 a0.Level,.int .i64 a0.Window,.str a0.Service,.str a0.Op,.int .i64 a0.Counter.Count,.int .i64 a0.Counter.Errs,.int .i64 a0.Counter.By.c0,.int .i64 a0.Counter.By.c1,.int .i64 a0.Counter.By.c2,.int .i64 a0.Counter.By.c3,.int .i64 a0.Counter.By.c4,.int .i64 a0.Counter.By.c5,.int .i64 a0.Counter.By.c6,.int .i64 a0.Counter.By.c7]) bS<|bE h fun x3 y3 h=>rD (cZ (Oq a0 y3) NX)<|rP un<|rP Y<|en k2<|ac<|by cases h;exact rk
def ql (a0:List bo) (aS:Int):Option (Int⊕Int):=
 if(decide (aS<(List.length a0:Int)))=true then(gd (0≤aS) (Option.bind (a0[(Int.toNat aS)]?) (fun(x13:bo)=>Option.bind (At x13) (fun(x14:Bool)=>if x14=true then(some (Sum.inr aS))else(some (Sum.inl (IntKind.i64.wrap (aS+1))))))))else(some (Sum.inr (-1)))
def wH (a0:List bo):Option Int:=
 am (fun(s:Int)=>ql a0 s) Fu 0
theorem Oz (a0:List bo) {r:Int} (h:wH a0=some r):Ok Tryz.prog 160 [.sl 14 (List.map aP a0),.fn 129 [.rptr [.fn 54 []]]] [] [] (.int .i64 r) [] []:=by
 unfold wH at h
 refine oK Tryz.func160 rfl fun X=>sr fun _ k1=>rP Y<|en k1<|ai fun _ k2=>sr fun _ k3=>rP mv<|rP (zl bU)<|rP mv<|en k3<|ax<|bv (fun m s=>∃(aS:Int),am (fun(s:Int)=>ql a0 s) m aS=some r∧s=lit [(0,.sl 14 (List.map aP a0)),(1,.fn 129 [.rptr [.fn 54 []]]),(7,.int .i64 (List.length a0:Int)),(8,.int .i64 aS)] [] [] X) Fu
  ⟨_,ra [],0,h,rfl⟩ ?_
 rintro m s ⟨aS,h,rfl⟩
 obtain⟨m0,q4,rfl,h,hq5⟩:=bu h
 replace h:ql a0 aS=some q4:=h
 refine sr fun _ k6=>rP bi<|en k6<|ai fun _ k7=>wi 9 h (fun c8 h=>?_) fun c8 h=>?_
 ·refine aq<|k7 _<|ai fun _ k9=>ax<|sr fun _ k10=>rP mv<|rP Y<|en k10<|sr fun _ k11=>rP mv<|rP mv<|rP mv<|gE h fun g12 h=>bE h fun x13 y13 h=>rP (ia bU bS g12 y13)<|pl 15 (.agg [.int .i64 x13.Level,.int .i64 x13.Window,.str x13.Service,.str x13.Op,.int .i64 x13.Counter.Count,.int .i64 x13.Counter.Errs,.int .i64 x13.Counter.By.c0,.int .i64 x13.Counter.By.c1,.int .i64 x13.Counter.By.c2,.int .i64 x13.Counter.By.c3,.int .i64 x13.Counter.By.c4,.int .i64 x13.Counter.By.c5,.int .i64 x13.Counter.By.c6,.int .i64 x13.Counter.By.c7]) bS<|bE h fun x14 y14 h=>rD (cZ (Oy x13 y14) N8)<|en k11<|wi 16 h (fun c15 h=>?_) fun c15 h=>?_
  ·refine sr fun _ k16=>rP mv<|rP Y<|en k16<|ac<|by cases ah h hq5;exact rk
  ·refine aq<|k9 _<|aB<|rP bi<|rP mv<|aM<|bk (ra []) ⟨(IntKind.i64.wrap (aS+1)),aI h hq5,rfl⟩
 ·refine bc<|tk (ah h hq5) fun h=>k2 _<|sr fun _ k17=>rP Y<|en k17<|ac<|by cases h;exact rk
def Au (a0:List bo):Option Bool:=
 Option.bind (wH a0) (fun(x3:Int)=>some (decide ((0:Int)≤x3)))
theorem OA (a0:List bo) {r:Bool} (h:Au a0=some r):Ok Tryz.prog 128 [.sl 14 (List.map aP a0),.fn 129 [.rptr [.fn 54 []]]] [] [] (.bool r) [] []:=by
 refine oK Tryz.func128 rfl fun X=>sr fun _ k1=>rP Y<|en k1<|sr fun _ k2=>rP mv<|rP mv<|bE h fun x3 y3 h=>rD (cZ (Oz a0 y3) Oh)<|rP bi<|rP Y<|en k2<|ac<|by cases h;exact rk
def wI (a0:List bo):Option Bool:=
 Option.bind (Au a0) (fun(x3:Bool)=>some (!x3))
theorem OB (a0:List bo) {r:Bool} (h:wI a0=some r):Ok Tryz.prog 53 [.sl 14 (List.map aP a0),.fn 54 []] [] [] (.bool r) [] []:=by
 refine oK Tryz.func53 rfl fun X=>sr fun _ k1=>rD (bY W_ rfl rfl)<|rP Y<|en k1<|sr fun _ k2=>rP mv<|rP (ix (vs:=[.ptr 3 0 0]) rfl)<|bE h fun x3 y3 h=>rD (cG [] [] [(3,0)] (OA a0 y3) N7)<|rP un<|rP Y<|en k2<|ac<|by cases h;exact rk
def Av (a0:Edge):Option Bool:=
 Option.bind (wE a0) (fun(x3:Bool)=>some (!x3))
theorem OC (a0:Edge) {r:Bool} (h:Av a0=some r):Ok Tryz.prog 133 [.agg [.str a0.From,.str a0.To,.int .i64 a0.Count,.int .i64 a0.Errs],.rptr [.fn 56 []]] [] [] (.bool r) [] []:=by
 refine oK Tryz.func133 rfl fun X=>sr fun _ k1=>rD (bY W_ rfl rfl)<|rP Y<|en k1<|sr fun _ k2=>rX (ld NT)<|pl 5 (.agg [.str a0.From,.str a0.To,.int .i64 a0.Count,.int .i64 a0.Errs]) cm<|bE h fun x3 y3 h=>rD (cZ (Ot a0 y3) NZ)<|rP un<|rP Y<|en k2<|ac<|by cases h;exact rk
def qm (a0:List Edge) (aS:Int):Option (Int⊕Int):=
 if(decide (aS<(List.length a0:Int)))=true then(gd (0≤aS) (Option.bind (a0[(Int.toNat aS)]?) (fun(x13:Edge)=>Option.bind (Av x13) (fun(x14:Bool)=>if x14=true then(some (Sum.inr aS))else(some (Sum.inl (IntKind.i64.wrap (aS+1))))))))else(some (Sum.inr (-1)))
def wJ (a0:List Edge):Option Int:=
 am (fun(s:Int)=>qm a0 s) Fu 0
theorem OD (a0:List Edge) {r:Int} (h:wJ a0=some r):Ok Tryz.prog 162 [.sl 4 (List.map aU a0),.fn 133 [.rptr [.fn 56 []]]] [] [] (.int .i64 r) [] []:=by
 unfold wJ at h
 refine oK Tryz.func162 rfl fun X=>sr fun _ k1=>rP Y<|en k1<|ai fun _ k2=>sr fun _ k3=>rP mv<|rP (zl bH)<|rP mv<|en k3<|ax<|bv (fun m s=>∃(aS:Int),am (fun(s:Int)=>qm a0 s) m aS=some r∧s=lit [(0,.sl 4 (List.map aU a0)),(1,.fn 133 [.rptr [.fn 56 []]]),(7,.int .i64 (List.length a0:Int)),(8,.int .i64 aS)] [] [] X) Fu
  ⟨_,ra [],0,h,rfl⟩ ?_
 rintro m s ⟨aS,h,rfl⟩
 obtain⟨m0,q4,rfl,h,hq5⟩:=bu h
 replace h:qm a0 aS=some q4:=h
 refine sr fun _ k6=>rP bi<|en k6<|ai fun _ k7=>wi 9 h (fun c8 h=>?_) fun c8 h=>?_
 ·refine aq<|k7 _<|ai fun _ k9=>ax<|sr fun _ k10=>rP mv<|rP Y<|en k10<|sr fun _ k11=>rP mv<|rP mv<|rP mv<|gE h fun g12 h=>bE h fun x13 y13 h=>rP (ia bH cm g12 y13)<|pl 15 (.agg [.str x13.From,.str x13.To,.int .i64 x13.Count,.int .i64 x13.Errs]) cm<|bE h fun x14 y14 h=>rD (cZ (OC x13 y14) Ob)<|en k11<|wi 16 h (fun c15 h=>?_) fun c15 h=>?_
  ·refine sr fun _ k16=>rP mv<|rP Y<|en k16<|ac<|by cases ah h hq5;exact rk
  ·refine aq<|k9 _<|aB<|rP bi<|rP mv<|aM<|bk (ra []) ⟨(IntKind.i64.wrap (aS+1)),aI h hq5,rfl⟩
 ·refine bc<|tk (ah h hq5) fun h=>k2 _<|sr fun _ k17=>rP Y<|en k17<|ac<|by cases h;exact rk
def Aw (a0:List Edge):Option Bool:=
 Option.bind (wJ a0) (fun(x3:Int)=>some (decide ((0:Int)≤x3)))
theorem OE (a0:List Edge) {r:Bool} (h:Aw a0=some r):Ok Tryz.prog 132 [.sl 4 (List.map aU a0),.fn 133 [.rptr [.fn 56 []]]] [] [] (.bool r) [] []:=by
 refine oK Tryz.func132 rfl fun X=>sr fun _ k1=>rP Y<|en k1<|sr fun _ k2=>rP mv<|rP mv<|bE h fun x3 y3 h=>rD (cZ (OD a0 y3) Oj)<|rP bi<|rP Y<|en k2<|ac<|by cases h;exact rk
def wK (a0:List Edge):Option Bool:=
 Option.bind (Aw a0) (fun(x3:Bool)=>some (!x3))
theorem OF (a0:List Edge) {r:Bool} (h:wK a0=some r):Ok Tryz.prog 55 [.sl 4 (List.map aU a0),.fn 56 []] [] [] (.bool r) [] []:=by
 refine oK Tryz.func55 rfl fun X=>sr fun _ k1=>rD (bY W_ rfl rfl)<|rP Y<|en k1<|sr fun _ k2=>rP mv<|rP (ix (vs:=[.ptr 3 0 0]) rfl)<|bE h fun x3 y3 h=>rD (cG [] [] [(3,0)] (OE a0 y3) Oa)<|rP un<|rP Y<|en k2<|ac<|by cases h;exact rk
def Ax (a0:bz):Option Bool:=
 Option.bind (wF a0) (fun(x3:Bool)=>some (!x3))
theorem OG (a0:bz) {r:Bool} (h:Ax a0=some r):Ok Tryz.prog 135 [.agg [.str a0.Service,.str a0.Op,.int .u64 a0.Trace.Hi,.int .u64 a0.Trace.Lo,.int .u64 a0.Id,.int .i64 a0.Block],.rptr [.fn 58 []]] [] [] (.bool r) [] []:=by
 refine oK Tryz.func135 rfl fun X=>sr fun _ k1=>rD (bY W_ rfl rfl)<|rP Y<|en k1<|sr fun _ k2=>rX (ld NU)<|pl 5 (.agg [.str a0.Service,.str a0.Op,.int .u64 a0.Trace.Hi,.int .u64 a0.Trace.Lo,.int .u64 a0.Id,.int .i64 a0.Block]) cj<|bE h fun x3 y3 h=>rD (cZ (Ou a0 y3) N1)<|rP un<|rP Y<|en k2<|ac<|by cases h;exact rk
def qn (a0:List bz) (aS:Int):Option (Int⊕Int):=
 if(decide (aS<(List.length a0:Int)))=true then(gd (0≤aS) (Option.bind (a0[(Int.toNat aS)]?) (fun(x13:bz)=>Option.bind (Ax x13) (fun(x14:Bool)=>if x14=true then(some (Sum.inr aS))else(some (Sum.inl (IntKind.i64.wrap (aS+1))))))))else(some (Sum.inr (-1)))
def wL (a0:List bz):Option Int:=
 am (fun(s:Int)=>qn a0 s) Fu 0
theorem OH (a0:List bz) {r:Int} (h:wL a0=some r):Ok Tryz.prog 163 [.sl 6 (List.map aV a0),.fn 135 [.rptr [.fn 58 []]]] [] [] (.int .i64 r) [] []:=by
 unfold wL at h
 refine oK Tryz.func163 rfl fun X=>sr fun _ k1=>rP Y<|en k1<|ai fun _ k2=>sr fun _ k3=>rP mv<|rP (zl bO)<|rP mv<|en k3<|ax<|bv (fun m s=>∃(aS:Int),am (fun(s:Int)=>qn a0 s) m aS=some r∧s=lit [(0,.sl 6 (List.map aV a0)),(1,.fn 135 [.rptr [.fn 58 []]]),(7,.int .i64 (List.length a0:Int)),(8,.int .i64 aS)] [] [] X) Fu
  ⟨_,ra [],0,h,rfl⟩ ?_
 rintro m s ⟨aS,h,rfl⟩
 obtain⟨m0,q4,rfl,h,hq5⟩:=bu h
 replace h:qn a0 aS=some q4:=h
 refine sr fun _ k6=>rP bi<|en k6<|ai fun _ k7=>wi 9 h (fun c8 h=>?_) fun c8 h=>?_
 ·refine aq<|k7 _<|ai fun _ k9=>ax<|sr fun _ k10=>rP mv<|rP Y<|en k10<|sr fun _ k11=>rP mv<|rP mv<|rP mv<|gE h fun g12 h=>bE h fun x13 y13 h=>rP (ia bO cj g12 y13)<|pl 15 (.agg [.str x13.Service,.str x13.Op,.int .u64 x13.Trace.Hi,.int .u64 x13.Trace.Lo,.int .u64 x13.Id,.int .i64 x13.Block]) cj<|bE h fun x14 y14 h=>rD (cZ (OG x13 y14) Od)<|en k11<|wi 16 h (fun c15 h=>?_) fun c15 h=>?_
  ·refine sr fun _ k16=>rP mv<|rP Y<|en k16<|ac<|by cases ah h hq5;exact rk
  ·refine aq<|k9 _<|aB<|rP bi<|rP mv<|aM<|bk (ra []) ⟨(IntKind.i64.wrap (aS+1)),aI h hq5,rfl⟩
 ·refine bc<|tk (ah h hq5) fun h=>k2 _<|sr fun _ k17=>rP Y<|en k17<|ac<|by cases h;exact rk
def Ay (a0:List bz):Option Bool:=
 Option.bind (wL a0) (fun(x3:Int)=>some (decide ((0:Int)≤x3)))
theorem OI (a0:List bz) {r:Bool} (h:Ay a0=some r):Ok Tryz.prog 134 [.sl 6 (List.map aV a0),.fn 135 [.rptr [.fn 58 []]]] [] [] (.bool r) [] []:=by
 refine oK Tryz.func134 rfl fun X=>sr fun _ k1=>rP Y<|en k1<|sr fun _ k2=>rP mv<|rP mv<|bE h fun x3 y3 h=>rD (cZ (OH a0 y3) Ol)<|rP bi<|rP Y<|en k2<|ac<|by cases h;exact rk
def wM (a0:List bz):Option Bool:=
 Option.bind (Ay a0) (fun(x3:Bool)=>some (!x3))
theorem OJ (a0:List bz) {r:Bool} (h:wM a0=some r):Ok Tryz.prog 57 [.sl 6 (List.map aV a0),.fn 58 []] [] [] (.bool r) [] []:=by
 refine oK Tryz.func57 rfl fun X=>sr fun _ k1=>rD (bY W_ rfl rfl)<|rP Y<|en k1<|sr fun _ k2=>rP mv<|rP (ix (vs:=[.ptr 3 0 0]) rfl)<|bE h fun x3 y3 h=>rD (cG [] [] [(3,0)] (OI a0 y3) Oc)<|rP un<|rP Y<|en k2<|ac<|by cases h;exact rk
def wN (a0:Block):Option Bool:=
 Option.bind (kT [a0.Number,a0.Born,a0.Tier]) (fun(x3:Bool)=>some x3)
theorem OK (a0:Block) {r:Bool} (h:wN a0=some r):Ok Tryz.prog 60 [.agg [.int .i64 a0.Number,.int .i64 a0.Born,.int .i64 a0.Tier,.sl 6 (List.map ak a0.Episodes)]] [] [] (.bool r) [] []:=by
 refine oK Tryz.func60 rfl fun X=>sr fun _ k1=>rD (bY W_ rfl rfl)<|rP Y<|en k1<|sr fun _ k2=>rP (fa ca ae)<|rX (ld ae)<|rP (fa ca ae)<|rX (ld ae)<|rP (fa ca ae)<|rX (ld ae)<|rD (bs (List.map cH [a0.Number,a0.Born,a0.Tier]) da ae rfl)<|bE h fun x3 y3 h=>rD (cG [] [] [(9,0)] (nQ [a0.Number,a0.Born,a0.Tier] y3) nP)<|rP Y<|en k2<|ac<|by cases h;exact rk
def Az (a0:Block):Option Bool:=
 Option.bind (wN a0) (fun(x3:Bool)=>some (!x3))
theorem OL (a0:Block) {r:Bool} (h:Az a0=some r):Ok Tryz.prog 137 [.agg [.int .i64 a0.Number,.int .i64 a0.Born,.int .i64 a0.Tier,.sl 6 (List.map ak a0.Episodes)],.rptr [.fn 60 []]] [] [] (.bool r) [] []:=by
 refine oK Tryz.func137 rfl fun X=>sr fun _ k1=>rD (bY W_ rfl rfl)<|rP Y<|en k1<|sr fun _ k2=>rX (ld NV)<|pl 5 (.agg [.int .i64 a0.Number,.int .i64 a0.Born,.int .i64 a0.Tier,.sl 6 (List.map ak a0.Episodes)]) ca<|bE h fun x3 y3 h=>rD (cZ (OK a0 y3) N4)<|rP un<|rP Y<|en k2<|ac<|by cases h;exact rk
def qo (a0:List Block) (aS:Int):Option (Int⊕Int):=
 if(decide (aS<(List.length a0:Int)))=true then(gd (0≤aS) (Option.bind (a0[(Int.toNat aS)]?) (fun(x13:Block)=>Option.bind (Az x13) (fun(x14:Bool)=>if x14=true then(some (Sum.inr aS))else(some (Sum.inl (IntKind.i64.wrap (aS+1))))))))else(some (Sum.inr (-1)))
def wO (a0:List Block):Option Int:=
 am (fun(s:Int)=>qo a0 s) Fu 0
theorem OM (a0:List Block) {r:Int} (h:wO a0=some r):Ok Tryz.prog 164 [.sl 4 (List.map aR a0),.fn 137 [.rptr [.fn 60 []]]] [] [] (.int .i64 r) [] []:=by
 unfold wO at h
 refine oK Tryz.func164 rfl fun X=>sr fun _ k1=>rP Y<|en k1<|ai fun _ k2=>sr fun _ k3=>rP mv<|rP (zl bF)<|rP mv<|en k3<|ax<|bv (fun m s=>∃(aS:Int),am (fun(s:Int)=>qo a0 s) m aS=some r∧s=lit [(0,.sl 4 (List.map aR a0)),(1,.fn 137 [.rptr [.fn 60 []]]),(7,.int .i64 (List.length a0:Int)),(8,.int .i64 aS)] [] [] X) Fu
  ⟨_,ra [],0,h,rfl⟩ ?_
 rintro m s ⟨aS,h,rfl⟩
 obtain⟨m0,q4,rfl,h,hq5⟩:=bu h
 replace h:qo a0 aS=some q4:=h
 refine sr fun _ k6=>rP bi<|en k6<|ai fun _ k7=>wi 9 h (fun c8 h=>?_) fun c8 h=>?_
 ·refine aq<|k7 _<|ai fun _ k9=>ax<|sr fun _ k10=>rP mv<|rP Y<|en k10<|sr fun _ k11=>rP mv<|rP mv<|rP mv<|gE h fun g12 h=>bE h fun x13 y13 h=>rP (ia bF ca g12 y13)<|pl 15 (.agg [.int .i64 x13.Number,.int .i64 x13.Born,.int .i64 x13.Tier,.sl 6 (List.map ak x13.Episodes)]) ca<|bE h fun x14 y14 h=>rD (cZ (OL x13 y14) Of)<|en k11<|wi 16 h (fun c15 h=>?_) fun c15 h=>?_
  ·refine sr fun _ k16=>rP mv<|rP Y<|en k16<|ac<|by cases ah h hq5;exact rk
  ·refine aq<|k9 _<|aB<|rP bi<|rP mv<|aM<|bk (ra []) ⟨(IntKind.i64.wrap (aS+1)),aI h hq5,rfl⟩
 ·refine bc<|tk (ah h hq5) fun h=>k2 _<|sr fun _ k17=>rP Y<|en k17<|ac<|by cases h;exact rk
def AA (a0:List Block):Option Bool:=
 Option.bind (wO a0) (fun(x3:Int)=>some (decide ((0:Int)≤x3)))
theorem ON (a0:List Block) {r:Bool} (h:AA a0=some r):Ok Tryz.prog 136 [.sl 4 (List.map aR a0),.fn 137 [.rptr [.fn 60 []]]] [] [] (.bool r) [] []:=by
 refine oK Tryz.func136 rfl fun X=>sr fun _ k1=>rP Y<|en k1<|sr fun _ k2=>rP mv<|rP mv<|bE h fun x3 y3 h=>rD (cZ (OM a0 y3) Om)<|rP bi<|rP Y<|en k2<|ac<|by cases h;exact rk
def wP (a0:List Block):Option Bool:=
 Option.bind (AA a0) (fun(x3:Bool)=>some (!x3))
theorem OO (a0:List Block) {r:Bool} (h:wP a0=some r):Ok Tryz.prog 59 [.sl 4 (List.map aR a0),.fn 60 []] [] [] (.bool r) [] []:=by
 refine oK Tryz.func59 rfl fun X=>sr fun _ k1=>rD (bY W_ rfl rfl)<|rP Y<|en k1<|sr fun _ k2=>rP mv<|rP (ix (vs:=[.ptr 3 0 0]) rfl)<|bE h fun x3 y3 h=>rD (cG [] [] [(3,0)] (ON a0 y3) Oe)<|rP un<|rP Y<|en k2<|ac<|by cases h;exact rk
def mQ (a0:aC):Option Bool:=
 Option.bind (kT [a0.Now,a0.Sec,a0.Kept,a0.Next]) (fun(x3:Bool)=>if x3=true then(Option.bind (pN a0.Policy) (fun(x5:Bool)=>if x5=true then(Option.bind (tg a0.Open) (fun(x7:Bool)=>if x7=true then(Option.bind (tg a0.Pending) (fun(x9:Bool)=>if x9=true then(Option.bind (wI a0.Rows) (fun(x11:Bool)=>if x11=true then(Option.bind (wK a0.Edges) (fun(x13:Bool)=>if x13=true then(Option.bind (wM a0.Slots) (fun(x15:Bool)=>if x15=true then(Option.bind (wP a0.Blocks) (fun(x17:Bool)=>some x17))else(some false)))else(some false)))else(some false)))else(some false)))else(some false)))else(some false)))else(some false))
theorem wQ (a0:aC) {r:Bool} (h:mQ a0=some r):Ok Tryz.prog 15 [.agg [.int .i64 a0.Now,.int .i64 a0.Sec,.int .i64 a0.Kept,.int .i64 a0.Next,.int .i64 a0.Policy.Kind,.int .i64 a0.Policy.N,.str a0.Policy.Key,.str a0.Policy.Value,.sl 5 (List.map aj a0.Policy.Kids),.sl 6 (List.map ak a0.Open),.sl 6 (List.map ak a0.Pending),.sl 3 (List.map aQ a0.Memo),.sl 14 (List.map aP a0.Rows),.sl 4 (List.map aU a0.Edges),.sl 6 (List.map aV a0.Slots),.sl 4 (List.map aR a0.Blocks)]] [] [] (.bool r) [] []:=by
 refine oK Tryz.func15 rfl fun X=>sr fun _ k1=>rD (bY W_ rfl rfl)<|rP Y<|en k1<|sr fun _ k2=>rP (fa av ae)<|rX (ld ae)<|rP (fa av ae)<|rX (ld ae)<|rP (fa av ae)<|rX (ld ae)<|rP (fa av ae)<|rX (ld ae)<|rD ((bs (List.map cH [a0.Now,a0.Sec,a0.Kept,a0.Next]) da ae rfl).fx (y:=⟨_,.own 11 0,[((11,0),some (.arr 3 1 false (List.map cH [a0.Now,a0.Sec,a0.Kept,a0.Next])))],[11]⟩) rfl)<|bE h fun x3 y3 h=>rD ((cG [] [] [(11,0)] (nQ [a0.Now,a0.Sec,a0.Kept,a0.Next] y3) nP).fx (y:=⟨[(11,0)],.bool x3,[],[12]⟩) rfl)<|rP mv<|li 13 h (fun c4 h=>?_) fun c4 h=>?_
 ·refine rP (fa av ar)<|pl 15 (.agg [.int .i64 a0.Policy.Kind,.int .i64 a0.Policy.N,.str a0.Policy.Key,.str a0.Policy.Value,.sl 5 (List.map aj a0.Policy.Kids)]) ar<|bE h fun x5 y5 h=>rD (cz (.bool x5) (zE a0.Policy y5) zM)<|rP pc<|rP mv<|li 18 h (fun c6 h=>?_) fun c6 h=>?_
  ·refine rP (fa av bp)<|rX (ld bp)<|bE h fun x7 y7 h=>rD (cz (.bool x7) (Ge a0.Open y7) Gc)<|rP pc<|rP mv<|li 23 h (fun c8 h=>?_) fun c8 h=>?_
   ·refine rP (fa av bp)<|rX (ld bp)<|bE h fun x9 y9 h=>rD (cz (.bool x9) (Ge a0.Pending y9) Gc)<|rP pc<|rP mv<|li 28 h (fun c10 h=>?_) fun c10 h=>?_
    ·refine rP (fa av bU)<|rX (ld bU)<|bE h fun x11 y11 h=>rD (cz (.bool x11) (OB a0.Rows y11) NW)<|rP pc<|rP mv<|li 33 h (fun c12 h=>?_) fun c12 h=>?_
     ·refine rP (fa av bH)<|rX (ld bH)<|bE h fun x13 y13 h=>rD (cz (.bool x13) (OF a0.Edges y13) NY)<|rP pc<|rP mv<|li 38 h (fun c14 h=>?_) fun c14 h=>?_
      ·refine rP (fa av bO)<|rX (ld bO)<|bE h fun x15 y15 h=>rD (cz (.bool x15) (OJ a0.Slots y15) N0)<|rP pc<|rP mv<|li 43 h (fun c16 h=>?_) fun c16 h=>?_
       ·refine rP (fa av bF)<|rX (ld bF)<|bE h fun x17 y17 h=>rD (cz (.bool x17) (OO a0.Blocks y17) N3)<|rP pc<|rP Y<|en k2<|ac<|by cases h;exact rk
       ·refine rS<|rS<|rS<|rP pc<|rP Y<|en k2<|ac<|by cases h;exact rk
      ·refine rS<|rS<|rS<|rP pc<|rP mv<|rS<|rS<|rS<|rP pc<|rP Y<|en k2<|ac<|by cases h;exact rk
     ·refine rS<|rS<|rS<|rP pc<|rP mv<|rS<|rS<|rS<|rP pc<|rP mv<|rS<|rS<|rS<|rP pc<|rP Y<|en k2<|ac<|by cases h;exact rk
    ·refine rS<|rS<|rS<|rP pc<|rP mv<|rS<|rS<|rS<|rP pc<|rP mv<|rS<|rS<|rS<|rP pc<|rP mv<|rS<|rS<|rS<|rP pc<|rP Y<|en k2<|ac<|by cases h;exact rk
   ·refine rS<|rS<|rS<|rP pc<|rP mv<|rS<|rS<|rS<|rP pc<|rP mv<|rS<|rS<|rS<|rP pc<|rP mv<|rS<|rS<|rS<|rP pc<|rP mv<|rS<|rS<|rS<|rP pc<|rP Y<|en k2<|ac<|by cases h;exact rk
  ·refine rS<|rS<|rS<|rP pc<|rP mv<|rS<|rS<|rS<|rP pc<|rP mv<|rS<|rS<|rS<|rP pc<|rP mv<|rS<|rS<|rS<|rP pc<|rP mv<|rS<|rS<|rS<|rP pc<|rP mv<|rS<|rS<|rS<|rP pc<|rP Y<|en k2<|ac<|by cases h;exact rk
 ·refine rS<|rS<|rS<|rP pc<|rP mv<|rS<|rS<|rS<|rP pc<|rP mv<|rS<|rS<|rS<|rP pc<|rP mv<|rS<|rS<|rS<|rP pc<|rP mv<|rS<|rS<|rS<|rP pc<|rP mv<|rS<|rS<|rS<|rP pc<|rP mv<|rS<|rS<|rS<|rP pc<|rP Y<|en k2<|ac<|by cases h;exact rk
end Go.Proofs.YtjklegmimpehlaaGreat.Ab
namespace Go.Proofs.YtjklegmimpehlaaGreat.Ab
open Go Go.RowKit
set_option linter.unusedVariables false
set_option linter.unusedSimpArgs false
set_option maxRecDepth 100000
set_option maxHeartbeats 8000000
theorem ci:bm Tryz.prog 26=some ⟨.slice 80,1,24,[.nil]⟩:=by kernel_rfl
theorem dW:bm Tryz.prog 80=some ⟨.struct [(0,62),(2,4)],3,24,[.int .u64 0,.int .u64 0,.bool false]⟩:=by kernel_rfl
theorem wR:aF Tryz.prog 15:=eN Tryz.func15
theorem OP:aF Tryz.prog 27:=eN Tryz.func27
theorem Gf:aF Tryz.prog 28:=eN Tryz.func28
theorem OQ:aF Tryz.prog 31:=eN Tryz.func31
theorem OR:aF Tryz.prog 32:=eN Tryz.func32
theorem OS:aF Tryz.prog 33:=eN Tryz.func33
theorem OT:aF Tryz.prog 86:=eN Tryz.func86
def th (a1:List az) (cf:List UInt8) (bZ:Int):Option ((List UInt8×Int)⊕aE):=
 if(decide (bZ<(List.length a1:Int)))=true then(gd (0≤bZ) (Option.bind (a1[(Int.toNat bZ)]?) (fun(x12:az)=>Option.bind (mN (aE.mk cf) [x12.Trace.Hi,x12.Trace.Lo]) (fun(x14:aE)=>Option.bind (vU x14 x12) (fun(x15:aE)=>some (Sum.inl (x15.B,(IntKind.i64.wrap (bZ+1)))))))))else(some (Sum.inr (aE.mk cf)))
def tj (a0:aE) (a1:List az):Option aE:=
 Option.bind (em a0 [(List.length a1:Int)]) (fun(x2:aE)=>am (fun(s:List UInt8×Int)=>th a1 s.1 s.2) Fu (x2.B,0))
theorem Gg (a0:aE) (a1:List az) {r:aE} (h:tj a0 a1=some r):Ok Tryz.prog 28 [.ptr 0 0 0,.sl 6 (List.map ak a1)] [[.own 1 0]] [(5,1,List.map ag a0.B)] (.tup []) [[.own 2 0]] [(5,1,List.map ag r.B)]:=by
 refine oK Tryz.func28 rfl fun X=>sr fun _ k1=>rP mv<|rP mv<|rP (zl bp)<|rD (bs (List.map cH [(List.length a1:Int)]) da ae rfl)<|bE h fun x2 y2 h=>rD (db (d:=9) (n:=0) W_ (cG [(0,0)] [(1,0)] [(9,0)] (eX a0 [(List.length a1:Int)] y2) eW (.inl ⟨⟨_,_,_,rfl⟩,trivial⟩)))<|en k1<|sr fun _ k3=>rP mv<|rP (zl bp)<|rP mv<|en k3<|ax<|bv (fun m s=>∃(cf:List UInt8),∃(bZ:Int),am (fun(s:List UInt8×Int)=>th a1 s.1 s.2) m (cf,bZ)=some r∧s=lit [(0,.ptr 0 0 0),(11,.sl 6 (List.map ak a1)),(12,.int .i64 (List.length a1:Int)),(13,.int .i64 bZ)] [((0,0),.box [.own 10 0]),((10,0),.arr 5 1 false (List.map ag cf))] [(0,1),(10,1)] X) Fu
  ⟨_,ra [(0,0),(10,0)],x2.B,0,h,rfl⟩ ?_
 rintro m s ⟨cf,bZ,h,rfl⟩
 obtain⟨m0,q4,rfl,h,hq5⟩:=bu h
 replace h:th a1 cf bZ=some q4:=h
 refine sr fun _ k6=>rP bi<|en k6<|ai fun _ k7=>wi 14 h (fun c8 h=>?_) fun c8 h=>?_
 ·refine aq<|k7 _<|ai fun _ k9=>ax<|sr fun _ k10=>gE h fun g11 h=>bE h fun x12 y12 h=>rP (ia bp aZ g11 y12)<|pl 16 (.agg [.int .u64 x12.Trace.Hi,.int .u64 x12.Trace.Lo,.int .i64 x12.First,.int .i64 x12.Last,.bool x12.Sure,.sl 10 (List.map ch x12.Spans)]) aZ<|rD (nw aZ)<|pZ (aA [.int .u64 x12.Trace.Hi,.int .u64 x12.Trace.Lo,.int .i64 x12.First,.int .i64 x12.Last,.bool x12.Sure,.sl 10 (List.map ch x12.Spans)] aZ)<|en k10<|sr fun _ k13=>rP mv<|rP (fa aZ bX)<|rP (fa bX bd)<|rX (ld bd)<|rP (fa aZ bX)<|rP (fa bX bd)<|rX (ld bd)<|rD (bs (List.map lO [x12.Trace.Hi,x12.Trace.Lo]) n6 bd rfl)<|bE h fun x14 y14 h=>rD (db (d:=24) (n:=0) W_ (cG [(0,0)] [(10,0)] [(24,0)] (sS (aE.mk cf) [x12.Trace.Hi,x12.Trace.Lo] y14) sQ (.inl ⟨⟨_,_,_,rfl⟩,trivial⟩)))<|en k13<|aB<|rP mv<|pl 27 (.agg [.int .u64 x12.Trace.Hi,.int .u64 x12.Trace.Lo,.int .i64 x12.First,.int .i64 x12.Last,.bool x12.Sure,.sl 10 (List.map ch x12.Spans)]) aZ<|bE h fun x15 y15 h=>rD (cG [(0,0)] [(25,0)] [] (MJ x14 x12 y15) OT (.inl trivial))<|en k9<|aB<|rP bi<|rP mv<|aM<|bk (ra [(0,0),(28,0)]) ⟨x15.B,(IntKind.i64.wrap (bZ+1)),aI h hq5,rfl⟩
 ·refine bc<|by cases ah h hq5;exact rB [(10,0)]
def qp (a1:aC) (dj:List UInt8) (fh:Int):Option ((List UInt8×Int)⊕(List UInt8)):=
 if(decide (fh<(List.length a1.Rows:Int)))=true then(gd (0≤fh) (Option.bind (a1.Rows[(Int.toNat fh)]?) (fun(x15:bo)=>Option.bind (em (aE.mk dj) [x15.Level,x15.Window]) (fun(x17:aE)=>Option.bind (lQ x17 [x15.Service,x15.Op]) (fun(x19:aE)=>Option.bind (em x19 [x15.Counter.Count,x15.Counter.Errs]) (fun(x21:aE)=>Option.bind (em x21 [x15.Counter.By.c0,x15.Counter.By.c1,x15.Counter.By.c2,x15.Counter.By.c3,x15.Counter.By.c4,x15.Counter.By.c5,x15.Counter.By.c6,x15.Counter.By.c7]) (fun(x22:aE)=>some (Sum.inl (x22.B,(IntKind.i64.wrap (fh+1)))))))))))else(some (Sum.inr dj))
def qq (a1:aC) (dX:List UInt8) (lj:Int):Option ((List UInt8×Int)⊕aE):=
 if(decide (lj<(List.length a1.Edges:Int)))=true then(gd (0≤lj) (Option.bind (a1.Edges[(Int.toNat lj)]?) (fun(x34:Edge)=>Option.bind (lQ (aE.mk dX) [x34.From,x34.To]) (fun(x36:aE)=>Option.bind (em x36 [x34.Count,x34.Errs]) (fun(x37:aE)=>some (Sum.inl (x37.B,(IntKind.i64.wrap (lj+1)))))))))else(some (Sum.inr (aE.mk dX)))
def AB (a1:aC) (cf:List UInt8):Option aE:=
 Option.bind (em (aE.mk cf) [(List.length a1.Edges:Int)]) (fun(x24:aE)=>am (fun(s:List UInt8×Int)=>qq a1 s.1 s.2) Fu (x24.B,0))
def AC (a0:aE) (a1:aC):Option aE:=
 Option.bind (em a0 [(List.length a1.Rows:Int)]) (fun(x3:aE)=>Option.bind (am (fun(s:List UInt8×Int)=>qp a1 s.1 s.2) Fu (x3.B,0)) (fun(s:List UInt8)=>AB a1 s))
theorem OU (a0:aE) (a1:aC) {r:aE} (h:AC a0 a1=some r):Ok Tryz.prog 31 [.ptr 0 0 0,.agg [.int .i64 a1.Now,.int .i64 a1.Sec,.int .i64 a1.Kept,.int .i64 a1.Next,.int .i64 a1.Policy.Kind,.int .i64 a1.Policy.N,.str a1.Policy.Key,.str a1.Policy.Value,.sl 5 (List.map aj a1.Policy.Kids),.sl 6 (List.map ak a1.Open),.sl 6 (List.map ak a1.Pending),.sl 3 (List.map aQ a1.Memo),.sl 14 (List.map aP a1.Rows),.sl 4 (List.map aU a1.Edges),.sl 6 (List.map aV a1.Slots),.sl 4 (List.map aR a1.Blocks)]] [[.own 1 0]] [(5,1,List.map ag a0.B)] (.tup []) [[.own 2 0]] [(5,1,List.map ag r.B)]:=by
 refine oK Tryz.func31 rfl fun X=>sr fun _ k1=>rD (bY W_ rfl rfl)<|en k1<|sr fun _ k2=>rP mv<|rP (fa av bU)<|rX (ld bU)<|rP (zl bU)<|rD (bs (List.map cH [(List.length a1.Rows:Int)]) da ae rfl)<|bE h fun x3 y3 h=>rD (db (d:=12) (n:=0) W_ (cG [(0,0)] [(1,0)] [(12,0)] (eX a0 [(List.length a1.Rows:Int)] y3) eW (.inl ⟨⟨_,_,_,rfl⟩,trivial⟩)))<|en k2<|bE h fun q4 h hk5=>bx (fun s=>∃(cf:List UInt8),AB a1 cf=some r∧s=lit [(0,.ptr 0 0 0),(3,.ptr 3 0 0)] [((0,0),.box [.own 13 0]),((13,0),.arr 5 1 false (List.map ag cf)),((3,0),.box [.int .i64 a1.Now,.int .i64 a1.Sec,.int .i64 a1.Kept,.int .i64 a1.Next,.int .i64 a1.Policy.Kind,.int .i64 a1.Policy.N,.str a1.Policy.Key,.str a1.Policy.Value,.sl 5 (List.map aj a1.Policy.Kids),.sl 6 (List.map ak a1.Open),.sl 6 (List.map ak a1.Pending),.sl 3 (List.map aQ a1.Memo),.sl 14 (List.map aP a1.Rows),.sl 4 (List.map aU a1.Edges),.sl 6 (List.map aV a1.Slots),.sl 4 (List.map aR a1.Blocks)])] [(0,1),(3,1),(13,1)] X) ?_ ?_
 ·skip
  refine sr fun _ k6=>rP (fa av bU)<|rX (ld bU)<|rP (zl bU)<|rP mv<|en k6<|ax<|bv (fun m s=>∃(dj:List UInt8),∃(fh:Int),am (fun(s:List UInt8×Int)=>qp a1 s.1 s.2) m (dj,fh)=some q4∧s=lit [(0,.ptr 0 0 0),(3,.ptr 3 0 0),(15,.sl 14 (List.map aP a1.Rows)),(16,.int .i64 (List.length a1.Rows:Int)),(17,.int .i64 fh)] [((0,0),.box [.own 13 0]),((13,0),.arr 5 1 false (List.map ag dj)),((3,0),.box [.int .i64 a1.Now,.int .i64 a1.Sec,.int .i64 a1.Kept,.int .i64 a1.Next,.int .i64 a1.Policy.Kind,.int .i64 a1.Policy.N,.str a1.Policy.Key,.str a1.Policy.Value,.sl 5 (List.map aj a1.Policy.Kids),.sl 6 (List.map ak a1.Open),.sl 6 (List.map ak a1.Pending),.sl 3 (List.map aQ a1.Memo),.sl 14 (List.map aP a1.Rows),.sl 4 (List.map aU a1.Edges),.sl 6 (List.map aV a1.Slots),.sl 4 (List.map aR a1.Blocks)])] [(0,1),(3,1),(13,1)] X) Fu
   ⟨_,ra [(0,0),(13,0),(3,0)],x3.B,0,h,rfl⟩ ?_
  rintro m s ⟨dj,fh,h,rfl⟩
  obtain⟨m1,q7,rfl,h,hq8⟩:=bu h
  replace h:qp a1 dj fh=some q7:=h
  refine sr fun _ k9=>rP bi<|en k9<|ai fun _ k10=>wi 18 h (fun c11 h=>?_) fun c11 h=>?_
  ·refine aq<|k10 _<|ai fun _ k12=>ax<|sr fun _ k13=>gE h fun g14 h=>bE h fun x15 y15 h=>rP (ia bU bS g14 y15)<|pl 20 (.agg [.int .i64 x15.Level,.int .i64 x15.Window,.str x15.Service,.str x15.Op,.int .i64 x15.Counter.Count,.int .i64 x15.Counter.Errs,.int .i64 x15.Counter.By.c0,.int .i64 x15.Counter.By.c1,.int .i64 x15.Counter.By.c2,.int .i64 x15.Counter.By.c3,.int .i64 x15.Counter.By.c4,.int .i64 x15.Counter.By.c5,.int .i64 x15.Counter.By.c6,.int .i64 x15.Counter.By.c7]) bS<|rD (nw bS)<|pZ (aA [.int .i64 x15.Level,.int .i64 x15.Window,.str x15.Service,.str x15.Op,.int .i64 x15.Counter.Count,.int .i64 x15.Counter.Errs,.int .i64 x15.Counter.By.c0,.int .i64 x15.Counter.By.c1,.int .i64 x15.Counter.By.c2,.int .i64 x15.Counter.By.c3,.int .i64 x15.Counter.By.c4,.int .i64 x15.Counter.By.c5,.int .i64 x15.Counter.By.c6,.int .i64 x15.Counter.By.c7] bS)<|en k13<|sr fun _ k16=>rP mv<|rP (fa bS ae)<|rX (ld ae)<|rP (fa bS ae)<|rX (ld ae)<|rD (bs (List.map cH [x15.Level,x15.Window]) da ae rfl)<|bE h fun x17 y17 h=>rD (db (d:=26) (n:=0) W_ (cG [(0,0)] [(13,0)] [(26,0)] (eX (aE.mk dj) [x15.Level,x15.Window] y17) eW (.inl ⟨⟨_,_,_,rfl⟩,trivial⟩)))<|en k16<|sr fun _ k18=>rP mv<|rP (fa bS ap)<|rX (ld ap)<|rP (fa bS ap)<|rX (ld ap)<|rD (bs (List.map mL [x15.Service,x15.Op]) mM ap rfl)<|bE h fun x19 y19 h=>rD (db (d:=33) (n:=0) W_ (cG [(0,0)] [(27,0)] [(33,0)] (qa x17 [x15.Service,x15.Op] y19) qh (.inl ⟨⟨_,_,_,rfl⟩,trivial⟩)))<|en k18<|sr fun _ k20=>rP mv<|rP (fa bS dp)<|rP (fa dp ae)<|rX (ld ae)<|rP (fa bS dp)<|rP (fa dp ae)<|rX (ld ae)<|rD (bs (List.map cH [x15.Counter.Count,x15.Counter.Errs]) da ae rfl)<|bE h fun x21 y21 h=>rD (db (d:=42) (n:=0) W_ (cG [(0,0)] [(34,0)] [(42,0)] (eX x19 [x15.Counter.Count,x15.Counter.Errs] y21) eW (.inl ⟨⟨_,_,_,rfl⟩,trivial⟩)))<|en k20<|aB<|rP mv<|rP (fa bS dp)<|rP (fa dp jq)<|rD (CV (off:=6) (v:=List.map cH [x15.Counter.By.c0,x15.Counter.By.c1,x15.Counter.By.c2,x15.Counter.By.c3,x15.Counter.By.c4,x15.Counter.By.c5,x15.Counter.By.c6,x15.Counter.By.c7]) W_ R_ jq ae rfl rfl rfl)<|bE h fun x22 y22 h=>rD (cG [(0,0)] [(43,0)] [] (eX x21 [x15.Counter.By.c0,x15.Counter.By.c1,x15.Counter.By.c2,x15.Counter.By.c3,x15.Counter.By.c4,x15.Counter.By.c5,x15.Counter.By.c6,x15.Counter.By.c7] y22) eW (.inl trivial))<|en k12<|aB<|rP bi<|rP mv<|aM<|bk (ra [(0,0),(48,0),(3,0)]) ⟨x22.B,(IntKind.i64.wrap (fh+1)),aI h hq8,rfl⟩
  ·refine bc<|tk (ah h hq8) fun h=>?_
   obtain rfl:=Option.some.inj h
   have h:=hk5
   exact⟨_,ra [(0,0),(13,0),(3,0)],dj,h,rfl⟩
 ·rintro s ⟨cf,h,rfl⟩
  refine sr fun _ k23=>rP mv<|rP (fa av bH)<|rX (ld bH)<|rP (zl bH)<|rD (bs (List.map cH [(List.length a1.Edges:Int)]) da ae rfl)<|bE h fun x24 y24 h=>rD (db (d:=54) (n:=0) W_ (cG [(0,0)] [(13,0)] [(54,0)] (eX (aE.mk cf) [(List.length a1.Edges:Int)] y24) eW (.inl ⟨⟨_,_,_,rfl⟩,trivial⟩)))<|en k23<|sr fun _ k25=>rP (fa av bH)<|rX (ld bH)<|rP (zl bH)<|rP mv<|en k25<|ax<|bv (fun m s=>∃(dX:List UInt8),∃(lj:Int),am (fun(s:List UInt8×Int)=>qq a1 s.1 s.2) m (dX,lj)=some r∧s=lit [(0,.ptr 0 0 0),(57,.sl 4 (List.map aU a1.Edges)),(58,.int .i64 (List.length a1.Edges:Int)),(59,.int .i64 lj)] [((0,0),.box [.own 55 0]),((55,0),.arr 5 1 false (List.map ag dX))] [(0,1),(55,1)] X) Fu
   ⟨_,ra [(0,0),(55,0)],x24.B,0,h,rfl⟩ ?_
  rintro m s ⟨dX,lj,h,rfl⟩
  obtain⟨m2,q26,rfl,h,hq27⟩:=bu h
  replace h:qq a1 dX lj=some q26:=h
  refine sr fun _ k28=>rP bi<|en k28<|ai fun _ k29=>wi 60 h (fun c30 h=>?_) fun c30 h=>?_
  ·refine aq<|k29 _<|ai fun _ k31=>ax<|sr fun _ k32=>gE h fun g33 h=>bE h fun x34 y34 h=>rP (ia bH cm g33 y34)<|pl 62 (.agg [.str x34.From,.str x34.To,.int .i64 x34.Count,.int .i64 x34.Errs]) cm<|rD (nw cm)<|pZ (aA [.str x34.From,.str x34.To,.int .i64 x34.Count,.int .i64 x34.Errs] cm)<|en k32<|sr fun _ k35=>rP mv<|rP (fa cm ap)<|rX (ld ap)<|rP (fa cm ap)<|rX (ld ap)<|rD (bs (List.map mL [x34.From,x34.To]) mM ap rfl)<|bE h fun x36 y36 h=>rD (db (d:=68) (n:=0) W_ (cG [(0,0)] [(55,0)] [(68,0)] (qa (aE.mk dX) [x34.From,x34.To] y36) qh (.inl ⟨⟨_,_,_,rfl⟩,trivial⟩)))<|en k35<|aB<|rP mv<|rP (fa cm ae)<|rX (ld ae)<|rP (fa cm ae)<|rX (ld ae)<|rD (bs (List.map cH [x34.Count,x34.Errs]) da ae rfl)<|bE h fun x37 y37 h=>rD (db (d:=75) (n:=0) W_ (cG [(0,0)] [(69,0)] [(75,0)] (eX x36 [x34.Count,x34.Errs] y37) eW (.inl ⟨⟨_,_,_,rfl⟩,trivial⟩)))<|en k31<|aB<|rP bi<|rP mv<|aM<|bk (ra [(0,0),(76,0)]) ⟨x37.B,(IntKind.i64.wrap (lj+1)),aI h hq27,rfl⟩
  ·refine bc<|by cases ah h hq27;exact rB [(55,0)]
def qr (a1:aC) (dj:List UInt8) (fh:Int):Option ((List UInt8×Int)⊕(List UInt8)):=
 if(decide (fh<(List.length a1.Slots:Int)))=true then(gd (0≤fh) (Option.bind (a1.Slots[(Int.toNat fh)]?) (fun(x15:bz)=>Option.bind (lQ (aE.mk dj) [x15.Service,x15.Op]) (fun(x17:aE)=>Option.bind (mN x17 [x15.Trace.Hi,x15.Trace.Lo,x15.Id]) (fun(x19:aE)=>Option.bind (em x19 [x15.Block]) (fun(x20:aE)=>some (Sum.inl (x20.B,(IntKind.i64.wrap (fh+1))))))))))else(some (Sum.inr dj))
def qt (a1:aC) (dX:List UInt8) (lk:Int):Option ((List UInt8×Int)⊕aE):=
 if(decide (lk<(List.length a1.Blocks:Int)))=true then(gd (0≤lk) (Option.bind (a1.Blocks[(Int.toNat lk)]?) (fun(x32:Block)=>Option.bind (em (aE.mk dX) [x32.Number,x32.Born,x32.Tier]) (fun(x33:aE)=>some (Sum.inl (x33.B,(IntKind.i64.wrap (lk+1))))))))else(some (Sum.inr (aE.mk dX)))
def AD (a1:aC) (cf:List UInt8):Option aE:=
 Option.bind (em (aE.mk cf) [(List.length a1.Blocks:Int)]) (fun(x22:aE)=>am (fun(s:List UInt8×Int)=>qt a1 s.1 s.2) Fu (x22.B,0))
def AE (a0:aE) (a1:aC):Option aE:=
 Option.bind (em a0 [(List.length a1.Slots:Int)]) (fun(x3:aE)=>Option.bind (am (fun(s:List UInt8×Int)=>qr a1 s.1 s.2) Fu (x3.B,0)) (fun(s:List UInt8)=>AD a1 s))
theorem OV (a0:aE) (a1:aC) {r:aE} (h:AE a0 a1=some r):Ok Tryz.prog 32 [.ptr 0 0 0,.agg [.int .i64 a1.Now,.int .i64 a1.Sec,.int .i64 a1.Kept,.int .i64 a1.Next,.int .i64 a1.Policy.Kind,.int .i64 a1.Policy.N,.str a1.Policy.Key,.str a1.Policy.Value,.sl 5 (List.map aj a1.Policy.Kids),.sl 6 (List.map ak a1.Open),.sl 6 (List.map ak a1.Pending),.sl 3 (List.map aQ a1.Memo),.sl 14 (List.map aP a1.Rows),.sl 4 (List.map aU a1.Edges),.sl 6 (List.map aV a1.Slots),.sl 4 (List.map aR a1.Blocks)]] [[.own 1 0]] [(5,1,List.map ag a0.B)] (.tup []) [[.own 2 0]] [(5,1,List.map ag r.B)]:=by
 refine oK Tryz.func32 rfl fun X=>sr fun _ k1=>rD (bY W_ rfl rfl)<|en k1<|sr fun _ k2=>rP mv<|rP (fa av bO)<|rX (ld bO)<|rP (zl bO)<|rD (bs (List.map cH [(List.length a1.Slots:Int)]) da ae rfl)<|bE h fun x3 y3 h=>rD (db (d:=12) (n:=0) W_ (cG [(0,0)] [(1,0)] [(12,0)] (eX a0 [(List.length a1.Slots:Int)] y3) eW (.inl ⟨⟨_,_,_,rfl⟩,trivial⟩)))<|en k2<|bE h fun q4 h hk5=>bx (fun s=>∃(cf:List UInt8),AD a1 cf=some r∧s=lit [(0,.ptr 0 0 0),(3,.ptr 3 0 0)] [((0,0),.box [.own 13 0]),((13,0),.arr 5 1 false (List.map ag cf)),((3,0),.box [.int .i64 a1.Now,.int .i64 a1.Sec,.int .i64 a1.Kept,.int .i64 a1.Next,.int .i64 a1.Policy.Kind,.int .i64 a1.Policy.N,.str a1.Policy.Key,.str a1.Policy.Value,.sl 5 (List.map aj a1.Policy.Kids),.sl 6 (List.map ak a1.Open),.sl 6 (List.map ak a1.Pending),.sl 3 (List.map aQ a1.Memo),.sl 14 (List.map aP a1.Rows),.sl 4 (List.map aU a1.Edges),.sl 6 (List.map aV a1.Slots),.sl 4 (List.map aR a1.Blocks)])] [(0,1),(3,1),(13,1)] X) ?_ ?_
 ·skip
  refine sr fun _ k6=>rP (fa av bO)<|rX (ld bO)<|rP (zl bO)<|rP mv<|en k6<|ax<|bv (fun m s=>∃(dj:List UInt8),∃(fh:Int),am (fun(s:List UInt8×Int)=>qr a1 s.1 s.2) m (dj,fh)=some q4∧s=lit [(0,.ptr 0 0 0),(3,.ptr 3 0 0),(15,.sl 6 (List.map aV a1.Slots)),(16,.int .i64 (List.length a1.Slots:Int)),(17,.int .i64 fh)] [((0,0),.box [.own 13 0]),((13,0),.arr 5 1 false (List.map ag dj)),((3,0),.box [.int .i64 a1.Now,.int .i64 a1.Sec,.int .i64 a1.Kept,.int .i64 a1.Next,.int .i64 a1.Policy.Kind,.int .i64 a1.Policy.N,.str a1.Policy.Key,.str a1.Policy.Value,.sl 5 (List.map aj a1.Policy.Kids),.sl 6 (List.map ak a1.Open),.sl 6 (List.map ak a1.Pending),.sl 3 (List.map aQ a1.Memo),.sl 14 (List.map aP a1.Rows),.sl 4 (List.map aU a1.Edges),.sl 6 (List.map aV a1.Slots),.sl 4 (List.map aR a1.Blocks)])] [(0,1),(3,1),(13,1)] X) Fu
   ⟨_,ra [(0,0),(13,0),(3,0)],x3.B,0,h,rfl⟩ ?_
  rintro m s ⟨dj,fh,h,rfl⟩
  obtain⟨m1,q7,rfl,h,hq8⟩:=bu h
  replace h:qr a1 dj fh=some q7:=h
  refine sr fun _ k9=>rP bi<|en k9<|ai fun _ k10=>wi 18 h (fun c11 h=>?_) fun c11 h=>?_
  ·refine aq<|k10 _<|ai fun _ k12=>ax<|sr fun _ k13=>gE h fun g14 h=>bE h fun x15 y15 h=>rP (ia bO cj g14 y15)<|pl 20 (.agg [.str x15.Service,.str x15.Op,.int .u64 x15.Trace.Hi,.int .u64 x15.Trace.Lo,.int .u64 x15.Id,.int .i64 x15.Block]) cj<|rD (nw cj)<|pZ (aA [.str x15.Service,.str x15.Op,.int .u64 x15.Trace.Hi,.int .u64 x15.Trace.Lo,.int .u64 x15.Id,.int .i64 x15.Block] cj)<|en k13<|sr fun _ k16=>rP mv<|rP (fa cj ap)<|rX (ld ap)<|rP (fa cj ap)<|rX (ld ap)<|rD (bs (List.map mL [x15.Service,x15.Op]) mM ap rfl)<|bE h fun x17 y17 h=>rD (db (d:=26) (n:=0) W_ (cG [(0,0)] [(13,0)] [(26,0)] (qa (aE.mk dj) [x15.Service,x15.Op] y17) qh (.inl ⟨⟨_,_,_,rfl⟩,trivial⟩)))<|en k16<|sr fun _ k18=>rP mv<|rP (fa cj bX)<|rP (fa bX bd)<|rX (ld bd)<|rP (fa cj bX)<|rP (fa bX bd)<|rX (ld bd)<|rP (fa cj bd)<|rX (ld bd)<|rD (bs (List.map lO [x15.Trace.Hi,x15.Trace.Lo,x15.Id]) n6 bd rfl)<|bE h fun x19 y19 h=>rD (db (d:=37) (n:=0) W_ (cG [(0,0)] [(27,0)] [(37,0)] (sS x17 [x15.Trace.Hi,x15.Trace.Lo,x15.Id] y19) sQ (.inl ⟨⟨_,_,_,rfl⟩,trivial⟩)))<|en k18<|aB<|rP mv<|rP (fa cj ae)<|rX (ld ae)<|rD (bs (List.map cH [x15.Block]) da ae rfl)<|bE h fun x20 y20 h=>rD (db (d:=42) (n:=0) W_ (cG [(0,0)] [(38,0)] [(42,0)] (eX x19 [x15.Block] y20) eW (.inl ⟨⟨_,_,_,rfl⟩,trivial⟩)))<|en k12<|aB<|rP bi<|rP mv<|aM<|bk (ra [(0,0),(43,0),(3,0)]) ⟨x20.B,(IntKind.i64.wrap (fh+1)),aI h hq8,rfl⟩
  ·refine bc<|tk (ah h hq8) fun h=>?_
   obtain rfl:=Option.some.inj h
   have h:=hk5
   exact⟨_,ra [(0,0),(13,0),(3,0)],dj,h,rfl⟩
 ·rintro s ⟨cf,h,rfl⟩
  refine sr fun _ k21=>rP mv<|rP (fa av bF)<|rX (ld bF)<|rP (zl bF)<|rD (bs (List.map cH [(List.length a1.Blocks:Int)]) da ae rfl)<|bE h fun x22 y22 h=>rD (db (d:=49) (n:=0) W_ (cG [(0,0)] [(13,0)] [(49,0)] (eX (aE.mk cf) [(List.length a1.Blocks:Int)] y22) eW (.inl ⟨⟨_,_,_,rfl⟩,trivial⟩)))<|en k21<|sr fun _ k23=>rP (fa av bF)<|rX (ld bF)<|rP (zl bF)<|rP mv<|en k23<|ax<|bv (fun m s=>∃(dX:List UInt8),∃(lk:Int),am (fun(s:List UInt8×Int)=>qt a1 s.1 s.2) m (dX,lk)=some r∧s=lit [(0,.ptr 0 0 0),(52,.sl 4 (List.map aR a1.Blocks)),(53,.int .i64 (List.length a1.Blocks:Int)),(54,.int .i64 lk)] [((0,0),.box [.own 50 0]),((50,0),.arr 5 1 false (List.map ag dX))] [(0,1),(50,1)] X) Fu
   ⟨_,ra [(0,0),(50,0)],x22.B,0,h,rfl⟩ ?_
  rintro m s ⟨dX,lk,h,rfl⟩
  obtain⟨m2,q24,rfl,h,hq25⟩:=bu h
  replace h:qt a1 dX lk=some q24:=h
  refine sr fun _ k26=>rP bi<|en k26<|ai fun _ k27=>wi 55 h (fun c28 h=>?_) fun c28 h=>?_
  ·refine aq<|k27 _<|ai fun _ k29=>ax<|sr fun _ k30=>gE h fun g31 h=>bE h fun x32 y32 h=>rP (ia bF ca g31 y32)<|pl 57 (.agg [.int .i64 x32.Number,.int .i64 x32.Born,.int .i64 x32.Tier,.sl 6 (List.map ak x32.Episodes)]) ca<|rD (nw ca)<|pZ (aA [.int .i64 x32.Number,.int .i64 x32.Born,.int .i64 x32.Tier,.sl 6 (List.map ak x32.Episodes)] ca)<|en k30<|aB<|rP mv<|rP (fa ca ae)<|rX (ld ae)<|rP (fa ca ae)<|rX (ld ae)<|rP (fa ca ae)<|rX (ld ae)<|rD (bs (List.map cH [x32.Number,x32.Born,x32.Tier]) da ae rfl)<|bE h fun x33 y33 h=>rD (db (d:=65) (n:=0) W_ (cG [(0,0)] [(50,0)] [(65,0)] (eX (aE.mk dX) [x32.Number,x32.Born,x32.Tier] y33) eW (.inl ⟨⟨_,_,_,rfl⟩,trivial⟩)))<|en k29<|aB<|rP bi<|rP mv<|aM<|bk (ra [(0,0),(66,0)]) ⟨x33.B,(IntKind.i64.wrap (lk+1)),aI h hq25,rfl⟩
  ·refine bc<|by cases ah h hq25;exact rB [(50,0)]
def qu (a0:aC) (lT:List UInt8) (ll:Int):Option ((List UInt8×Int)⊕(List UInt8)):=
 if(decide (ll<(List.length a0.Memo:Int)))=true then(gd (0≤ll) (Option.bind (a0.Memo[(Int.toNat ll)]?) (fun(x33:bT)=>Option.bind (mN (aE.mk lT) [x33.Trace.Hi,x33.Trace.Lo]) (fun(x35:aE)=>Option.bind (qb x35 x33.Kept) (fun(x36:aE)=>some (Sum.inl (x36.B,(IntKind.i64.wrap (ll+1)))))))))else(some (Sum.inr lT))
def AF (a0:aC) (qM:List UInt8):Option (List UInt8):=
 Option.bind (AC (aE.mk qM) a0) (fun(x38:aE)=>Option.bind (AE x38 a0) (fun(x40:aE)=>Option.bind (vO x40.B) (fun(x42:List UInt8)=>some x42)))
def tn (a0:aC):Option (List UInt8):=
 Option.bind (mQ a0) (fun(x4:Bool)=>if(!x4)=true then(some [])else(Option.bind (em (aE.mk []) [a0.Now,a0.Sec,a0.Kept,a0.Next]) (fun(x9:aE)=>Option.bind (wd a0.Policy) (fun(x11:List UInt8)=>Option.bind (em x9 [(List.length x11:Int)]) (fun(x13:aE)=>gd ((List.length (x13.B++x11))*1≤140737488355328∧(List.length (x13.B++x11))≤140737488355328) (Option.bind (tj (aE.mk (x13.B++x11)) a0.Open) (fun(x17:aE)=>Option.bind (tj x17 a0.Pending) (fun(x19:aE)=>Option.bind (em x19 [(List.length a0.Memo:Int)]) (fun(x21:aE)=>Option.bind (am (fun(s:List UInt8×Int)=>qu a0 s.1 s.2) Fu (x21.B,0)) (fun(s:List UInt8)=>AF a0 s))))))))))
theorem Gh (a0:aC) {r:List UInt8} (h:tn a0=some r):Ok Tryz.prog 9 [.agg [.int .i64 a0.Now,.int .i64 a0.Sec,.int .i64 a0.Kept,.int .i64 a0.Next,.int .i64 a0.Policy.Kind,.int .i64 a0.Policy.N,.str a0.Policy.Key,.str a0.Policy.Value,.sl 5 (List.map aj a0.Policy.Kids),.sl 6 (List.map ak a0.Open),.sl 6 (List.map ak a0.Pending),.sl 3 (List.map aQ a0.Memo),.sl 14 (List.map aP a0.Rows),.sl 4 (List.map aU a0.Edges),.sl 6 (List.map aV a0.Slots),.sl 4 (List.map aR a0.Blocks)]] [] [] (.own 2 0) [] [(5,1,List.map ag r)]:=by
 refine oK Tryz.func9 rfl fun X=>sr fun _ k1=>rD (bY W_ rfl rfl)<|rP Y<|en k1<|ai fun _ k2=>sr fun _ k3=>pl 7 (.agg [.int .i64 a0.Now,.int .i64 a0.Sec,.int .i64 a0.Kept,.int .i64 a0.Next,.int .i64 a0.Policy.Kind,.int .i64 a0.Policy.N,.str a0.Policy.Key,.str a0.Policy.Value,.sl 5 (List.map aj a0.Policy.Kids),.sl 6 (List.map ak a0.Open),.sl 6 (List.map ak a0.Pending),.sl 3 (List.map aQ a0.Memo),.sl 14 (List.map aP a0.Rows),.sl 4 (List.map aU a0.Edges),.sl 6 (List.map aV a0.Slots),.sl 4 (List.map aR a0.Blocks)]) av<|bE h fun x4 y4 h=>rD (cZ (wQ a0 y4) wR)<|rP un<|en k3<|wi 9 h (fun c5 h=>?_) fun c5 h=>?_
 ·refine sr fun _ k6=>rP Y<|en k6<|eZ 2 5 1 W_ D_ D_<|ac<|by cases h;exact rB [(2,0)]
 ·refine aq<|k2 _<|sr fun _ k7=>rP (cP (cs:=[.nil]) il rfl [⟨.slice 5,1,24,[.nil]⟩] (by simp only[List.map,aH]) (by rfl) R_)<|rD (bY W_ rfl rfl)<|rP Y<|en k7<|ai fun _ k8=>iY 11 0 0 11 5 1 (cs:=[.nil]) R_ rfl D_<|aB<|rP mv<|rP (fa av ae)<|rX (ld ae)<|rP (fa av ae)<|rX (ld ae)<|rP (fa av ae)<|rX (ld ae)<|rP (fa av ae)<|rX (ld ae)<|rD (bs (List.map cH [a0.Now,a0.Sec,a0.Kept,a0.Next]) da ae rfl)<|bE h fun x9 y9 h=>rD (db (d:=21) (n:=0) W_ (cG [(11,0)] [(11,1)] [(21,0)] (eX (aE.mk []) [a0.Now,a0.Sec,a0.Kept,a0.Next] y9) eW (.inl ⟨⟨_,_,_,rfl⟩,trivial⟩)))<|en k8<|sr fun _ k10=>rP (fa av ar)<|pl 24 (.agg [.int .i64 a0.Policy.Kind,.int .i64 a0.Policy.N,.str a0.Policy.Key,.str a0.Policy.Value,.sl 5 (List.map aj a0.Policy.Kids)]) ar<|bE h fun x11 y11 h=>rD (cZ (M4 a0.Policy y11) OP)<|rP Y<|en k10<|sr fun _ k12=>rP mv<|rP mv<|rX ((xZ W_ W_ aH).cast (v':=.int .i64 (List.length x11:Int)) (by exact um _))<|rD (bs (List.map cH [(List.length x11:Int)]) da ae rfl)<|bE h fun x13 y13 h=>rD (db (d:=29) (n:=0) W_ (cG [(11,0)] [(22,0)] [(29,0)] (eX x9 [(List.length x11:Int)] y13) eW (.inl ⟨⟨_,_,_,rfl⟩,trivial⟩)))<|en k12<|sr fun _ k14=>rP mv<|rP mv<|rP nk<|rP (fa il aH)<|rX (ld aH)<|rP mv<|gE h fun g15 h=>rD (dw (v:=List.map ag (x13.B++x11)) W_ W_ aH bG rfl rfl W_ (by first | exact .inl rfl | exact .inr ⟨rfl,rfl⟩) W_ (by first | exact .inr rfl | exact .inl rfl) (dL _ _) (dv g15))<|rP nk<|rP (fa il aH)<|pZ (aA [.own 37 0] aH)<|en k14<|sr fun _ k16=>rP mv<|rP (fa av bp)<|rX (ld bp)<|bE h fun x17 y17 h=>rD (cG [(11,0)] [(37,0)] [] (Gg (aE.mk (x13.B++x11)) a0.Open y17) Gf (.inl trivial))<|en k16<|sr fun _ k18=>rP mv<|rP (fa av bp)<|rX (ld bp)<|bE h fun x19 y19 h=>rD (cG [(11,0)] [(43,0)] [] (Gg x17 a0.Pending y19) Gf (.inl trivial))<|en k18<|sr fun _ k20=>rP mv<|rP (fa av ci)<|rX (ld ci)<|rP (zl ci)<|rD (bs (List.map cH [(List.length a0.Memo:Int)]) da ae rfl)<|bE h fun x21 y21 h=>rD (db (d:=52) (n:=0) W_ (cG [(11,0)] [(47,0)] [(52,0)] (eX x19 [(List.length a0.Memo:Int)] y21) eW (.inl ⟨⟨_,_,_,rfl⟩,trivial⟩)))<|en k20<|bE h fun q22 h hk23=>bx (fun s=>∃(qM:List UInt8),AF a0 qM=some r∧s=lit [(1,.ptr 1 0 0),(3,.ptr 11 0 0)] [((1,0),.box [.int .i64 a0.Now,.int .i64 a0.Sec,.int .i64 a0.Kept,.int .i64 a0.Next,.int .i64 a0.Policy.Kind,.int .i64 a0.Policy.N,.str a0.Policy.Key,.str a0.Policy.Value,.sl 5 (List.map aj a0.Policy.Kids),.sl 6 (List.map ak a0.Open),.sl 6 (List.map ak a0.Pending),.sl 3 (List.map aQ a0.Memo),.sl 14 (List.map aP a0.Rows),.sl 4 (List.map aU a0.Edges),.sl 6 (List.map aV a0.Slots),.sl 4 (List.map aR a0.Blocks)]),((11,0),.box [.own 53 0]),((53,0),.arr 5 1 false (List.map ag qM))] [(1,1),(11,1),(53,1)] X) ?_ ?_
  ·skip
   refine sr fun _ k24=>rP (fa av ci)<|rX (ld ci)<|rP (zl ci)<|rP mv<|en k24<|ax<|bv (fun m s=>∃(lT:List UInt8),∃(ll:Int),am (fun(s:List UInt8×Int)=>qu a0 s.1 s.2) m (lT,ll)=some q22∧s=lit [(1,.ptr 1 0 0),(3,.ptr 11 0 0),(55,.sl 3 (List.map aQ a0.Memo)),(56,.int .i64 (List.length a0.Memo:Int)),(57,.int .i64 ll)] [((1,0),.box [.int .i64 a0.Now,.int .i64 a0.Sec,.int .i64 a0.Kept,.int .i64 a0.Next,.int .i64 a0.Policy.Kind,.int .i64 a0.Policy.N,.str a0.Policy.Key,.str a0.Policy.Value,.sl 5 (List.map aj a0.Policy.Kids),.sl 6 (List.map ak a0.Open),.sl 6 (List.map ak a0.Pending),.sl 3 (List.map aQ a0.Memo),.sl 14 (List.map aP a0.Rows),.sl 4 (List.map aU a0.Edges),.sl 6 (List.map aV a0.Slots),.sl 4 (List.map aR a0.Blocks)]),((11,0),.box [.own 53 0]),((53,0),.arr 5 1 false (List.map ag lT))] [(1,1),(11,1),(53,1)] X) Fu
    ⟨_,ra [(1,0),(11,0),(53,0)],x21.B,0,h,rfl⟩ ?_
   rintro m s ⟨lT,ll,h,rfl⟩
   obtain⟨m1,q25,rfl,h,hq26⟩:=bu h
   replace h:qu a0 lT ll=some q25:=h
   refine sr fun _ k27=>rP bi<|en k27<|ai fun _ k28=>wi 58 h (fun c29 h=>?_) fun c29 h=>?_
   ·refine aq<|k28 _<|ai fun _ k30=>ax<|sr fun _ k31=>gE h fun g32 h=>bE h fun x33 y33 h=>rP (ia ci dW g32 y33)<|pl 60 (.agg [.int .u64 x33.Trace.Hi,.int .u64 x33.Trace.Lo,.bool x33.Kept]) dW<|rD (nw dW)<|pZ (aA [.int .u64 x33.Trace.Hi,.int .u64 x33.Trace.Lo,.bool x33.Kept] dW)<|en k31<|sr fun _ k34=>rP mv<|rP (fa dW bX)<|rP (fa bX bd)<|rX (ld bd)<|rP (fa dW bX)<|rP (fa bX bd)<|rX (ld bd)<|rD (bs (List.map lO [x33.Trace.Hi,x33.Trace.Lo]) n6 bd rfl)<|bE h fun x35 y35 h=>rD (db (d:=68) (n:=0) W_ (cG [(11,0)] [(53,0)] [(68,0)] (sS (aE.mk lT) [x33.Trace.Hi,x33.Trace.Lo] y35) sQ (.inl ⟨⟨_,_,_,rfl⟩,trivial⟩)))<|en k34<|aB<|rP mv<|rP (fa dW aN)<|rX (ld aN)<|bE h fun x36 y36 h=>rD (cG [(11,0)] [(69,0)] [] (Aa x35 x33.Kept y36) Ak (.inl trivial))<|en k30<|aB<|rP bi<|rP mv<|aM<|bk (ra [(1,0),(11,0),(73,0)]) ⟨x36.B,(IntKind.i64.wrap (ll+1)),aI h hq26,rfl⟩
   ·refine bc<|tk (ah h hq26) fun h=>?_
    obtain rfl:=Option.some.inj h
    have h:=hk23
    exact⟨_,ra [(1,0),(11,0),(53,0)],lT,h,rfl⟩
  ·rintro s ⟨qM,h,rfl⟩
   refine sr fun _ k37=>rP mv<|pl 76 (.agg [.int .i64 a0.Now,.int .i64 a0.Sec,.int .i64 a0.Kept,.int .i64 a0.Next,.int .i64 a0.Policy.Kind,.int .i64 a0.Policy.N,.str a0.Policy.Key,.str a0.Policy.Value,.sl 5 (List.map aj a0.Policy.Kids),.sl 6 (List.map ak a0.Open),.sl 6 (List.map ak a0.Pending),.sl 3 (List.map aQ a0.Memo),.sl 14 (List.map aP a0.Rows),.sl 4 (List.map aU a0.Edges),.sl 6 (List.map aV a0.Slots),.sl 4 (List.map aR a0.Blocks)]) av<|bE h fun x38 y38 h=>rD (cG [(11,0)] [(53,0)] [] (OU (aE.mk qM) a0 y38) OQ (.inl trivial))<|en k37<|sr fun _ k39=>rP mv<|pl 79 (.agg [.int .i64 a0.Now,.int .i64 a0.Sec,.int .i64 a0.Kept,.int .i64 a0.Next,.int .i64 a0.Policy.Kind,.int .i64 a0.Policy.N,.str a0.Policy.Key,.str a0.Policy.Value,.sl 5 (List.map aj a0.Policy.Kids),.sl 6 (List.map ak a0.Open),.sl 6 (List.map ak a0.Pending),.sl 3 (List.map aQ a0.Memo),.sl 14 (List.map aP a0.Rows),.sl 4 (List.map aU a0.Edges),.sl 6 (List.map aV a0.Slots),.sl 4 (List.map aR a0.Blocks)]) av<|bE h fun x40 y40 h=>rD (cG [(11,0)] [(77,0)] [] (OV x38 a0 y40) OR (.inl trivial))<|en k39<|sr fun _ k41=>rP mv<|rP nk<|rP (fa il aH)<|rX (ld aH)<|bE h fun x42 y42 h=>rD (cG [] [] [(80,0)] (Mt x40.B y42) OS (.inr ⟨rfl,rfl,⟨cr (fun _=>rfl),trivial⟩⟩))<|rP Y<|en k41<|ac<|by cases h;exact rB [(85,0)]
end Go.Proofs.YtjklegmimpehlaaGreat.Ab
