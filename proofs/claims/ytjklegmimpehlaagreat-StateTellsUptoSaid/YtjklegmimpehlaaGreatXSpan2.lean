/- Spans: the document. -/
import Derived.Test.YtjklegmimpehlaaGreatXRW
import Derived.Test.YtjklegmimpehlaaGreatProg
namespace Go.Proofs.YtjklegmimpehlaaGreat.Ab
open Go Go.RowKit
set_option linter.unusedVariables false
set_option linter.unusedSimpArgs false
set_option maxRecDepth 100000
set_option maxHeartbeats 8000000
structure Trace where
  Hi:Int
  Lo:Int
  deriving DecidableEq
structure bf where
  Key:ByteArray
  Value:ByteArray
  deriving DecidableEq
structure aL where
  Trace:Trace
  Id:Int
  Parent:Int
  Service:ByteArray
  Op:ByteArray
  Start:Int
  Dur:Int
  Err:Bool
  Attrs:List bf
  deriving DecidableEq
def ce (x:bf):PV:=.agg [.str x.Key,.str x.Value]
def ch (x:aL):PV:=.agg [.int .u64 x.Trace.Hi,.int .u64 x.Trace.Lo,.int .u64 x.Id,.int .u64 x.Parent,.str x.Service,.str x.Op,.int .i64 x.Start,.int .i64 x.Dur,.bool x.Err,.sl 2 (List.map ce x.Attrs)]
theorem bX:bm Tryz.prog 62=some ⟨.struct [(0,60),(1,60)],2,16,[.int .u64 0,.int .u64 0]⟩:=by kernel_rfl
theorem bN:bm Tryz.prog 67=some ⟨.slice 131,1,24,[.nil]⟩:=by kernel_rfl
theorem bA:bm Tryz.prog 129=some ⟨.slice 182,1,24,[.nil]⟩:=by kernel_rfl
theorem aJ:bm Tryz.prog 131=some ⟨.struct [(0,62),(2,60),(3,60),(4,9),(5,9),(6,3),(7,3),(8,4),(9,129)],10,112,[.int .u64 0,.int .u64 0,.int .u64 0,.int .u64 0,.str ByteArray.empty,.str ByteArray.empty,.int .i64 0,.int .i64 0,.bool false,.nil]⟩:=by kernel_rfl
theorem cM:bm Tryz.prog 182=some ⟨.struct [(0,9),(1,9)],2,32,[.str ByteArray.empty,.str ByteArray.empty]⟩:=by kernel_rfl
theorem qd:iz Tryz.prog 8 62=some [.i .u64,.i .u64]:=by kernel_rfl
theorem qe:aggT Tryz.prog 62=true:=by kernel_rfl
theorem qg:Tryz.prog.eqGuardType Tryz.prog.depth 62=false:=by kernel_rfl
theorem F5:iz Tryz.prog 8 182=some [.s,.s]:=by kernel_rfl
theorem F6:aggT Tryz.prog 182=true:=by kernel_rfl
theorem F7:Tryz.prog.eqGuardType Tryz.prog.depth 182=false:=by kernel_rfl
theorem No:aF Tryz.prog 143:=eN Tryz.func143
theorem Np:aF Tryz.prog 151:=eN Tryz.func151
def mO (a0:aL) (ck:Int):Option (Int⊕Bool):=
 if(decide (ck<(List.length a0.Attrs:Int)))=true then(gd (0≤ck) (Option.bind (a0.Attrs[(Int.toNat ck)]?) (fun(x21:bf)=>if(decide ((100:Int)<(ByteArray.size x21.Key:Int)))=true then(some (Sum.inr false))else(gd (0≤ck) (Option.bind (a0.Attrs[(Int.toNat ck)]?) (fun(x25:bf)=>if(decide ((100:Int)<(ByteArray.size x25.Value:Int)))=true then(some (Sum.inr false))else(some (Sum.inl (IntKind.i64.wrap (ck+1))))))))))else(some (Sum.inr true))
def wn (a0:aL):Option Bool:=
 am (fun(s:Int)=>mO a0 s) Fu 0
def n8 (a0:aL):Option Bool:=
 Option.bind (if(decide ((100:Int)<(ByteArray.size a0.Service:Int)))=true then(some (Sum.inr false))else(if(decide ((100:Int)<(ByteArray.size a0.Op:Int)))=true then(some (Sum.inr false))else(if(decide ((20:Int)<(List.length a0.Attrs:Int)))=true then(some (Sum.inr false))else(some (Sum.inl ()))))) (Sum.elim (fun(s:Unit)=>wn a0) some)
theorem Nq (a0:aL) {r:Bool} (h:n8 a0=some r):Ok Tryz.prog 143 [.agg [.int .u64 a0.Trace.Hi,.int .u64 a0.Trace.Lo,.int .u64 a0.Id,.int .u64 a0.Parent,.str a0.Service,.str a0.Op,.int .i64 a0.Start,.int .i64 a0.Dur,.bool a0.Err,.sl 2 (List.map ce a0.Attrs)]] [] [] (.bool r) [] []:=by
 refine oK Tryz.func143 rfl fun X=>sr fun _ k1=>rD (bY W_ rfl rfl)<|rP Y<|en k1<|bE h fun q2 h hk3=>bx (fun s=>wn a0=some r∧s=lit [(1,.ptr 1 0 0)] [((1,0),.box [.int .u64 a0.Trace.Hi,.int .u64 a0.Trace.Lo,.int .u64 a0.Id,.int .u64 a0.Parent,.str a0.Service,.str a0.Op,.int .i64 a0.Start,.int .i64 a0.Dur,.bool a0.Err,.sl 2 (List.map ce a0.Attrs)])] [(1,1)] X) ?_ ?_
 ·skip
  refine sr fun _ k4=>rP (fa aJ ap)<|rX (ld ap)<|rP (eh W_ ap)<|rP bi<|rP mv<|li 8 h (fun c5 h=>?_) fun c5 h=>?_
  ·refine rS<|rS<|rS<|rS<|rP pc<|rP mv<|rS<|rS<|rS<|rS<|rP pc<|en k4<|bM D_ rfl<|sr fun _ k6=>rP Y<|en k6<|ac<|by cases ah h hk3;exact rk
  ·refine rP (fa aJ ap)<|rX (ld ap)<|rP (eh W_ ap)<|rP bi<|rP pc<|rP mv<|li 14 h (fun c7 h=>?_) fun c7 h=>?_
   ·refine rS<|rS<|rS<|rS<|rP pc<|en k4<|bM D_ rfl<|sr fun _ k8=>rP Y<|en k8<|ac<|by cases ah h hk3;exact rk
   ·refine rP (fa aJ bA)<|rX (ld bA)<|rP (zl bA)<|rP bi<|rP pc<|en k4<|wi 19 h (fun c9 h=>?_) fun c9 h=>?_
    ·refine sr fun _ k10=>rP Y<|en k10<|ac<|by cases ah h hk3;exact rk
    ·refine aq<|tk (aI h hk3) fun h=>?_
     exact⟨_,ra [(1,0)],h,rfl⟩
 ·rintro s ⟨h,rfl⟩
  unfold wn at h
  refine ai fun _ k11=>sr fun _ k12=>rP Y<|en k12<|ax<|bv (fun m s=>∃(ck:Int),am (fun(s:Int)=>mO a0 s) m ck=some r∧s=lit [(1,.ptr 1 0 0),(3,.int .i64 ck)] [((1,0),.box [.int .u64 a0.Trace.Hi,.int .u64 a0.Trace.Lo,.int .u64 a0.Id,.int .u64 a0.Parent,.str a0.Service,.str a0.Op,.int .i64 a0.Start,.int .i64 a0.Dur,.bool a0.Err,.sl 2 (List.map ce a0.Attrs)])] [(1,1)] X) Fu
   ⟨_,ra [(1,0)],0,h,rfl⟩ ?_
  rintro m s ⟨ck,h,rfl⟩
  obtain⟨m1,q13,rfl,h,hq14⟩:=bu h
  replace h:mO a0 ck=some q13:=h
  refine ai fun _ k15=>sr fun _ k16=>rP mv<|rP (fa aJ bA)<|rX (ld bA)<|rP (zl bA)<|rP bi<|en k16<|wi 24 h (fun c17 h=>?_) fun c17 h=>?_
  ·refine aq<|k15 _<|ai fun _ k18=>ax<|sr fun _ k19=>rP (fa aJ bA)<|rX (ld bA)<|rP mv<|gE h fun g20 h=>bE h fun x21 y21 h=>rP (ia bA cM g20 y21)<|rP (fa cM ap)<|rX (ld ap)<|rP (eh W_ ap)<|rP bi<|rP mv<|li 35 h (fun c22 h=>?_) fun c22 h=>?_
   ·refine rS<|rS<|rS<|rS<|rS<|rS<|rS<|rS<|rP pc<|en k19<|bM D_ rfl<|sr fun _ k23=>rP Y<|en k23<|ac<|by cases ah h hq14;exact rk
   ·refine rP (fa aJ bA)<|rX (ld bA)<|rP mv<|gE h fun g24 h=>bE h fun x25 y25 h=>rP (ia bA cM g24 y25)<|rP (fa cM ap)<|rX (ld ap)<|rP (eh W_ ap)<|rP bi<|rP pc<|en k19<|wi 44 h (fun c26 h=>?_) fun c26 h=>?_
    ·refine sr fun _ k27=>rP Y<|en k27<|ac<|by cases ah h hq14;exact rk
    ·refine aq<|k18 _<|aB<|rP mv<|rP bi<|rP Y<|aM<|bk (ra [(1,0)]) ⟨(IntKind.i64.wrap (ck+1)),aI h hq14,rfl⟩
  ·refine bc<|tk (ah h hq14) fun h=>k11 _<|sr fun _ k28=>rP Y<|en k28<|ac<|by cases h;exact rk
theorem sX:∀(m:Nat) (cs:List PV),bL Tryz.prog m 60 cs→∃a:Int,cs=[.int .u64 a]∧(cX .u64 a):=fun m cs h=>Cy h Tryz.underlying60
def Trace.wf (a:Trace):Prop:=(cX .u64 a.Hi)∧(cX .u64 a.Lo)
theorem wo:∀(m:Nat) (cs:List PV),bL Tryz.prog m 62 cs→∃a:Trace,cs=[.int .u64 a.Hi,.int .u64 a.Lo]∧(Trace.wf a):=fun m cs h=>by
 obtain⟨hl,m,hf⟩:=jP h Tryz.underlying62
 have f0:=hf 0 _ rfl
 obtain⟨a0,e0,w0⟩:=sX m _ f0
 rw[show Tryz.prog.cellsOf _=1 by kernel_rfl]at e0
 have f1:=hf 1 _ rfl
 obtain⟨a1,e1,w1⟩:=sX m _ f1
 rw[show Tryz.prog.cellsOf _=1 by kernel_rfl]at e1
 exact⟨⟨a0,a1⟩,iy (l:=[(1,[.int .u64 a0]),(1,[.int .u64 a1])]) ⟨e0,e1,trivial⟩ hl (by kernel_rfl),⟨w0,w1⟩⟩
theorem jm:∀(m:Nat) (cs:List PV),bL Tryz.prog m 9 cs→∃a:ByteArray,cs=[.str a]∧((ByteArray.size a)≤maxLen):=fun m cs h=>G0 h Tryz.underlying9
theorem d9:∀(m:Nat) (cs:List PV),bL Tryz.prog m 3 cs→∃a:Int,cs=[.int .i64 a]∧(cX .i64 a):=fun m cs h=>Cy h Tryz.underlying3
theorem Aj:∀(m:Nat) (cs:List PV),bL Tryz.prog m 4 cs→∃a:Bool,cs=[.bool a]∧True:=fun m cs h=>HW h Tryz.underlying4
def bf.wf (a:bf):Prop:=((ByteArray.size a.Key)≤maxLen)∧((ByteArray.size a.Value)≤maxLen)
theorem Nr:∀(m:Nat) (cs:List PV),bL Tryz.prog m 182 cs→∃a:bf,cs=[.str a.Key,.str a.Value]∧(bf.wf a):=fun m cs h=>by
 obtain⟨hl,m,hf⟩:=jP h Tryz.underlying182
 have f0:=hf 0 _ rfl
 obtain⟨a0,e0,w0⟩:=jm m _ f0
 rw[show Tryz.prog.cellsOf _=1 by kernel_rfl]at e0
 have f1:=hf 1 _ rfl
 obtain⟨a1,e1,w1⟩:=jm m _ f1
 rw[show Tryz.prog.cellsOf _=1 by kernel_rfl]at e1
 exact⟨⟨a0,a1⟩,iy (l:=[(1,[.str a0]),(1,[.str a1])]) ⟨e0,e1,trivial⟩ hl (by kernel_rfl),⟨w0,w1⟩⟩
theorem Ns:∀(m:Nat) (cs:List PV),bL Tryz.prog m 129 cs→∃a:List bf,cs=[.sl 2 (List.map ce a)]∧((List.length a)≤maxLen∧∀y∈a,bf.wf y):=fun m cs h=>by
 obtain⟨l,h1,h2,h3⟩:=mc (f:=ce) (Q:=fun y=>bf.wf y) h Tryz.underlying129 (fun m ps hs=>by
  obtain⟨a,rfl,hw⟩:=Nr m ps hs
  exact⟨a,by rw[show aggT Tryz.prog 182=true by kernel_rfl];rfl,hw⟩)
 exact⟨l,h1.trans (by rw[show Tryz.prog.cellsOf 182=2 by kernel_rfl]),h2,h3⟩
def aL.wf (a:aL):Prop:=(Trace.wf a.Trace)∧(cX .u64 a.Id)∧(cX .u64 a.Parent)∧((ByteArray.size a.Service)≤maxLen)∧((ByteArray.size a.Op)≤maxLen)∧(cX .i64 a.Start)∧(cX .i64 a.Dur)∧True∧((List.length a.Attrs)≤maxLen∧∀y∈a.Attrs,bf.wf y)
theorem Nt:∀(m:Nat) (cs:List PV),bL Tryz.prog m 131 cs→∃a:aL,cs=[.int .u64 a.Trace.Hi,.int .u64 a.Trace.Lo,.int .u64 a.Id,.int .u64 a.Parent,.str a.Service,.str a.Op,.int .i64 a.Start,.int .i64 a.Dur,.bool a.Err,.sl 2 (List.map ce a.Attrs)]∧(aL.wf a):=fun m cs h=>by
 obtain⟨hl,m,hf⟩:=jP h Tryz.underlying131
 have f0:=hf 0 _ rfl
 obtain⟨a0,e0,w0⟩:=wo m _ f0
 rw[show Tryz.prog.cellsOf _=2 by kernel_rfl]at e0
 have f1:=hf 1 _ rfl
 obtain⟨a1,e1,w1⟩:=sX m _ f1
 rw[show Tryz.prog.cellsOf _=1 by kernel_rfl]at e1
 have f2:=hf 2 _ rfl
 obtain⟨a2,e2,w2⟩:=sX m _ f2
 rw[show Tryz.prog.cellsOf _=1 by kernel_rfl]at e2
 have f3:=hf 3 _ rfl
 obtain⟨a3,e3,w3⟩:=jm m _ f3
 rw[show Tryz.prog.cellsOf _=1 by kernel_rfl]at e3
 have f4:=hf 4 _ rfl
 obtain⟨a4,e4,w4⟩:=jm m _ f4
 rw[show Tryz.prog.cellsOf _=1 by kernel_rfl]at e4
 have f5:=hf 5 _ rfl
 obtain⟨a5,e5,w5⟩:=d9 m _ f5
 rw[show Tryz.prog.cellsOf _=1 by kernel_rfl]at e5
 have f6:=hf 6 _ rfl
 obtain⟨a6,e6,w6⟩:=d9 m _ f6
 rw[show Tryz.prog.cellsOf _=1 by kernel_rfl]at e6
 have f7:=hf 7 _ rfl
 obtain⟨a7,e7,w7⟩:=Aj m _ f7
 rw[show Tryz.prog.cellsOf _=1 by kernel_rfl]at e7
 have f8:=hf 8 _ rfl
 obtain⟨a8,e8,w8⟩:=Ns m _ f8
 rw[show Tryz.prog.cellsOf _=1 by kernel_rfl]at e8
 exact⟨⟨a0,a1,a2,a3,a4,a5,a6,a7,a8⟩,iy (l:=[(2,[.int .u64 a0.Hi,.int .u64 a0.Lo]),(1,[.int .u64 a1]),(1,[.int .u64 a2]),(1,[.str a3]),(1,[.str a4]),(1,[.int .i64 a5]),(1,[.int .i64 a6]),(1,[.bool a7]),(1,[.sl 2 (List.map ce a8)])]) ⟨e0,e1,e2,e3,e4,e5,e6,e7,e8,trivial⟩ hl (by kernel_rfl),⟨w0,w1,w2,w3,w4,w5,w6,w7,w8⟩⟩
def oa (a0:List aL) (cd:Int):Option (Int⊕Bool):=
 if(decide (cd<(List.length a0:Int)))=true then(gd (0≤cd) (Option.bind (a0[(Int.toNat cd)]?) (fun(x16:aL)=>Option.bind (n8 x16) (fun(x17:Bool)=>if(!x17)=true then(some (Sum.inr false))else(some (Sum.inl (IntKind.i64.wrap (cd+1))))))))else(some (Sum.inr true))
def sY (a0:List aL):Option Bool:=
 if(decide ((60:Int)<(List.length a0:Int)))=true then(some false)else(am (fun(s:Int)=>oa a0 s) Fu 0)
theorem Nu (a0:List aL) {r:Bool} (h:sY a0=some r):Ok Tryz.prog 79 [.sl 10 (List.map ch a0)] [] [] (.bool r) [] []:=by
 refine oK Tryz.func79 rfl fun X=>sr fun _ k1=>rP Y<|en k1<|ai fun _ k2=>sr fun _ k3=>rP mv<|rP (zl bN)<|rP bi<|en k3<|wi 6 h (fun c4 h=>?_) fun c4 h=>?_
 ·refine sr fun _ k5=>rP Y<|en k5<|ac<|by cases h;exact rk
 ·refine aq<|k2 _<|ai fun _ k6=>sr fun _ k7=>rP Y<|en k7<|ax<|bv (fun m s=>∃(cd:Int),am (fun(s:Int)=>oa a0 s) m cd=some r∧s=lit [(0,.sl 10 (List.map ch a0)),(3,.int .i64 cd)] [] [] X) Fu
   ⟨_,ra [],0,h,rfl⟩ ?_
  rintro m s ⟨cd,h,rfl⟩
  obtain⟨m0,q8,rfl,h,hq9⟩:=bu h
  replace h:oa a0 cd=some q8:=h
  refine ai fun _ k10=>sr fun _ k11=>rP mv<|rP mv<|rP (zl bN)<|rP bi<|en k11<|wi 10 h (fun c12 h=>?_) fun c12 h=>?_
  ·refine aq<|k10 _<|ai fun _ k13=>ax<|sr fun _ k14=>rP mv<|rP mv<|gE h fun g15 h=>bE h fun x16 y16 h=>rP (ia bN aJ g15 y16)<|pl 16 (.agg [.int .u64 x16.Trace.Hi,.int .u64 x16.Trace.Lo,.int .u64 x16.Id,.int .u64 x16.Parent,.str x16.Service,.str x16.Op,.int .i64 x16.Start,.int .i64 x16.Dur,.bool x16.Err,.sl 2 (List.map ce x16.Attrs)]) aJ<|bE h fun x17 y17 h=>rD (cZ (Nq x16 y17) No)<|rP un<|en k14<|wi 18 h (fun c18 h=>?_) fun c18 h=>?_
   ·refine sr fun _ k19=>rP Y<|en k19<|ac<|by cases ah h hq9;exact rk
   ·refine aq<|k13 _<|aB<|rP mv<|rP bi<|rP Y<|aM<|bk (ra []) ⟨(IntKind.i64.wrap (cd+1)),aI h hq9,rfl⟩
  ·refine bc<|tk (ah h hq9) fun h=>k6 _<|sr fun _ k20=>rP Y<|en k20<|ac<|by cases h;exact rk
theorem Nv:∀(m:Nat) (cs:List PV),bL Tryz.prog m 67 cs→∃a:List aL,cs=[.sl 10 (List.map ch a)]∧((List.length a)≤maxLen∧∀y∈a,aL.wf y):=fun m cs h=>by
 obtain⟨l,h1,h2,h3⟩:=mc (f:=ch) (Q:=fun y=>aL.wf y) h Tryz.underlying67 (fun m ps hs=>by
  obtain⟨a,rfl,hw⟩:=Nt m ps hs
  exact⟨a,by rw[show aggT Tryz.prog 131=true by kernel_rfl];rfl,hw⟩)
 exact⟨l,h1.trans (by rw[show Tryz.prog.cellsOf 131=10 by kernel_rfl]),h2,h3⟩
def sZ (a0:aL) (a1:aL) (bg:Int):Option (Int⊕Bool):=
 if(decide (bg<(List.length a0.Attrs:Int)))=true then(gd (0≤bg) (Option.bind (a0.Attrs[(Int.toNat bg)]?) (fun(x33:bf)=>gd (0≤bg) (Option.bind (a1.Attrs[(Int.toNat bg)]?) (fun(x35:bf)=>if(!((ByteArray.toList x33.Key == ByteArray.toList x35.Key)&&((ByteArray.toList x33.Value == ByteArray.toList x35.Value)&&true)))=true then(some (Sum.inr false))else(some (Sum.inl (IntKind.i64.wrap (bg+1)))))))))else(some (Sum.inr true))
def wq (a0:aL) (a1:aL):Option Bool:=
 am (fun(s:Int)=>sZ a0 a1 s) Fu 0
def iL (a0:aL) (a1:aL):Option Bool:=
 Option.bind (if(!((a0.Trace.Hi == a1.Trace.Hi)&&((a0.Trace.Lo == a1.Trace.Lo)&&true)))=true then(some (Sum.inr false))else(if(a0.Id != a1.Id)=true then(some (Sum.inr false))else(if(a0.Parent != a1.Parent)=true then(some (Sum.inr false))else(if(!(ByteArray.toList a0.Service == ByteArray.toList a1.Service))=true then(some (Sum.inr false))else(if(!(ByteArray.toList a0.Op == ByteArray.toList a1.Op))=true then(some (Sum.inr false))else(if(a0.Start != a1.Start)=true then(some (Sum.inr false))else(if(a0.Dur != a1.Dur)=true then(some (Sum.inr false))else(if(!(a0.Err == a1.Err))=true then(some (Sum.inr false))else(if((List.length a0.Attrs:Int) != (List.length a1.Attrs:Int))=true then(some (Sum.inr false))else(some (Sum.inl ()))))))))))) (Sum.elim (fun(s:Unit)=>wq a0 a1) some)
theorem Nw (a0:aL) (a1:aL) {r:Bool} (h:iL a0 a1=some r):Ok Tryz.prog 151 [.agg [.int .u64 a0.Trace.Hi,.int .u64 a0.Trace.Lo,.int .u64 a0.Id,.int .u64 a0.Parent,.str a0.Service,.str a0.Op,.int .i64 a0.Start,.int .i64 a0.Dur,.bool a0.Err,.sl 2 (List.map ce a0.Attrs)],.agg [.int .u64 a1.Trace.Hi,.int .u64 a1.Trace.Lo,.int .u64 a1.Id,.int .u64 a1.Parent,.str a1.Service,.str a1.Op,.int .i64 a1.Start,.int .i64 a1.Dur,.bool a1.Err,.sl 2 (List.map ce a1.Attrs)]] [] [] (.bool r) [] []:=by
 refine oK Tryz.func151 rfl fun X=>sr fun _ k1=>rD (bY W_ rfl rfl)<|rD (bY W_ rfl rfl)<|rP Y<|en k1<|bE h fun q2 h hk3=>bx (fun s=>wq a0 a1=some r∧s=lit [(2,.ptr 2 0 0),(3,.ptr 3 0 0)] [((2,0),.box [.int .u64 a0.Trace.Hi,.int .u64 a0.Trace.Lo,.int .u64 a0.Id,.int .u64 a0.Parent,.str a0.Service,.str a0.Op,.int .i64 a0.Start,.int .i64 a0.Dur,.bool a0.Err,.sl 2 (List.map ce a0.Attrs)]),((3,0),.box [.int .u64 a1.Trace.Hi,.int .u64 a1.Trace.Lo,.int .u64 a1.Id,.int .u64 a1.Parent,.str a1.Service,.str a1.Op,.int .i64 a1.Start,.int .i64 a1.Dur,.bool a1.Err,.sl 2 (List.map ce a1.Attrs)])] [(2,1),(3,1)] X) ?_ ?_
 ·skip
  refine sr fun _ k4=>rP (fa aJ bX)<|pl 7 (.agg [.int .u64 a0.Trace.Hi,.int .u64 a0.Trace.Lo]) bX<|rP (fa aJ bX)<|pl 9 (.agg [.int .u64 a1.Trace.Hi,.int .u64 a1.Trace.Lo]) bX<|rP (hY (v:=.bool (!((a0.Trace.Hi == a1.Trace.Hi)&&((a0.Trace.Lo == a1.Trace.Lo)&&true)))) W_ W_ qd rfl qe qg W_ rfl)<|rP mv<|li 11 h (fun c5 h=>?_) fun c5 h=>?_
  ·refine rS<|rS<|rS<|rS<|rS<|rP pc<|rP mv<|rS<|rS<|rS<|rS<|rS<|rP pc<|rP mv<|rS<|rS<|rS<|rS<|rS<|rP pc<|rP mv<|rS<|rS<|rS<|rS<|rS<|rP pc<|rP mv<|rS<|rS<|rS<|rS<|rS<|rP pc<|rP mv<|rS<|rS<|rS<|rS<|rS<|rP pc<|rP mv<|rS<|rS<|rS<|rS<|rS<|rP pc<|rP mv<|rS<|rS<|rS<|rS<|rS<|rS<|rS<|rP pc<|en k4<|bM D_ rfl<|sr fun _ k6=>rP Y<|en k6<|ac<|by cases ah h hk3;exact rk
  ·refine rP (fa aJ bd)<|rX (ld bd)<|rP (fa aJ bd)<|rX (ld bd)<|rP bi<|rP pc<|rP mv<|li 18 h (fun c7 h=>?_) fun c7 h=>?_
   ·refine rS<|rS<|rS<|rS<|rS<|rP pc<|rP mv<|rS<|rS<|rS<|rS<|rS<|rP pc<|rP mv<|rS<|rS<|rS<|rS<|rS<|rP pc<|rP mv<|rS<|rS<|rS<|rS<|rS<|rP pc<|rP mv<|rS<|rS<|rS<|rS<|rS<|rP pc<|rP mv<|rS<|rS<|rS<|rS<|rS<|rP pc<|rP mv<|rS<|rS<|rS<|rS<|rS<|rS<|rS<|rP pc<|en k4<|bM D_ rfl<|sr fun _ k8=>rP Y<|en k8<|ac<|by cases ah h hk3;exact rk
   ·refine rP (fa aJ bd)<|rX (ld bd)<|rP (fa aJ bd)<|rX (ld bd)<|rP bi<|rP pc<|rP mv<|li 25 h (fun c9 h=>?_) fun c9 h=>?_
    ·refine rS<|rS<|rS<|rS<|rS<|rP pc<|rP mv<|rS<|rS<|rS<|rS<|rS<|rP pc<|rP mv<|rS<|rS<|rS<|rS<|rS<|rP pc<|rP mv<|rS<|rS<|rS<|rS<|rS<|rP pc<|rP mv<|rS<|rS<|rS<|rS<|rS<|rP pc<|rP mv<|rS<|rS<|rS<|rS<|rS<|rS<|rS<|rP pc<|en k4<|bM D_ rfl<|sr fun _ k10=>rP Y<|en k10<|ac<|by cases ah h hk3;exact rk
    ·refine rP (fa aJ ap)<|rX (ld ap)<|rP (fa aJ ap)<|rX (ld ap)<|rP bi<|rP pc<|rP mv<|li 32 h (fun c11 h=>?_) fun c11 h=>?_
     ·refine rS<|rS<|rS<|rS<|rS<|rP pc<|rP mv<|rS<|rS<|rS<|rS<|rS<|rP pc<|rP mv<|rS<|rS<|rS<|rS<|rS<|rP pc<|rP mv<|rS<|rS<|rS<|rS<|rS<|rP pc<|rP mv<|rS<|rS<|rS<|rS<|rS<|rS<|rS<|rP pc<|en k4<|bM D_ rfl<|sr fun _ k12=>rP Y<|en k12<|ac<|by cases ah h hk3;exact rk
     ·refine rP (fa aJ ap)<|rX (ld ap)<|rP (fa aJ ap)<|rX (ld ap)<|rP bi<|rP pc<|rP mv<|li 39 h (fun c13 h=>?_) fun c13 h=>?_
      ·refine rS<|rS<|rS<|rS<|rS<|rP pc<|rP mv<|rS<|rS<|rS<|rS<|rS<|rP pc<|rP mv<|rS<|rS<|rS<|rS<|rS<|rP pc<|rP mv<|rS<|rS<|rS<|rS<|rS<|rS<|rS<|rP pc<|en k4<|bM D_ rfl<|sr fun _ k14=>rP Y<|en k14<|ac<|by cases ah h hk3;exact rk
      ·refine rP (fa aJ ae)<|rX (ld ae)<|rP (fa aJ ae)<|rX (ld ae)<|rP bi<|rP pc<|rP mv<|li 46 h (fun c15 h=>?_) fun c15 h=>?_
       ·refine rS<|rS<|rS<|rS<|rS<|rP pc<|rP mv<|rS<|rS<|rS<|rS<|rS<|rP pc<|rP mv<|rS<|rS<|rS<|rS<|rS<|rS<|rS<|rP pc<|en k4<|bM D_ rfl<|sr fun _ k16=>rP Y<|en k16<|ac<|by cases ah h hk3;exact rk
       ·refine rP (fa aJ ae)<|rX (ld ae)<|rP (fa aJ ae)<|rX (ld ae)<|rP bi<|rP pc<|rP mv<|li 53 h (fun c17 h=>?_) fun c17 h=>?_
        ·refine rS<|rS<|rS<|rS<|rS<|rP pc<|rP mv<|rS<|rS<|rS<|rS<|rS<|rS<|rS<|rP pc<|en k4<|bM D_ rfl<|sr fun _ k18=>rP Y<|en k18<|ac<|by cases ah h hk3;exact rk
        ·refine rP (fa aJ aN)<|rX (ld aN)<|rP (fa aJ aN)<|rX (ld aN)<|rP (oV (v:=.bool (!(a0.Err == a1.Err))) W_ W_ (oW aN) rfl)<|rP pc<|rP mv<|li 60 h (fun c19 h=>?_) fun c19 h=>?_
         ·refine rS<|rS<|rS<|rS<|rS<|rS<|rS<|rP pc<|en k4<|bM D_ rfl<|sr fun _ k20=>rP Y<|en k20<|ac<|by cases ah h hk3;exact rk
         ·refine rP (fa aJ bA)<|rX (ld bA)<|rP (zl bA)<|rP (fa aJ bA)<|rX (ld bA)<|rP (zl bA)<|rP bi<|rP pc<|en k4<|wi 68 h (fun c21 h=>?_) fun c21 h=>?_
          ·refine sr fun _ k22=>rP Y<|en k22<|ac<|by cases ah h hk3;exact rk
          ·refine aq<|tk (aI h hk3) fun h=>?_
           exact⟨_,ra [(2,0),(3,0)],h,rfl⟩
 ·rintro s ⟨h,rfl⟩
  unfold wq at h
  refine ai fun _ k23=>sr fun _ k24=>rP Y<|en k24<|ax<|bv (fun m s=>∃(bg:Int),am (fun(s:Int)=>sZ a0 a1 s) m bg=some r∧s=lit [(2,.ptr 2 0 0),(3,.ptr 3 0 0),(5,.int .i64 bg)] [((2,0),.box [.int .u64 a0.Trace.Hi,.int .u64 a0.Trace.Lo,.int .u64 a0.Id,.int .u64 a0.Parent,.str a0.Service,.str a0.Op,.int .i64 a0.Start,.int .i64 a0.Dur,.bool a0.Err,.sl 2 (List.map ce a0.Attrs)]),((3,0),.box [.int .u64 a1.Trace.Hi,.int .u64 a1.Trace.Lo,.int .u64 a1.Id,.int .u64 a1.Parent,.str a1.Service,.str a1.Op,.int .i64 a1.Start,.int .i64 a1.Dur,.bool a1.Err,.sl 2 (List.map ce a1.Attrs)])] [(2,1),(3,1)] X) Fu
   ⟨_,ra [(2,0),(3,0)],0,h,rfl⟩ ?_
  rintro m s ⟨bg,h,rfl⟩
  obtain⟨m1,q25,rfl,h,hq26⟩:=bu h
  replace h:sZ a0 a1 bg=some q25:=h
  refine ai fun _ k27=>sr fun _ k28=>rP mv<|rP (fa aJ bA)<|rX (ld bA)<|rP (zl bA)<|rP bi<|en k28<|wi 73 h (fun c29 h=>?_) fun c29 h=>?_
  ·refine aq<|k27 _<|ai fun _ k30=>ax<|ai fun _ k31=>cD (by kernel_rfl) (by decide +kernel)<|tP (fa aJ bA)<|tR (ld bA)<|tP mv<|gE h fun g32 h=>bE h fun x33 y33 h=>tP (ia bA cM g32 y33)<|tR (cu (v:=.agg [.str x33.Key,.str x33.Value]) W_ W_ cM R_)<|tP (fa aJ bA)<|tR (ld bA)<|tP mv<|gE h fun g34 h=>bE h fun x35 y35 h=>tP (ia bA cM g34 y35)<|tR (cu (v:=.agg [.str x35.Key,.str x35.Value]) W_ W_ cM R_)<|tP (hY (v:=.bool (!((ByteArray.toList x33.Key == ByteArray.toList x35.Key)&&((ByteArray.toList x33.Value == ByteArray.toList x35.Value)&&true)))) W_ W_ F5 rfl F6 F7 W_ rfl)<|cc (by kernel_rfl)<|k31 _<|wi 86 h (fun c36 h=>?_) fun c36 h=>?_
   ·refine sr fun _ k37=>rP Y<|en k37<|ac<|by cases ah h hq26;exact rk
   ·refine aq<|k30 _<|aB<|rP mv<|rP bi<|rP Y<|aM<|bk (ra [(2,0),(3,0)]) ⟨(IntKind.i64.wrap (bg+1)),aI h hq26,rfl⟩
  ·refine bc<|tk (ah h hq26) fun h=>k23 _<|sr fun _ k38=>rP Y<|en k38<|ac<|by cases h;exact rk
def s4 (a0:List aL) (a1:List aL) (au:Int):Option (Int⊕Bool):=
 if(decide (au<(List.length a0:Int)))=true then(gd (0≤au) (Option.bind (a0[(Int.toNat au)]?) (fun(x16:aL)=>gd (0≤au) (Option.bind (a1[(Int.toNat au)]?) (fun(x18:aL)=>Option.bind (iL x16 x18) (fun(x19:Bool)=>if(!x19)=true then(some (Sum.inr false))else(some (Sum.inl (IntKind.i64.wrap (au+1))))))))))else(some (Sum.inr true))
def s5 (a0:List aL) (a1:List aL):Option Bool:=
 if((List.length a0:Int) != (List.length a1:Int))=true then(some false)else(am (fun(s:Int)=>s4 a0 a1 s) Fu 0)
theorem Nx (a0:List aL) (a1:List aL) {r:Bool} (h:s5 a0 a1=some r):Ok Tryz.prog 115 [.sl 10 (List.map ch a0),.sl 10 (List.map ch a1)] [] [] (.bool r) [] []:=by
 refine oK Tryz.func115 rfl fun X=>sr fun _ k1=>rP Y<|en k1<|ai fun _ k2=>sr fun _ k3=>rP mv<|rP (zl bN)<|rP mv<|rP (zl bN)<|rP bi<|en k3<|wi 10 h (fun c4 h=>?_) fun c4 h=>?_
 ·refine sr fun _ k5=>rP Y<|en k5<|ac<|by cases h;exact rk
 ·refine aq<|k2 _<|ai fun _ k6=>sr fun _ k7=>rP Y<|en k7<|ax<|bv (fun m s=>∃(au:Int),am (fun(s:Int)=>s4 a0 a1 s) m au=some r∧s=lit [(0,.sl 10 (List.map ch a0)),(1,.sl 10 (List.map ch a1)),(5,.int .i64 au)] [] [] X) Fu
   ⟨_,ra [],0,h,rfl⟩ ?_
  rintro m s ⟨au,h,rfl⟩
  obtain⟨m0,q8,rfl,h,hq9⟩:=bu h
  replace h:s4 a0 a1 au=some q8:=h
  refine ai fun _ k10=>sr fun _ k11=>rP mv<|rP mv<|rP (zl bN)<|rP bi<|en k11<|wi 14 h (fun c12 h=>?_) fun c12 h=>?_
  ·refine aq<|k10 _<|ai fun _ k13=>ax<|ai fun _ k14=>cD (by kernel_rfl) (by decide +kernel)<|tP mv<|tP mv<|gE h fun g15 h=>bE h fun x16 y16 h=>tP (ia bN aJ g15 y16)<|tR (cu (v:=.agg [.int .u64 x16.Trace.Hi,.int .u64 x16.Trace.Lo,.int .u64 x16.Id,.int .u64 x16.Parent,.str x16.Service,.str x16.Op,.int .i64 x16.Start,.int .i64 x16.Dur,.bool x16.Err,.sl 2 (List.map ce x16.Attrs)]) W_ W_ aJ R_)<|tP mv<|tP mv<|gE h fun g17 h=>bE h fun x18 y18 h=>tP (ia bN aJ g17 y18)<|tR (cu (v:=.agg [.int .u64 x18.Trace.Hi,.int .u64 x18.Trace.Lo,.int .u64 x18.Id,.int .u64 x18.Parent,.str x18.Service,.str x18.Op,.int .i64 x18.Start,.int .i64 x18.Dur,.bool x18.Err,.sl 2 (List.map ce x18.Attrs)]) W_ W_ aJ R_)<|bE h fun x19 y19 h=>tD (cZ (Nw x16 x18 y19) Np)<|tP un<|cc (by kernel_rfl)<|k14 _<|wi 26 h (fun c20 h=>?_) fun c20 h=>?_
   ·refine sr fun _ k21=>rP Y<|en k21<|ac<|by cases ah h hq9;exact rk
   ·refine aq<|k13 _<|aB<|rP mv<|rP bi<|rP Y<|aM<|bk (ra []) ⟨(IntKind.i64.wrap (au+1)),aI h hq9,rfl⟩
  ·refine bc<|tk (ah h hq9) fun h=>k6 _<|sr fun _ k22=>rP Y<|en k22<|ac<|by cases h;exact rk
end Go.Proofs.YtjklegmimpehlaaGreat.Ab
namespace Go.Proofs.YtjklegmimpehlaaGreat.Ab
open Go Go.RowKit
set_option linter.unusedVariables false
set_option linter.unusedSimpArgs false
set_option maxRecDepth 100000
set_option maxHeartbeats 8000000
theorem Ak:aF Tryz.prog 30:=eN Tryz.func30
theorem qh:aF Tryz.prog 87:=eN Tryz.func87
theorem Al:aF Tryz.prog 102:=eN Tryz.func102
theorem kX:aF Tryz.prog 131:=eN Tryz.func131
theorem jn:aF Tryz.prog 150:=eN Tryz.func150
theorem Ny:aF Tryz.prog 157:=eN Tryz.func157
theorem Nz:aF Tryz.prog 158:=eN Tryz.func158
theorem F8:aF Tryz.prog 159:=eN Tryz.func159
theorem NA:aF Tryz.prog 171:=eN Tryz.func171
theorem NB:aF Tryz.prog 172:=eN Tryz.func172
theorem NC:aF Tryz.prog 173:=eN Tryz.func173
theorem ND:aF Tryz.prog 174:=eN Tryz.func174
theorem NE:aF Tryz.prog 175:=eN Tryz.func175
def gL (a0:ByteArray):Option Bool:=
 if(decide ((1:Int)≤(ByteArray.size a0:Int)))=true then(some (decide ((ByteArray.size a0:Int)≤16)))else(some false)
theorem kY (a0:ByteArray) {r:Bool} (h:gL a0=some r):Ok Tryz.prog 131 [.str a0] [] [] (.bool r) [] []:=by
 refine oK Tryz.func131 rfl fun X=>sr fun _ k1=>rP Y<|en k1<|sr fun _ k2=>rP mv<|rP (eh W_ ap)<|rP bi<|rP mv<|li 6 h (fun c3 h=>?_) fun c3 h=>?_
 ·refine rP mv<|rP (eh W_ ap)<|rP bi<|rP pc<|rP Y<|en k2<|ac<|by cases h;exact rk
 ·refine rS<|rS<|rS<|rP pc<|rP Y<|en k2<|ac<|by cases h;exact rk
def wr (a0:bf) (a1:bf):Option Bool:=
 some (ByteArray.toList a0.Key == ByteArray.toList a1.Key)
theorem NF (a0:bf) (a1:bf) {r:Bool} (h:wr a0 a1=some r):Ok Tryz.prog 174 [.agg [.str a0.Key,.str a0.Value],.rptr [.str a1.Key,.str a1.Value]] [] [] (.bool r) [] []:=by
 unfold wr at h
 refine oK Tryz.func174 rfl fun X=>sr fun _ k1=>rD (bY W_ rfl rfl)<|rP Y<|en k1<|sr fun _ k2=>rP (fa cM ap)<|rX (ld ap)<|rP (fa cM ap)<|rX (ld ap)<|rP bi<|rP Y<|en k2<|ac<|by cases h;exact rk
def qi (a0:List bf) (a1_0:bf) (aS:Int):Option (Int⊕Int):=
 if(decide (aS<(List.length a0:Int)))=true then(gd (0≤aS) (Option.bind (a0[(Int.toNat aS)]?) (fun(x13:bf)=>Option.bind (wr x13 a1_0) (fun(x14:Bool)=>if x14=true then(some (Sum.inr aS))else(some (Sum.inl (IntKind.i64.wrap (aS+1))))))))else(some (Sum.inr (-1)))
def ws (a0:List bf) (a1_0:bf):Option Int:=
 am (fun(s:Int)=>qi a0 a1_0 s) Fu 0
theorem NG (a0:List bf) (a1_0:bf) {r:Int} (h:ws a0 a1_0=some r):Ok Tryz.prog 175 [.sl 2 (List.map ce a0),.fn 174 [.rptr [.str a1_0.Key,.str a1_0.Value]]] [] [] (.int .i64 r) [] []:=by
 unfold ws at h
 refine oK Tryz.func175 rfl fun X=>sr fun _ k1=>rP Y<|en k1<|ai fun _ k2=>sr fun _ k3=>rP mv<|rP (zl bA)<|rP mv<|en k3<|ax<|bv (fun m s=>∃(aS:Int),am (fun(s:Int)=>qi a0 a1_0 s) m aS=some r∧s=lit [(0,.sl 2 (List.map ce a0)),(1,.fn 174 [.rptr [.str a1_0.Key,.str a1_0.Value]]),(7,.int .i64 (List.length a0:Int)),(8,.int .i64 aS)] [] [] X) Fu
  ⟨_,ra [],0,h,rfl⟩ ?_
 rintro m s ⟨aS,h,rfl⟩
 obtain⟨m0,q4,rfl,h,hq5⟩:=bu h
 replace h:qi a0 a1_0 aS=some q4:=h
 refine sr fun _ k6=>rP bi<|en k6<|ai fun _ k7=>wi 9 h (fun c8 h=>?_) fun c8 h=>?_
 ·refine aq<|k7 _<|ai fun _ k9=>ax<|sr fun _ k10=>rP mv<|rP Y<|en k10<|sr fun _ k11=>rP mv<|rP mv<|rP mv<|gE h fun g12 h=>bE h fun x13 y13 h=>rP (ia bA cM g12 y13)<|pl 15 (.agg [.str x13.Key,.str x13.Value]) cM<|bE h fun x14 y14 h=>rD (cZ (NF x13 a1_0 y14) ND)<|en k11<|wi 16 h (fun c15 h=>?_) fun c15 h=>?_
  ·refine sr fun _ k16=>rP mv<|rP Y<|en k16<|ac<|by cases ah h hq5;exact rk
  ·refine aq<|k9 _<|aB<|rP bi<|rP mv<|aM<|bk (ra []) ⟨(IntKind.i64.wrap (aS+1)),aI h hq5,rfl⟩
 ·refine bc<|tk (ah h hq5) fun h=>k2 _<|sr fun _ k17=>rP Y<|en k17<|ac<|by cases h;exact rk
def wt (a0:List bf) (a1_0:bf):Option Bool:=
 Option.bind (ws a0 a1_0) (fun(x3:Int)=>some (decide ((0:Int)≤x3)))
theorem NH (a0:List bf) (a1_0:bf) {r:Bool} (h:wt a0 a1_0=some r):Ok Tryz.prog 173 [.sl 2 (List.map ce a0),.fn 174 [.rptr [.str a1_0.Key,.str a1_0.Value]]] [] [] (.bool r) [] []:=by
 refine oK Tryz.func173 rfl fun X=>sr fun _ k1=>rP Y<|en k1<|sr fun _ k2=>rP mv<|rP mv<|bE h fun x3 y3 h=>rD (cZ (NG a0 a1_0 y3) NE)<|rP bi<|rP Y<|en k2<|ac<|by cases h;exact rk
def od (a0:List bf) (ep:Int):Option (Int⊕(Unit⊕Bool)):=
 if(decide (ep<(List.length a0:Int)))=true then(gd (0≤ep) (Option.bind (a0[(Int.toNat ep)]?) (fun(x13:bf)=>Option.bind (gL x13.Key) (fun(x15:Bool)=>if(!x15)=true then(some (Sum.inr (Sum.inr false)))else(if(decide ((16:Int)<(ByteArray.size x13.Value:Int)))=true then(some (Sum.inr (Sum.inr false)))else(gd (0≤ep) (gd (ep≤(List.length a0:Int)) (Option.bind (wt (List.take (Int.toNat ep) a0) x13) (fun(x22:Bool)=>if x22=true then(some (Sum.inr (Sum.inr false)))else(some (Sum.inl (IntKind.i64.wrap (ep+1)))))))))))))else(some (Sum.inr (Sum.inl ())))
def wu (a0:List bf):Option Bool:=
 some (decide ((List.length a0:Int)≤4))
def wv (a0:List bf):Option Bool:=
 Option.bind (am (fun(s:Int)=>od a0 s) Fu 0) (Sum.elim (fun(s:Unit)=>wu a0) some)
theorem NI (a0:List bf) {r:Bool} (h:wv a0=some r):Ok Tryz.prog 172 [.sl 2 (List.map ce a0)] [] [] (.bool r) [] []:=by
 refine oK Tryz.func172 rfl fun X=>sr fun _ k1=>rP Y<|en k1<|bE h fun q2 h hk3=>bx (fun s=>wu a0=some r∧s=lit [(0,.sl 2 (List.map ce a0))] [] [] X) ?_ ?_
 ·skip
  refine sr fun _ k4=>rP mv<|rP (zl bA)<|rP mv<|en k4<|ax<|bv (fun m s=>∃(ep:Int),am (fun(s:Int)=>od a0 s) m ep=some q2∧s=lit [(0,.sl 2 (List.map ce a0)),(5,.sl 2 (List.map ce a0)),(6,.int .i64 (List.length a0:Int)),(7,.int .i64 ep)] [] [] X) Fu
   ⟨_,ra [],0,h,rfl⟩ ?_
  rintro m s ⟨ep,h,rfl⟩
  obtain⟨m1,q5,rfl,h,hq6⟩:=bu h
  replace h:od a0 ep=some q5:=h
  refine sr fun _ k7=>rP bi<|en k7<|ai fun _ k8=>wi 8 h (fun c9 h=>?_) fun c9 h=>?_
  ·refine aq<|k8 _<|ai fun _ k10=>ax<|sr fun _ k11=>rP mv<|gE h fun g12 h=>bE h fun x13 y13 h=>rP (ia bA cM g12 y13)<|pl 11 (.agg [.str x13.Key,.str x13.Value]) cM<|rD (nw cM)<|rP Y<|pZ (aA [.str x13.Key,.str x13.Value] cM)<|en k11<|sr fun _ k14=>rP (fa cM ap)<|rX (ld ap)<|bE h fun x15 y15 h=>rD (cZ (kY x13.Key y15) kX)<|rP un<|rP mv<|li 16 h (fun c16 h=>?_) fun c16 h=>?_
   ·refine rS<|rS<|rS<|rS<|rP pc<|rP mv<|rS<|rS<|rS<|rS<|rS<|rP pc<|en k14<|bM D_ rfl<|sr fun _ k17=>rP Y<|en k17<|ac<|tk (ah h hq6) fun h=>by cases ah h hk3;exact rk
   ·refine rP (fa cM ap)<|rX (ld ap)<|rP (eh W_ ap)<|rP bi<|rP pc<|rP mv<|li 22 h (fun c18 h=>?_) fun c18 h=>?_
    ·refine rS<|rS<|rS<|rS<|rS<|rP pc<|en k14<|bM D_ rfl<|sr fun _ k19=>rP Y<|en k19<|ac<|tk (ah h hq6) fun h=>by cases ah h hk3;exact rk
    ·refine rP mv<|rP mv<|gE h fun g20 h=>gE h fun g21 h=>rP (gk (l:=0) (k:=(Int.toNat ep)) W_ bA cM gz (fV W_ (by exact(gh (by omega)))) (by (try simp only[List.length_map]);omega) (by (try simp only[List.length_map]);omega) (by exact nc _ _))<|rP (ix (vs:=[.ptr 4 0 0]) rfl)<|bE h fun x22 y22 h=>rD (cG [] [] [(4,0)] (NH (List.take (Int.toNat ep) a0) x13 y22) NC)<|rP pc<|en k14<|wi 28 h (fun c23 h=>?_) fun c23 h=>?_
     ·refine sr fun _ k24=>rP Y<|en k24<|ac<|tk (ah h hq6) fun h=>by cases ah h hk3;exact rk
     ·refine aq<|k10 _<|aB<|rP bi<|rP mv<|aM<|bk (ra []) ⟨(IntKind.i64.wrap (ep+1)),aI h hq6,rfl⟩
  ·refine bc<|tk (ah h hq6) fun h=>tk (aI h hk3) fun h=>?_
   exact⟨_,ra [],h,rfl⟩
 ·rintro s ⟨h,rfl⟩
  unfold wu at h
  refine sr fun _ k25=>rP mv<|rP (zl bA)<|rP bi<|rP Y<|en k25<|ac<|by cases h;exact rk
def s6 (a0:aL):Option Bool:=
 Option.bind (gL a0.Service) (fun(x3:Bool)=>if x3=true then(Option.bind (gL a0.Op) (fun(x5:Bool)=>if x5=true then(if(decide ((0:Int)≤a0.Start))=true then(if(decide (a0.Start≤1099511627776))=true then(if(decide ((0:Int)≤a0.Dur))=true then(if(decide (a0.Dur≤1073741824))=true then(if(decide ((List.length a0.Attrs:Int)≤4))=true then(Option.bind (wv a0.Attrs) (fun(x12:Bool)=>some x12))else(some false))else(some false))else(some false))else(some false))else(some false))else(some false)))else(some false))
theorem F9 (a0:aL) {r:Bool} (h:s6 a0=some r):Ok Tryz.prog 159 [.agg [.int .u64 a0.Trace.Hi,.int .u64 a0.Trace.Lo,.int .u64 a0.Id,.int .u64 a0.Parent,.str a0.Service,.str a0.Op,.int .i64 a0.Start,.int .i64 a0.Dur,.bool a0.Err,.sl 2 (List.map ce a0.Attrs)]] [] [] (.bool r) [] []:=by
 refine oK Tryz.func159 rfl fun X=>sr fun _ k1=>rD (bY W_ rfl rfl)<|rP Y<|en k1<|sr fun _ k2=>rP (fa aJ ap)<|rX (ld ap)<|bE h fun x3 y3 h=>rD (cz (.bool x3) (kY a0.Service y3) kX)<|rP mv<|li 6 h (fun c4 h=>?_) fun c4 h=>?_
 ·refine rP (fa aJ ap)<|rX (ld ap)<|bE h fun x5 y5 h=>rD (cz (.bool x5) (kY a0.Op y5) kX)<|rP pc<|rP mv<|li 11 h (fun c6 h=>?_) fun c6 h=>?_
  ·refine rP (fa aJ ae)<|rX (ld ae)<|rP bi<|rP pc<|rP mv<|li 16 h (fun c7 h=>?_) fun c7 h=>?_
   ·refine rP (fa aJ ae)<|rX (ld ae)<|rP bi<|rP pc<|rP mv<|li 21 h (fun c8 h=>?_) fun c8 h=>?_
    ·refine rP (fa aJ ae)<|rX (ld ae)<|rP bi<|rP pc<|rP mv<|li 26 h (fun c9 h=>?_) fun c9 h=>?_
     ·refine rP (fa aJ ae)<|rX (ld ae)<|rP bi<|rP pc<|rP mv<|li 31 h (fun c10 h=>?_) fun c10 h=>?_
      ·refine rP (fa aJ bA)<|rX (ld bA)<|rP (zl bA)<|rP bi<|rP pc<|rP mv<|li 37 h (fun c11 h=>?_) fun c11 h=>?_
       ·refine rP (fa aJ bA)<|rX (ld bA)<|bE h fun x12 y12 h=>rD (cz (.bool x12) (NI a0.Attrs y12) NB)<|rP pc<|rP Y<|en k2<|ac<|by cases h;exact rk
       ·refine rS<|rS<|rS<|rP pc<|rP Y<|en k2<|ac<|by cases h;exact rk
      ·refine rS<|rS<|rS<|rS<|rP pc<|rP mv<|rS<|rS<|rS<|rP pc<|rP Y<|en k2<|ac<|by cases h;exact rk
     ·refine rS<|rS<|rS<|rP pc<|rP mv<|rS<|rS<|rS<|rS<|rP pc<|rP mv<|rS<|rS<|rS<|rP pc<|rP Y<|en k2<|ac<|by cases h;exact rk
    ·refine rS<|rS<|rS<|rP pc<|rP mv<|rS<|rS<|rS<|rP pc<|rP mv<|rS<|rS<|rS<|rS<|rP pc<|rP mv<|rS<|rS<|rS<|rP pc<|rP Y<|en k2<|ac<|by cases h;exact rk
   ·refine rS<|rS<|rS<|rP pc<|rP mv<|rS<|rS<|rS<|rP pc<|rP mv<|rS<|rS<|rS<|rP pc<|rP mv<|rS<|rS<|rS<|rS<|rP pc<|rP mv<|rS<|rS<|rS<|rP pc<|rP Y<|en k2<|ac<|by cases h;exact rk
  ·refine rS<|rS<|rS<|rP pc<|rP mv<|rS<|rS<|rS<|rP pc<|rP mv<|rS<|rS<|rS<|rP pc<|rP mv<|rS<|rS<|rS<|rP pc<|rP mv<|rS<|rS<|rS<|rS<|rP pc<|rP mv<|rS<|rS<|rS<|rP pc<|rP Y<|en k2<|ac<|by cases h;exact rk
 ·refine rS<|rS<|rS<|rP pc<|rP mv<|rS<|rS<|rS<|rP pc<|rP mv<|rS<|rS<|rS<|rP pc<|rP mv<|rS<|rS<|rS<|rP pc<|rP mv<|rS<|rS<|rS<|rP pc<|rP mv<|rS<|rS<|rS<|rS<|rP pc<|rP mv<|rS<|rS<|rS<|rP pc<|rP Y<|en k2<|ac<|by cases h;exact rk
def Am (a0:aL):Option Bool:=
 Option.bind (s6 a0) (fun(x3:Bool)=>some (!x3))
theorem NJ (a0:aL) {r:Bool} (h:Am a0=some r):Ok Tryz.prog 158 [.agg [.int .u64 a0.Trace.Hi,.int .u64 a0.Trace.Lo,.int .u64 a0.Id,.int .u64 a0.Parent,.str a0.Service,.str a0.Op,.int .i64 a0.Start,.int .i64 a0.Dur,.bool a0.Err,.sl 2 (List.map ce a0.Attrs)]] [] [] (.bool r) [] []:=by
 refine oK Tryz.func158 rfl fun X=>sr fun _ k1=>rD (bY W_ rfl rfl)<|rP Y<|en k1<|sr fun _ k2=>pl 3 (.agg [.int .u64 a0.Trace.Hi,.int .u64 a0.Trace.Lo,.int .u64 a0.Id,.int .u64 a0.Parent,.str a0.Service,.str a0.Op,.int .i64 a0.Start,.int .i64 a0.Dur,.bool a0.Err,.sl 2 (List.map ce a0.Attrs)]) aJ<|bE h fun x3 y3 h=>rD (cZ (F9 a0 y3) F8)<|rP un<|rP Y<|en k2<|ac<|by cases h;exact rk
def qj (a0:List aL) (aS:Int):Option (Int⊕Int):=
 if(decide (aS<(List.length a0:Int)))=true then(gd (0≤aS) (Option.bind (a0[(Int.toNat aS)]?) (fun(x13:aL)=>Option.bind (Am x13) (fun(x14:Bool)=>if x14=true then(some (Sum.inr aS))else(some (Sum.inl (IntKind.i64.wrap (aS+1))))))))else(some (Sum.inr (-1)))
def ww (a0:List aL):Option Int:=
 am (fun(s:Int)=>qj a0 s) Fu 0
theorem NK (a0:List aL) {r:Int} (h:ww a0=some r):Ok Tryz.prog 171 [.sl 10 (List.map ch a0),.fn 158 []] [] [] (.int .i64 r) [] []:=by
 unfold ww at h
 refine oK Tryz.func171 rfl fun X=>sr fun _ k1=>rP Y<|en k1<|ai fun _ k2=>sr fun _ k3=>rP mv<|rP (zl bN)<|rP mv<|en k3<|ax<|bv (fun m s=>∃(aS:Int),am (fun(s:Int)=>qj a0 s) m aS=some r∧s=lit [(0,.sl 10 (List.map ch a0)),(1,.fn 158 []),(7,.int .i64 (List.length a0:Int)),(8,.int .i64 aS)] [] [] X) Fu
  ⟨_,ra [],0,h,rfl⟩ ?_
 rintro m s ⟨aS,h,rfl⟩
 obtain⟨m0,q4,rfl,h,hq5⟩:=bu h
 replace h:qj a0 aS=some q4:=h
 refine sr fun _ k6=>rP bi<|en k6<|ai fun _ k7=>wi 9 h (fun c8 h=>?_) fun c8 h=>?_
 ·refine aq<|k7 _<|ai fun _ k9=>ax<|sr fun _ k10=>rP mv<|rP Y<|en k10<|sr fun _ k11=>rP mv<|rP mv<|rP mv<|gE h fun g12 h=>bE h fun x13 y13 h=>rP (ia bN aJ g12 y13)<|pl 15 (.agg [.int .u64 x13.Trace.Hi,.int .u64 x13.Trace.Lo,.int .u64 x13.Id,.int .u64 x13.Parent,.str x13.Service,.str x13.Op,.int .i64 x13.Start,.int .i64 x13.Dur,.bool x13.Err,.sl 2 (List.map ce x13.Attrs)]) aJ<|bE h fun x14 y14 h=>rD (cZ (NJ x13 y14) Nz)<|en k11<|wi 16 h (fun c15 h=>?_) fun c15 h=>?_
  ·refine sr fun _ k16=>rP mv<|rP Y<|en k16<|ac<|by cases ah h hq5;exact rk
  ·refine aq<|k9 _<|aB<|rP bi<|rP mv<|aM<|bk (ra []) ⟨(IntKind.i64.wrap (aS+1)),aI h hq5,rfl⟩
 ·refine bc<|tk (ah h hq5) fun h=>k2 _<|sr fun _ k17=>rP Y<|en k17<|ac<|by cases h;exact rk
def An (a0:List aL):Option Bool:=
 Option.bind (ww a0) (fun(x3:Int)=>some (decide ((0:Int)≤x3)))
theorem NL (a0:List aL) {r:Bool} (h:An a0=some r):Ok Tryz.prog 157 [.sl 10 (List.map ch a0),.fn 158 []] [] [] (.bool r) [] []:=by
 refine oK Tryz.func157 rfl fun X=>sr fun _ k1=>rP Y<|en k1<|sr fun _ k2=>rP mv<|rP mv<|bE h fun x3 y3 h=>rD (cZ (NK a0 y3) NA)<|rP bi<|rP Y<|en k2<|ac<|by cases h;exact rk
def wx (a0:List aL):Option Bool:=
 Option.bind (An a0) (fun(x3:Bool)=>some (!x3))
theorem NM (a0:List aL) {r:Bool} (h:wx a0=some r):Ok Tryz.prog 127 [.sl 10 (List.map ch a0)] [] [] (.bool r) [] []:=by
 refine oK Tryz.func127 rfl fun X=>sr fun _ k1=>rP Y<|en k1<|sr fun _ k2=>rP mv<|bE h fun x3 y3 h=>rD (cZ (NL a0 y3) Ny)<|rP un<|rP Y<|en k2<|ac<|by cases h;exact rk
def s7 (a1:aL) (cf:List UInt8) (lh:Int):Option ((List UInt8×Int)⊕aE):=
 if(decide (lh<(List.length a1.Attrs:Int)))=true then(gd (0≤lh) (Option.bind (a1.Attrs[(Int.toNat lh)]?) (fun(x21:bf)=>Option.bind (lQ (aE.mk cf) [x21.Key,x21.Value]) (fun(x22:aE)=>some (Sum.inl (x22.B,(IntKind.i64.wrap (lh+1))))))))else(some (Sum.inr (aE.mk cf)))
def wy (a0:aE) (a1:aL):Option aE:=
 Option.bind (mN a0 [a1.Trace.Hi,a1.Trace.Lo,a1.Id,a1.Parent]) (fun(x3:aE)=>Option.bind (lQ x3 [a1.Service,a1.Op]) (fun(x5:aE)=>Option.bind (em x5 [a1.Start,a1.Dur]) (fun(x7:aE)=>Option.bind (qb x7 a1.Err) (fun(x9:aE)=>Option.bind (em x9 [(List.length a1.Attrs:Int)]) (fun(x11:aE)=>am (fun(s:List UInt8×Int)=>s7 a1 s.1 s.2) Fu (x11.B,0))))))
theorem NN (a0:aE) (a1:aL) {r:aE} (h:wy a0 a1=some r):Ok Tryz.prog 145 [.ptr 0 0 0,.agg [.int .u64 a1.Trace.Hi,.int .u64 a1.Trace.Lo,.int .u64 a1.Id,.int .u64 a1.Parent,.str a1.Service,.str a1.Op,.int .i64 a1.Start,.int .i64 a1.Dur,.bool a1.Err,.sl 2 (List.map ce a1.Attrs)]] [[.own 1 0]] [(5,1,List.map ag a0.B)] (.tup []) [[.own 2 0]] [(5,1,List.map ag r.B)]:=by
 refine oK Tryz.func145 rfl fun X=>sr fun _ k1=>rD (bY W_ rfl rfl)<|en k1<|sr fun _ k2=>rP mv<|rP (fa aJ bX)<|rP (fa bX bd)<|rX (ld bd)<|rP (fa aJ bX)<|rP (fa bX bd)<|rX (ld bd)<|rP (fa aJ bd)<|rX (ld bd)<|rP (fa aJ bd)<|rX (ld bd)<|rD (bs (List.map lO [a1.Trace.Hi,a1.Trace.Lo,a1.Id,a1.Parent]) n6 bd rfl)<|bE h fun x3 y3 h=>rD (db (d:=17) (n:=0) W_ (cG [(0,0)] [(1,0)] [(17,0)] (sS a0 [a1.Trace.Hi,a1.Trace.Lo,a1.Id,a1.Parent] y3) sQ (.inl ⟨⟨_,_,_,rfl⟩,trivial⟩)))<|en k2<|sr fun _ k4=>rP mv<|rP (fa aJ ap)<|rX (ld ap)<|rP (fa aJ ap)<|rX (ld ap)<|rD (bs (List.map mL [a1.Service,a1.Op]) mM ap rfl)<|bE h fun x5 y5 h=>rD (db (d:=24) (n:=0) W_ (cG [(0,0)] [(18,0)] [(24,0)] (qa x3 [a1.Service,a1.Op] y5) qh (.inl ⟨⟨_,_,_,rfl⟩,trivial⟩)))<|en k4<|sr fun _ k6=>rP mv<|rP (fa aJ ae)<|rX (ld ae)<|rP (fa aJ ae)<|rX (ld ae)<|rD (bs (List.map cH [a1.Start,a1.Dur]) da ae rfl)<|bE h fun x7 y7 h=>rD (db (d:=31) (n:=0) W_ (cG [(0,0)] [(25,0)] [(31,0)] (eX x5 [a1.Start,a1.Dur] y7) eW (.inl ⟨⟨_,_,_,rfl⟩,trivial⟩)))<|en k6<|sr fun _ k8=>rP mv<|rP (fa aJ aN)<|rX (ld aN)<|bE h fun x9 y9 h=>rD (cG [(0,0)] [(32,0)] [] (Aa x7 a1.Err y9) Ak (.inl trivial))<|en k8<|sr fun _ k10=>rP mv<|rP (fa aJ bA)<|rX (ld bA)<|rP (zl bA)<|rD (bs (List.map cH [(List.length a1.Attrs:Int)]) da ae rfl)<|bE h fun x11 y11 h=>rD (db (d:=41) (n:=0) W_ (cG [(0,0)] [(36,0)] [(41,0)] (eX x9 [(List.length a1.Attrs:Int)] y11) eW (.inl ⟨⟨_,_,_,rfl⟩,trivial⟩)))<|en k10<|sr fun _ k12=>rP (fa aJ bA)<|rX (ld bA)<|rP (zl bA)<|rP mv<|en k12<|ax<|bv (fun m s=>∃(cf:List UInt8),∃(lh:Int),am (fun(s:List UInt8×Int)=>s7 a1 s.1 s.2) m (cf,lh)=some r∧s=lit [(0,.ptr 0 0 0),(44,.sl 2 (List.map ce a1.Attrs)),(45,.int .i64 (List.length a1.Attrs:Int)),(46,.int .i64 lh)] [((0,0),.box [.own 42 0]),((42,0),.arr 5 1 false (List.map ag cf))] [(0,1),(42,1)] X) Fu
  ⟨_,ra [(0,0),(42,0)],x11.B,0,h,rfl⟩ ?_
 rintro m s ⟨cf,lh,h,rfl⟩
 obtain⟨m0,q13,rfl,h,hq14⟩:=bu h
 replace h:s7 a1 cf lh=some q13:=h
 refine sr fun _ k15=>rP bi<|en k15<|ai fun _ k16=>wi 47 h (fun c17 h=>?_) fun c17 h=>?_
 ·refine aq<|k16 _<|ai fun _ k18=>ax<|sr fun _ k19=>gE h fun g20 h=>bE h fun x21 y21 h=>rP (ia bA cM g20 y21)<|pl 49 (.agg [.str x21.Key,.str x21.Value]) cM<|rD (nw cM)<|pZ (aA [.str x21.Key,.str x21.Value] cM)<|en k19<|aB<|rP mv<|rP (fa cM ap)<|rX (ld ap)<|rP (fa cM ap)<|rX (ld ap)<|rD (bs (List.map mL [x21.Key,x21.Value]) mM ap rfl)<|bE h fun x22 y22 h=>rD (db (d:=55) (n:=0) W_ (cG [(0,0)] [(42,0)] [(55,0)] (qa (aE.mk cf) [x21.Key,x21.Value] y22) qh (.inl ⟨⟨_,_,_,rfl⟩,trivial⟩)))<|en k18<|aB<|rP bi<|rP mv<|aM<|bk (ra [(0,0),(56,0)]) ⟨x22.B,(IntKind.i64.wrap (lh+1)),aI h hq14,rfl⟩
 ·refine bc<|by cases ah h hq14;exact rB [(42,0)]
def gv (x24:Int×Z) (dq:List UInt8) (di:Bool) (dQ:List bf) (mW:Int):Option ((List UInt8×Bool×List bf×Int)⊕(List UInt8×Bool×List bf)):=
 if(decide (mW<x24.1))=true then(Option.bind (ew (Z.mk dq di)) (fun(x32:ByteArray×Z)=>Option.bind (ew x32.2) (fun(x33:ByteArray×Z)=>gd ((List.length (dQ++[(bf.mk x32.1 x33.1)]))*32≤140737488355328∧(List.length (dQ++[(bf.mk x32.1 x33.1)]))≤140737488355328) (some (Sum.inl (x33.2.B,x33.2.Bad,(dQ++[(bf.mk x32.1 x33.1)]),(IntKind.i64.wrap (mW+1))))))))else(some (Sum.inr (dq,di,dQ)))
def s8 (x4:Int×Z) (x6:Int×Z) (x8:Int×Z) (x10:Int×Z) (x12:ByteArray×Z) (x14:ByteArray×Z) (x16:Int×Z) (x18:Int×Z) (x20:Bool×Z) (aW:List UInt8) (aX:Bool) (ge:List bf):Option (aL×Z):=
 if aX=true then(some ((aL.mk (Trace.mk x4.1 x6.1) x8.1 x10.1 x12.1 x14.1 x16.1 x18.1 x20.1 ge),(Z.mk aW true)))else(Option.bind (s6 (aL.mk (Trace.mk x4.1 x6.1) x8.1 x10.1 x12.1 x14.1 x16.1 x18.1 x20.1 ge)) (fun(x38:Bool)=>some ((aL.mk (Trace.mk x4.1 x6.1) x8.1 x10.1 x12.1 x14.1 x16.1 x18.1 x20.1 ge),(Z.mk aW (!x38)))))
def eF (a0:Z):Option (aL×Z):=
 Option.bind (fF a0) (fun(x4:Int×Z)=>Option.bind (fF x4.2) (fun(x6:Int×Z)=>Option.bind (fF x6.2) (fun(x8:Int×Z)=>Option.bind (fF x8.2) (fun(x10:Int×Z)=>Option.bind (ew x10.2) (fun(x12:ByteArray×Z)=>Option.bind (ew x12.2) (fun(x14:ByteArray×Z)=>Option.bind (cE x14.2 1099511627776) (fun(x16:Int×Z)=>Option.bind (cE x16.2 1073741824) (fun(x18:Int×Z)=>Option.bind (ji x18.2) (fun(x20:Bool×Z)=>Option.bind (Option.bind (cE x20.2 4) (fun(x24:Int×Z)=>am (fun(s:List UInt8×Bool×List bf×Int)=>gv x24 s.1 s.2.1 s.2.2.1 s.2.2.2) Fu (x24.2.B,x24.2.Bad,[],0))) (fun(s:List UInt8×Bool×List bf)=>s8 x4 x6 x8 x10 x12 x14 x16 x18 x20 s.1 s.2.1 s.2.2))))))))))
theorem NO (a0:Z) {r:aL×Z} (h:eF a0=some r):Ok Tryz.prog 170 [.ptr 0 0 0] [[.sl 1 (List.map ag a0.B),.bool a0.Bad]] [] (.agg [.int .u64 r.1.Trace.Hi,.int .u64 r.1.Trace.Lo,.int .u64 r.1.Id,.int .u64 r.1.Parent,.str r.1.Service,.str r.1.Op,.int .i64 r.1.Start,.int .i64 r.1.Dur,.bool r.1.Err,.own 2 0]) [[.sl 1 (List.map ag r.2.B),.bool r.2.Bad]] [(182,2,List.map ce r.1.Attrs)]:=by
 refine oK Tryz.func170 rfl fun X=>sr fun _ k1=>rD (nw aJ)<|en k1<|sr fun _ k2=>rD (nw aJ)<|en k2<|sr fun _ k3=>rP mv<|bE h fun x4 y4 h=>rD (cG [(0,0)] [] [] (lR a0 y4) lP (.inl trivial))<|rP (fa aJ bX)<|rP (fa bX bd)<|pZ (aA [.int .u64 x4.1,.int .u64 0,.int .u64 0,.int .u64 0,.str (aa []),.str (aa []),.int .i64 0,.int .i64 0,.bool false,.nil] bd)<|en k3<|sr fun _ k5=>rP mv<|bE h fun x6 y6 h=>rD (cG [(0,0)] [] [] (lR x4.2 y6) lP (.inl trivial))<|rP (fa aJ bX)<|rP (fa bX bd)<|pZ (aA [.int .u64 x4.1,.int .u64 x6.1,.int .u64 0,.int .u64 0,.str (aa []),.str (aa []),.int .i64 0,.int .i64 0,.bool false,.nil] bd)<|en k5<|sr fun _ k7=>rP mv<|bE h fun x8 y8 h=>rD (cG [(0,0)] [] [] (lR x6.2 y8) lP (.inl trivial))<|rP (fa aJ bd)<|pZ (aA [.int .u64 x4.1,.int .u64 x6.1,.int .u64 x8.1,.int .u64 0,.str (aa []),.str (aa []),.int .i64 0,.int .i64 0,.bool false,.nil] bd)<|en k7<|sr fun _ k9=>rP mv<|bE h fun x10 y10 h=>rD (cG [(0,0)] [] [] (lR x8.2 y10) lP (.inl trivial))<|rP (fa aJ bd)<|pZ (aA [.int .u64 x4.1,.int .u64 x6.1,.int .u64 x8.1,.int .u64 x10.1,.str (aa []),.str (aa []),.int .i64 0,.int .i64 0,.bool false,.nil] bd)<|en k9<|sr fun _ k11=>rP mv<|bE h fun x12 y12 h=>rD (cG [(0,0)] [] [] (jh x10.2 y12) jn (.inl trivial))<|rP (fa aJ ap)<|pZ (aA [.int .u64 x4.1,.int .u64 x6.1,.int .u64 x8.1,.int .u64 x10.1,.str x12.1,.str (aa []),.int .i64 0,.int .i64 0,.bool false,.nil] ap)<|en k11<|sr fun _ k13=>rP mv<|bE h fun x14 y14 h=>rD (cG [(0,0)] [] [] (jh x12.2 y14) jn (.inl trivial))<|rP (fa aJ ap)<|pZ (aA [.int .u64 x4.1,.int .u64 x6.1,.int .u64 x8.1,.int .u64 x10.1,.str x12.1,.str x14.1,.int .i64 0,.int .i64 0,.bool false,.nil] ap)<|en k13<|sr fun _ k15=>rP mv<|bE h fun x16 y16 h=>rD (cG [(0,0)] [] [] (eL x14.2 1099511627776 y16) eK (.inl trivial))<|rP (fa aJ ae)<|pZ (aA [.int .u64 x4.1,.int .u64 x6.1,.int .u64 x8.1,.int .u64 x10.1,.str x12.1,.str x14.1,.int .i64 x16.1,.int .i64 0,.bool false,.nil] ae)<|en k15<|sr fun _ k17=>rP mv<|bE h fun x18 y18 h=>rD (cG [(0,0)] [] [] (eL x16.2 1073741824 y18) eK (.inl trivial))<|rP (fa aJ ae)<|pZ (aA [.int .u64 x4.1,.int .u64 x6.1,.int .u64 x8.1,.int .u64 x10.1,.str x12.1,.str x14.1,.int .i64 x16.1,.int .i64 x18.1,.bool false,.nil] ae)<|en k17<|sr fun _ k19=>rP mv<|bE h fun x20 y20 h=>rD (cG [(0,0)] [] [] (Af x18.2 y20) Al (.inl trivial))<|rP (fa aJ aN)<|pZ (aA [.int .u64 x4.1,.int .u64 x6.1,.int .u64 x8.1,.int .u64 x10.1,.str x12.1,.str x14.1,.int .i64 x16.1,.int .i64 x18.1,.bool x20.1,.nil] aN)<|en k19<|bE h fun q21 h hk22=>bx (fun s=>∃(aW:List UInt8),∃(aX:Bool),∃(ge:List bf),s8 x4 x6 x8 x10 x12 x14 x16 x18 x20 aW aX ge=some r∧s=lit [(0,.ptr 0 0 0),(2,.ptr 2 0 0),(3,.ptr 3 0 0)] [((0,0),.box [.sl 1 (List.map ag aW),.bool aX]),((2,0),.box [.int .u64 0,.int .u64 0,.int .u64 0,.int .u64 0,.str (aa []),.str (aa []),.int .i64 0,.int .i64 0,.bool false,.nil]),((3,0),.box [.int .u64 x4.1,.int .u64 x6.1,.int .u64 x8.1,.int .u64 x10.1,.str x12.1,.str x14.1,.int .i64 x16.1,.int .i64 x18.1,.bool x20.1,.own 3 1]),((3,1),.arr 182 2 false (List.map ce ge))] [(0,1),(2,1),(3,2)] X) ?_ ?_
 ·skip
  refine sr fun _ k23=>rP mv<|bE h fun x24 y24 h=>rD (cG [(0,0)] [] [] (eL x20.2 4 y24) eK (.inl trivial))<|rP mv<|en k23<|ax<|iY 3 0 9 3 182 2 (cs:=[.int .u64 x4.1,.int .u64 x6.1,.int .u64 x8.1,.int .u64 x10.1,.str x12.1,.str x14.1,.int .i64 x16.1,.int .i64 x18.1,.bool x20.1,.nil]) R_ rfl D_<|bv (fun m s=>∃(dq:List UInt8),∃(di:Bool),∃(dQ:List bf),∃(mW:Int),am (fun(s:List UInt8×Bool×List bf×Int)=>gv x24 s.1 s.2.1 s.2.2.1 s.2.2.2) m (dq,di,dQ,mW)=some q21∧s=lit [(0,.ptr 0 0 0),(2,.ptr 2 0 0),(3,.ptr 3 0 0),(35,.int .i64 x24.1),(36,.int .i64 mW)] [((0,0),.box [.sl 1 (List.map ag dq),.bool di]),((2,0),.box [.int .u64 0,.int .u64 0,.int .u64 0,.int .u64 0,.str (aa []),.str (aa []),.int .i64 0,.int .i64 0,.bool false,.nil]),((3,0),.box [.int .u64 x4.1,.int .u64 x6.1,.int .u64 x8.1,.int .u64 x10.1,.str x12.1,.str x14.1,.int .i64 x16.1,.int .i64 x18.1,.bool x20.1,.own 3 1]),((3,1),.arr 182 2 false (List.map ce dQ))] [(0,1),(2,1),(3,2)] X) Fu
   ⟨_,ra [(0,0),(2,0),(3,0),(3,1)],x24.2.B,x24.2.Bad,[],0,h,rfl⟩ ?_
  rintro m s ⟨dq,di,dQ,mW,h,rfl⟩
  obtain⟨m1,q25,rfl,h,hq26⟩:=bu h
  replace h:gv x24 dq di dQ mW=some q25:=h
  refine sr fun _ k27=>rP bi<|en k27<|ai fun _ k28=>wi 37 h (fun c29 h=>?_) fun c29 h=>?_
  ·refine aq<|k28 _<|ai fun _ k30=>ax<|sr fun _ k31=>rP mv<|bE h fun x32 y32 h=>rD (cG [(0,0)] [] [] (jh (Z.mk dq di) y32) jn (.inl trivial))<|rP Y<|en k31<|cD (by kernel_rfl) (by decide +kernel)<|tP (fa aJ bA)<|tR (ld bA)<|tP mv<|tP mv<|bE h fun x33 y33 h=>tD (cG [(0,0)] [] [] (jh x32.2 y33) jn (.inl trivial))<|tP (cP (cs:=[.str x32.1,.str x33.1]) cM rfl [⟨.str,1,16,[.str ByteArray.empty]⟩,⟨.str,1,16,[.str ByteArray.empty]⟩] (by simp only[List.map,ap]) (by rfl) R_)<|tD (bs (List.map ce [(bf.mk x32.1 x33.1)]) bA cM rfl)<|gE h fun g34 h=>tD (dw (v:=List.map ce (dQ++[(bf.mk x32.1 x33.1)])) W_ W_ bA cM rfl rfl W_ (by first | exact .inl rfl | exact .inr ⟨rfl,rfl⟩) W_ (by first | exact .inr rfl | exact .inl rfl) (dL _ _) (dv g34))<|tP (fa aJ bA)<|gj none rfl rfl (gm (cs':=[.int .u64 x4.1,.int .u64 x6.1,.int .u64 x8.1,.int .u64 x10.1,.str x12.1,.str x14.1,.int .i64 x16.1,.int .i64 x18.1,.bool x20.1,.own 47 0]) W_ W_ W_ bA rfl rfl rfl R_) D_<|cc (by kernel_rfl)<|k30 _<|aB<|rP bi<|rP mv<|aM<|bk (ra [(0,0),(2,0),(3,0),(47,0)]) ⟨x33.2.B,x33.2.Bad,(dQ++[(bf.mk x32.1 x33.1)]),(IntKind.i64.wrap (mW+1)),aI h hq26,rfl⟩
  ·refine bc<|tk (ah h hq26) fun h=>?_
   obtain rfl:=Option.some.inj h
   have h:=hk22
   exact⟨_,ra [(0,0),(2,0),(3,0),(3,1)],dq,di,dQ,h,rfl⟩
 ·rintro s ⟨aW,aX,ge,h,rfl⟩
  refine sr fun _ k35=>rP mv<|rP mv<|rP nk<|rP (fa cQ aN)<|rX (ld aN)<|rP mv<|li 55 h (fun c36 h=>?_) fun c36 h=>?_
  ·refine rS<|rS<|rS<|rP pc<|rP nk<|rP (fa cQ aN)<|pZ (aA [.sl 1 (List.map ag aW),.bool true] aN)<|en k35<|sr fun _ k37=>pl 62 (.agg [.int .u64 x4.1,.int .u64 x6.1,.int .u64 x8.1,.int .u64 x10.1,.str x12.1,.str x14.1,.int .i64 x16.1,.int .i64 x18.1,.bool x20.1,.own 3 1]) aJ<|pZ (aA [.int .u64 x4.1,.int .u64 x6.1,.int .u64 x8.1,.int .u64 x10.1,.str x12.1,.str x14.1,.int .i64 x16.1,.int .i64 x18.1,.bool x20.1,.own 3 1] aJ)<|en k37<|ac<|by cases h;exact rB [(3,1)]
  ·refine pl 56 (.agg [.int .u64 x4.1,.int .u64 x6.1,.int .u64 x8.1,.int .u64 x10.1,.str x12.1,.str x14.1,.int .i64 x16.1,.int .i64 x18.1,.bool x20.1,.own 3 1]) aJ<|bE h fun x38 y38 h=>rD (cG [] [] [(3,1)] (F9 (aL.mk (Trace.mk x4.1 x6.1) x8.1 x10.1 x12.1 x14.1 x16.1 x18.1 x20.1 ge) y38) F8)<|rP un<|rP pc<|rP nk<|rP (fa cQ aN)<|pZ (aA [.sl 1 (List.map ag aW),.bool (!x38)] aN)<|en k35<|sr fun _ k39=>pl 62 (.agg [.int .u64 x4.1,.int .u64 x6.1,.int .u64 x8.1,.int .u64 x10.1,.str x12.1,.str x14.1,.int .i64 x16.1,.int .i64 x18.1,.bool x20.1,.own 3 1]) aJ<|pZ (aA [.int .u64 x4.1,.int .u64 x6.1,.int .u64 x8.1,.int .u64 x10.1,.str x12.1,.str x14.1,.int .i64 x16.1,.int .i64 x18.1,.bool x20.1,.own 3 1] aJ)<|en k39<|ac<|by cases h;exact rB [(3,1)]
end Go.Proofs.YtjklegmimpehlaaGreat.Ab
namespace Go.Proofs.YtjklegmimpehlaaGreat.Ab
open Go Go.RowKit
set_option linter.unusedVariables false
set_option linter.unusedSimpArgs false
set_option maxRecDepth 100000
set_option maxHeartbeats 8000000
theorem dF:aF Tryz.prog 44:=eN Tryz.func44
theorem jo:aF Tryz.prog 48:=eN Tryz.func48
theorem Ao:aF Tryz.prog 66:=eN Tryz.func66
theorem jp:aF Tryz.prog 67:=eN Tryz.func67
theorem Ga:aF Tryz.prog 82:=eN Tryz.func82
theorem kZ:aF Tryz.prog 84:=eN Tryz.func84
def gb (a0:Int) (a1:Int) (a2:Int):Option Bool:=
 if(decide (a1≤a0))=true then(some (decide (a0≤a2)))else(some false)
theorem la (a0:Int) (a1:Int) (a2:Int) {r:Bool} (h:gb a0 a1 a2=some r):Ok Tryz.prog 84 [.int .i64 a0,.int .i64 a1,.int .i64 a2] [] [] (.bool r) [] []:=by
 refine oK Tryz.func84 rfl fun X=>sr fun _ k1=>rP Y<|en k1<|sr fun _ k2=>rP mv<|rP mv<|rP bi<|rP mv<|li 10 h (fun c3 h=>?_) fun c3 h=>?_
 ·refine rP mv<|rP mv<|rP bi<|rP pc<|rP Y<|en k2<|ac<|by cases h;exact rk
 ·refine rS<|rS<|rS<|rP pc<|rP Y<|en k2<|ac<|by cases h;exact rk
def oe (a0:aL) (ck:Int) (ff:Int):Option (Int⊕(Int⊕Bool)):=
 if(decide (ff<ck))=true then(gd (0≤ff) (Option.bind (a0.Attrs[(Int.toNat ff)]?) (fun(x48:bf)=>gd (0≤ck) (Option.bind (a0.Attrs[(Int.toNat ck)]?) (fun(x50:bf)=>if(ByteArray.toList x48.Key == ByteArray.toList x50.Key)=true then(some (Sum.inr (Sum.inr false)))else(some (Sum.inl (IntKind.i64.wrap (ff+1)))))))))else(some (Sum.inr (Sum.inl (IntKind.i64.wrap (ck+1)))))
def s9 (a0:aL) (ck:Int):Option (Int⊕Bool):=
 am (fun(s:Int)=>oe a0 ck s) Fu 0
def og (a0:aL) (ck:Int):Option (Int⊕Bool):=
 if(decide (ck<(List.length a0.Attrs:Int)))=true then(Option.bind (gd (0≤ck) (Option.bind (a0.Attrs[(Int.toNat ck)]?) (fun(x31:bf)=>Option.bind (gb (ByteArray.size x31.Key:Int) 1 16) (fun(x32:Bool)=>if(!x32)=true then(some (Sum.inr (Sum.inr false)))else(gd (0≤ck) (Option.bind (a0.Attrs[(Int.toNat ck)]?) (fun(x36:bf)=>if(decide ((16:Int)<(ByteArray.size x36.Value:Int)))=true then(some (Sum.inr (Sum.inr false)))else(some (Sum.inl ()))))))))) (Sum.elim (fun(s:Unit)=>s9 a0 ck) some))else(some (Sum.inr true))
def wz (a0:aL):Option Bool:=
 am (fun(s:Int)=>og a0 s) Fu 0
def ta (a0:aL):Option Bool:=
 Option.bind (Option.bind (gb (ByteArray.size a0.Service:Int) 1 16) (fun(x5:Bool)=>if(!x5)=true then(some (Sum.inr false))else(Option.bind (gb (ByteArray.size a0.Op:Int) 1 16) (fun(x8:Bool)=>if(!x8)=true then(some (Sum.inr false))else(Option.bind (gb a0.Start 0 1099511627776) (fun(x11:Bool)=>if(!x11)=true then(some (Sum.inr false))else(Option.bind (gb a0.Dur 0 1073741824) (fun(x14:Bool)=>if(!x14)=true then(some (Sum.inr false))else(if(decide ((4:Int)<(List.length a0.Attrs:Int)))=true then(some (Sum.inr false))else(some (Sum.inl ()))))))))))) (Sum.elim (fun(s:Unit)=>wz a0) some)
theorem Gb (a0:aL) {r:Bool} (h:ta a0=some r):Ok Tryz.prog 82 [.agg [.int .u64 a0.Trace.Hi,.int .u64 a0.Trace.Lo,.int .u64 a0.Id,.int .u64 a0.Parent,.str a0.Service,.str a0.Op,.int .i64 a0.Start,.int .i64 a0.Dur,.bool a0.Err,.sl 2 (List.map ce a0.Attrs)]] [] [] (.bool r) [] []:=by
 refine oK Tryz.func82 rfl fun X=>sr fun _ k1=>rD (bY W_ rfl rfl)<|rP Y<|en k1<|bE h fun q2 h hk3=>bx (fun s=>wz a0=some r∧s=lit [(1,.ptr 1 0 0)] [((1,0),.box [.int .u64 a0.Trace.Hi,.int .u64 a0.Trace.Lo,.int .u64 a0.Id,.int .u64 a0.Parent,.str a0.Service,.str a0.Op,.int .i64 a0.Start,.int .i64 a0.Dur,.bool a0.Err,.sl 2 (List.map ce a0.Attrs)])] [(1,1)] X) ?_ ?_
 ·skip
  refine sr fun _ k4=>rP (fa aJ ap)<|rX (ld ap)<|rP (eh W_ ap)<|bE h fun x5 y5 h=>rD (cz (.bool x5) (la (ByteArray.size a0.Service:Int) 1 16 y5) kZ)<|rP un<|rP mv<|li 10 h (fun c6 h=>?_) fun c6 h=>?_
  ·refine rS<|rS<|rS<|rS<|rS<|rP pc<|rP mv<|rS<|rS<|rS<|rS<|rP pc<|rP mv<|rS<|rS<|rS<|rS<|rP pc<|rP mv<|rS<|rS<|rS<|rS<|rP pc<|en k4<|bM D_ rfl<|sr fun _ k7=>rP Y<|en k7<|ac<|by cases ah h hk3;exact rk
  ·refine rP (fa aJ ap)<|rX (ld ap)<|rP (eh W_ ap)<|bE h fun x8 y8 h=>rD (cz (.bool x8) (la (ByteArray.size a0.Op:Int) 1 16 y8) kZ)<|rP un<|rP pc<|rP mv<|li 17 h (fun c9 h=>?_) fun c9 h=>?_
   ·refine rS<|rS<|rS<|rS<|rP pc<|rP mv<|rS<|rS<|rS<|rS<|rP pc<|rP mv<|rS<|rS<|rS<|rS<|rP pc<|en k4<|bM D_ rfl<|sr fun _ k10=>rP Y<|en k10<|ac<|by cases ah h hk3;exact rk
   ·refine rP (fa aJ ae)<|rX (ld ae)<|bE h fun x11 y11 h=>rD (cz (.bool x11) (la a0.Start 0 1099511627776 y11) kZ)<|rP un<|rP pc<|rP mv<|li 23 h (fun c12 h=>?_) fun c12 h=>?_
    ·refine rS<|rS<|rS<|rS<|rP pc<|rP mv<|rS<|rS<|rS<|rS<|rP pc<|en k4<|bM D_ rfl<|sr fun _ k13=>rP Y<|en k13<|ac<|by cases ah h hk3;exact rk
    ·refine rP (fa aJ ae)<|rX (ld ae)<|bE h fun x14 y14 h=>rD (cz (.bool x14) (la a0.Dur 0 1073741824 y14) kZ)<|rP un<|rP pc<|rP mv<|li 29 h (fun c15 h=>?_) fun c15 h=>?_
     ·refine rS<|rS<|rS<|rS<|rP pc<|en k4<|bM D_ rfl<|sr fun _ k16=>rP Y<|en k16<|ac<|by cases ah h hk3;exact rk
     ·refine rP (fa aJ bA)<|rX (ld bA)<|rP (zl bA)<|rP bi<|rP pc<|en k4<|wi 34 h (fun c17 h=>?_) fun c17 h=>?_
      ·refine sr fun _ k18=>rP Y<|en k18<|ac<|by cases ah h hk3;exact rk
      ·refine aq<|tk (aI h hk3) fun h=>?_
       exact⟨_,ra [(1,0)],h,rfl⟩
 ·rintro s ⟨h,rfl⟩
  unfold wz at h
  refine ai fun _ k19=>sr fun _ k20=>rP Y<|en k20<|ax<|bv (fun m s=>∃(ck:Int),am (fun(s:Int)=>og a0 s) m ck=some r∧s=lit [(1,.ptr 1 0 0),(3,.int .i64 ck)] [((1,0),.box [.int .u64 a0.Trace.Hi,.int .u64 a0.Trace.Lo,.int .u64 a0.Id,.int .u64 a0.Parent,.str a0.Service,.str a0.Op,.int .i64 a0.Start,.int .i64 a0.Dur,.bool a0.Err,.sl 2 (List.map ce a0.Attrs)])] [(1,1)] X) Fu
   ⟨_,ra [(1,0)],0,h,rfl⟩ ?_
  rintro m s ⟨ck,h,rfl⟩
  obtain⟨m1,q21,rfl,h,hq22⟩:=bu h
  replace h:og a0 ck=some q21:=h
  refine ai fun _ k23=>sr fun _ k24=>rP mv<|rP (fa aJ bA)<|rX (ld bA)<|rP (zl bA)<|rP bi<|en k24<|wi 39 h (fun c25 h=>?_) fun c25 h=>?_
  ·refine aq<|k23 _<|ai fun _ k26=>ax<|bE h fun q27 h hk28=>bx (fun s=>s9 a0 ck=some q21∧s=lit [(1,.ptr 1 0 0),(3,.int .i64 ck)] [((1,0),.box [.int .u64 a0.Trace.Hi,.int .u64 a0.Trace.Lo,.int .u64 a0.Id,.int .u64 a0.Parent,.str a0.Service,.str a0.Op,.int .i64 a0.Start,.int .i64 a0.Dur,.bool a0.Err,.sl 2 (List.map ce a0.Attrs)])] [(1,1)] X) ?_ ?_
   ·skip
    refine sr fun _ k29=>rP (fa aJ bA)<|rX (ld bA)<|rP mv<|gE h fun g30 h=>bE h fun x31 y31 h=>rP (ia bA cM g30 y31)<|rP (fa cM ap)<|rX (ld ap)<|rP (eh W_ ap)<|bE h fun x32 y32 h=>rD (cZ (la (ByteArray.size x31.Key:Int) 1 16 y32) kZ)<|rP un<|rP mv<|li 51 h (fun c33 h=>?_) fun c33 h=>?_
    ·refine rS<|rS<|rS<|rS<|rS<|rS<|rS<|rS<|rP pc<|en k29<|bM D_ rfl<|sr fun _ k34=>rP Y<|en k34<|ac<|tk (ah h hk28) fun h=>by cases ah h hq22;exact rk
    ·refine rP (fa aJ bA)<|rX (ld bA)<|rP mv<|gE h fun g35 h=>bE h fun x36 y36 h=>rP (ia bA cM g35 y36)<|rP (fa cM ap)<|rX (ld ap)<|rP (eh W_ ap)<|rP bi<|rP pc<|en k29<|wi 60 h (fun c37 h=>?_) fun c37 h=>?_
     ·refine sr fun _ k38=>rP Y<|en k38<|ac<|tk (ah h hk28) fun h=>by cases ah h hq22;exact rk
     ·refine aq<|tk (aI h hk28) fun h=>?_
      exact⟨_,ra [(1,0)],h,rfl⟩
   ·rintro s ⟨h,rfl⟩
    unfold s9 at h
    refine sr fun _ k39=>rP Y<|en k39<|ax<|bv (fun m s=>∃(ff:Int),am (fun(s:Int)=>oe a0 ck s) m ff=some q21∧s=lit [(1,.ptr 1 0 0),(3,.int .i64 ck),(4,.int .i64 ff)] [((1,0),.box [.int .u64 a0.Trace.Hi,.int .u64 a0.Trace.Lo,.int .u64 a0.Id,.int .u64 a0.Parent,.str a0.Service,.str a0.Op,.int .i64 a0.Start,.int .i64 a0.Dur,.bool a0.Err,.sl 2 (List.map ce a0.Attrs)])] [(1,1)] X) Fu
     ⟨_,ra [(1,0)],0,h,rfl⟩ ?_
    rintro m s ⟨ff,h,rfl⟩
    obtain⟨m3,q40,rfl,h,hq41⟩:=bu h
    replace h:oe a0 ck ff=some q40:=h
    refine ai fun _ k42=>sr fun _ k43=>rP mv<|rP mv<|rP bi<|en k43<|wi 63 h (fun c44 h=>?_) fun c44 h=>?_
    ·refine aq<|k42 _<|ai fun _ k45=>ax<|ai fun _ k46=>cD (by kernel_rfl) (by decide +kernel)<|tP (fa aJ bA)<|tR (ld bA)<|tP mv<|gE h fun g47 h=>bE h fun x48 y48 h=>tP (ia bA cM g47 y48)<|tP (fa cM ap)<|tR (ld ap)<|tP (fa aJ bA)<|tR (ld bA)<|tP mv<|gE h fun g49 h=>bE h fun x50 y50 h=>tP (ia bA cM g49 y50)<|tP (fa cM ap)<|tR (ld ap)<|tP bi<|cc (by kernel_rfl)<|k46 _<|wi 78 h (fun c51 h=>?_) fun c51 h=>?_
     ·refine sr fun _ k52=>rP Y<|en k52<|ac<|tk (ah h hq41) fun h=>by cases ah h hq22;exact rk
     ·refine aq<|k45 _<|aB<|rP mv<|rP bi<|rP Y<|aM<|bk (ra [(1,0)]) ⟨(IntKind.i64.wrap (ff+1)),aI h hq41,rfl⟩
    ·refine bc<|tk (ah h hq41) fun h=>k26 _<|aB<|rP mv<|rP bi<|rP Y<|aM<|bk (ra [(1,0)]) ⟨(IntKind.i64.wrap (ck+1)),aI h hq22,rfl⟩
  ·refine bc<|tk (ah h hq22) fun h=>k19 _<|sr fun _ k53=>rP Y<|en k53<|ac<|by cases h;exact rk
def mP (a0:Bool):Option Int:=
 if a0=true then(some 1)else(some 0)
theorem Ap (a0:Bool) {r:Int} (h:mP a0=some r):Ok Tryz.prog 66 [.bool a0] [] [] (.int .u64 r) [] []:=by
 refine oK Tryz.func66 rfl fun X=>sr fun _ k1=>rP Y<|en k1<|ai fun _ k2=>sr fun _ k3=>rP mv<|en k3<|wi 3 h (fun c4 h=>?_) fun c4 h=>?_
 ·refine sr fun _ k5=>rP Y<|en k5<|ac<|by cases h;exact rk
 ·refine aq<|k2 _<|sr fun _ k6=>rP Y<|en k6<|ac<|by cases h;exact rk
def tc (a1:aL) (cA:List UInt8) (au:Int):Option ((List UInt8×Int)⊕(List UInt8)):=
 if(decide (au<(List.length a1.Attrs:Int)))=true then(gd (0≤au) (Option.bind (a1.Attrs[(Int.toNat au)]?) (fun(x26:bf)=>Option.bind (ga cA x26.Key) (fun(x27:List UInt8)=>gd (0≤au) (Option.bind (a1.Attrs[(Int.toNat au)]?) (fun(x29:bf)=>Option.bind (ga x27 x29.Value) (fun(x30:List UInt8)=>some (Sum.inl (x30,(IntKind.i64.wrap (au+1)))))))))))else(some (Sum.inr cA))
def wA (a0:List UInt8) (a1:aL):Option (List UInt8):=
 Option.bind (dm a0 a1.Trace.Hi) (fun(x3:List UInt8)=>Option.bind (dm x3 a1.Trace.Lo) (fun(x4:List UInt8)=>Option.bind (dm x4 a1.Id) (fun(x5:List UInt8)=>Option.bind (dm x5 a1.Parent) (fun(x6:List UInt8)=>Option.bind (ga x6 a1.Service) (fun(x8:List UInt8)=>Option.bind (ga x8 a1.Op) (fun(x9:List UInt8)=>Option.bind (dm x9 (IntKind.u64.wrap a1.Start)) (fun(x11:List UInt8)=>Option.bind (dm x11 (IntKind.u64.wrap a1.Dur)) (fun(x12:List UInt8)=>Option.bind (mP a1.Err) (fun(x13:Int)=>Option.bind (dm x12 x13) (fun(x14:List UInt8)=>Option.bind (dm x14 (IntKind.u64.wrap (List.length a1.Attrs:Int))) (fun(x16:List UInt8)=>am (fun(s:List UInt8×Int)=>tc a1 s.1 s.2) Fu (x16,0))))))))))))
theorem NP (a0:List UInt8) (a1:aL) {r:List UInt8} (h:wA a0 a1=some r):Ok Tryz.prog 165 [.own 1 0,.agg [.int .u64 a1.Trace.Hi,.int .u64 a1.Trace.Lo,.int .u64 a1.Id,.int .u64 a1.Parent,.str a1.Service,.str a1.Op,.int .i64 a1.Start,.int .i64 a1.Dur,.bool a1.Err,.sl 2 (List.map ce a1.Attrs)]] [] [(5,1,List.map ag a0)] (.own 2 0) [] [(5,1,List.map ag r)]:=by
 refine oK Tryz.func165 rfl fun X=>sr fun _ k1=>rD (bY W_ rfl rfl)<|rP Y<|en k1<|ai fun _ k2=>cD (by kernel_rfl) (by decide +kernel)<|tP mv<|tP (fa aJ bX)<|tP (fa bX bd)<|tR (ld bd)<|bE h fun x3 y3 h=>tD (cG [] [(1,0)] [] (d7 a0 a1.Trace.Hi y3) d8 (.inr ⟨rfl,rfl,⟨cr (fun _=>rfl),trivial⟩⟩))<|tP (fa aJ bX)<|tP (fa bX bd)<|tR (ld bd)<|bE h fun x4 y4 h=>tD (cG [] [(10,0)] [] (d7 x3 a1.Trace.Lo y4) d8 (.inr ⟨rfl,rfl,⟨cr (fun _=>rfl),trivial⟩⟩))<|tP (fa aJ bd)<|tR (ld bd)<|bE h fun x5 y5 h=>tD (cG [] [(14,0)] [] (d7 x4 a1.Id y5) d8 (.inr ⟨rfl,rfl,⟨cr (fun _=>rfl),trivial⟩⟩))<|tP (fa aJ bd)<|tR (ld bd)<|bE h fun x6 y6 h=>tD (cG [] [(17,0)] [] (d7 x5 a1.Parent y6) d8 (.inr ⟨rfl,rfl,⟨cr (fun _=>rfl),trivial⟩⟩))<|tP Y<|cc (by kernel_rfl)<|k2 _<|ai fun _ k7=>cD (by kernel_rfl) (by decide +kernel)<|tP mv<|tP (fa aJ ap)<|tR (ld ap)<|bE h fun x8 y8 h=>tD (cG [] [(20,0)] [] (jj x6 a1.Service y8) jp (.inr ⟨rfl,rfl,⟨cr (fun _=>rfl),trivial⟩⟩))<|tP (fa aJ ap)<|tR (ld ap)<|bE h fun x9 y9 h=>tD (cG [] [(24,0)] [] (jj x8 a1.Op y9) jp (.inr ⟨rfl,rfl,⟨cr (fun _=>rfl),trivial⟩⟩))<|tP Y<|cc (by kernel_rfl)<|k7 _<|ai fun _ k10=>cD (by kernel_rfl) (by decide +kernel)<|tP mv<|tP (fa aJ ae)<|tR (ld ae)<|tP (cK (v:=.int .u64 (IntKind.u64.wrap a1.Start)) W_ (cL ae) (cB bd) rfl)<|bE h fun x11 y11 h=>tD (cG [] [(27,0)] [] (d7 x9 (IntKind.u64.wrap a1.Start) y11) d8 (.inr ⟨rfl,rfl,⟨cr (fun _=>rfl),trivial⟩⟩))<|tP (fa aJ ae)<|tR (ld ae)<|tP (cK (v:=.int .u64 (IntKind.u64.wrap a1.Dur)) W_ (cL ae) (cB bd) rfl)<|bE h fun x12 y12 h=>tD (cG [] [(32,0)] [] (d7 x11 (IntKind.u64.wrap a1.Dur) y12) d8 (.inr ⟨rfl,rfl,⟨cr (fun _=>rfl),trivial⟩⟩))<|tP (fa aJ aN)<|tR (ld aN)<|bE h fun x13 y13 h=>tD (cZ (Ap a1.Err y13) Ao)<|bE h fun x14 y14 h=>tD (cG [] [(36,0)] [] (d7 x12 x13 y14) d8 (.inr ⟨rfl,rfl,⟨cr (fun _=>rfl),trivial⟩⟩))<|tP Y<|cc (by kernel_rfl)<|k10 _<|sr fun _ k15=>rP mv<|rP (fa aJ bA)<|rX (ld bA)<|rP (zl bA)<|rP (cK (v:=.int .u64 (IntKind.u64.wrap (List.length a1.Attrs:Int))) W_ (cL ae) (cB bd) rfl)<|bE h fun x16 y16 h=>rD (cG [] [(40,0)] [] (d7 x14 (IntKind.u64.wrap (List.length a1.Attrs:Int)) y16) d8 (.inr ⟨rfl,rfl,⟨cr (fun _=>rfl),trivial⟩⟩))<|rP Y<|en k15<|ai fun _ k17=>sr fun _ k18=>rP Y<|en k18<|ax<|bv (fun m s=>∃(cA:List UInt8),∃(au:Int),am (fun(s:List UInt8×Int)=>tc a1 s.1 s.2) m (cA,au)=some r∧s=lit [(0,.own 46 0),(3,.ptr 3 0 0),(5,.int .i64 au)] [((46,0),.arr 5 1 false (List.map ag cA)),((3,0),.box [.int .u64 a1.Trace.Hi,.int .u64 a1.Trace.Lo,.int .u64 a1.Id,.int .u64 a1.Parent,.str a1.Service,.str a1.Op,.int .i64 a1.Start,.int .i64 a1.Dur,.bool a1.Err,.sl 2 (List.map ce a1.Attrs)])] [(3,1),(46,1)] X) Fu
  ⟨_,ra [(46,0),(3,0)],x16,0,h,rfl⟩ ?_
 rintro m s ⟨cA,au,h,rfl⟩
 obtain⟨m0,q19,rfl,h,hq20⟩:=bu h
 replace h:tc a1 cA au=some q19:=h
 refine ai fun _ k21=>sr fun _ k22=>rP mv<|rP (fa aJ bA)<|rX (ld bA)<|rP (zl bA)<|rP bi<|en k22<|wi 51 h (fun c23 h=>?_) fun c23 h=>?_
 ·refine aq<|k21 _<|ai fun _ k24=>ax<|cD (by kernel_rfl) (by decide +kernel)<|tP mv<|tP (fa aJ bA)<|tR (ld bA)<|tP mv<|gE h fun g25 h=>bE h fun x26 y26 h=>tP (ia bA cM g25 y26)<|tP (fa cM ap)<|tR (ld ap)<|bE h fun x27 y27 h=>tD (cG [] [(46,0)] [] (jj cA x26.Key y27) jp (.inr ⟨rfl,rfl,⟨cr (fun _=>rfl),trivial⟩⟩))<|tP (fa aJ bA)<|tR (ld bA)<|tP mv<|gE h fun g28 h=>bE h fun x29 y29 h=>tP (ia bA cM g28 y29)<|tP (fa cM ap)<|tR (ld ap)<|bE h fun x30 y30 h=>tD (cG [] [(61,0)] [] (jj x27 x29.Value y30) jp (.inr ⟨rfl,rfl,⟨cr (fun _=>rfl),trivial⟩⟩))<|tP Y<|cc (by kernel_rfl)<|k24 _<|aB<|rP mv<|rP bi<|rP Y<|aM<|bk (ra [(68,0),(3,0)]) ⟨x30,(IntKind.i64.wrap (au+1)),aI h hq20,rfl⟩
 ·refine bc<|tk (ah h hq20) fun h=>k17 _<|sr fun _ k31=>rP mv<|rP Y<|en k31<|ac<|by cases h;exact rB [(46,0)]
def td (dq:List UInt8) (di:Bool) (dQ:List bf) (bg:Int):Option ((List UInt8×Bool×List bf×Int)⊕(List UInt8×Bool×List bf)):=
 Option.bind (eo (Z.mk dq di)) (fun(x26:ByteArray×Z)=>Option.bind (eo x26.2) (fun(x27:ByteArray×Z)=>gd ((List.length (dQ++[(bf.mk x26.1 x27.1)]))*32≤140737488355328∧(List.length (dQ++[(bf.mk x26.1 x27.1)]))≤140737488355328) (some (Sum.inl (x27.2.B,x27.2.Bad,(dQ++[(bf.mk x26.1 x27.1)]),(IntKind.i64.wrap (bg+1)))))))
def gM (x14:Int×Z) (dq:List UInt8) (di:Bool) (dQ:List bf) (bg:Int):Option ((List UInt8×Bool×List bf×Int)⊕(List UInt8×Bool×List bf)):=
 Option.bind (if(decide (bg<x14.1))=true then(if(!di)=true then(some (Sum.inl ()))else(some (Sum.inr (Sum.inr (dq,di,dQ)))))else(some (Sum.inr (Sum.inr (dq,di,dQ))))) (Sum.elim (fun(s:Unit)=>td dq di dQ bg) some)
def tf (x3:Int×Z) (x4:Int×Z) (x5:Int×Z) (x6:Int×Z) (x7:ByteArray×Z) (x8:ByteArray×Z) (x9:Int×Z) (x10:Int×Z) (x12:Int×Z) (aW:List UInt8) (aX:Bool) (ge:List bf):Option (aL×Z):=
 if aX=true then(some ((aL.mk (Trace.mk x3.1 x4.1) x5.1 x6.1 x7.1 x8.1 x9.1 x10.1 (x12.1 == 1) ge),(Z.mk aW true)))else(Option.bind (ta (aL.mk (Trace.mk x3.1 x4.1) x5.1 x6.1 x7.1 x8.1 x9.1 x10.1 (x12.1 == 1) ge)) (fun(x32:Bool)=>some ((aL.mk (Trace.mk x3.1 x4.1) x5.1 x6.1 x7.1 x8.1 x9.1 x10.1 (x12.1 == 1) ge),(Z.mk aW (!x32)))))
def eO (a0:Z):Option (aL×Z):=
 Option.bind (eM a0) (fun(x3:Int×Z)=>Option.bind (eM x3.2) (fun(x4:Int×Z)=>Option.bind (eM x4.2) (fun(x5:Int×Z)=>Option.bind (eM x5.2) (fun(x6:Int×Z)=>Option.bind (eo x6.2) (fun(x7:ByteArray×Z)=>Option.bind (eo x7.2) (fun(x8:ByteArray×Z)=>Option.bind (bR x8.2 1099511627776) (fun(x9:Int×Z)=>Option.bind (bR x9.2 1073741824) (fun(x10:Int×Z)=>Option.bind (bR x10.2 1) (fun(x12:Int×Z)=>Option.bind (bR x12.2 4) (fun(x14:Int×Z)=>Option.bind (am (fun(s:List UInt8×Bool×List bf×Int)=>gM x14 s.1 s.2.1 s.2.2.1 s.2.2.2) Fu (x14.2.B,x14.2.Bad,[],0)) (fun(s:List UInt8×Bool×List bf)=>tf x3 x4 x5 x6 x7 x8 x9 x10 x12 s.1 s.2.1 s.2.2)))))))))))
theorem NQ (a0:Z) {r:aL×Z} (h:eO a0=some r):Ok Tryz.prog 153 [.ptr 0 0 0] [[.sl 1 (List.map ag a0.B),.bool a0.Bad]] [] (.agg [.int .u64 r.1.Trace.Hi,.int .u64 r.1.Trace.Lo,.int .u64 r.1.Id,.int .u64 r.1.Parent,.str r.1.Service,.str r.1.Op,.int .i64 r.1.Start,.int .i64 r.1.Dur,.bool r.1.Err,.own 2 0]) [[.sl 1 (List.map ag r.2.B),.bool r.2.Bad]] [(182,2,List.map ce r.1.Attrs)]:=by
 refine oK Tryz.func153 rfl fun X=>sr fun _ k1=>rD (nw aJ)<|en k1<|sr fun _ k2=>rP mv<|bE h fun x3 y3 h=>rD (cG [(0,0)] [] [] (jl a0 y3) jg (.inl trivial))<|rP mv<|bE h fun x4 y4 h=>rD (cG [(0,0)] [] [] (jl x3.2 y4) jg (.inl trivial))<|rP (cP (cs:=[.int .u64 x3.1,.int .u64 x4.1]) bX rfl [⟨.int .u64,1,8,[.int .u64 0]⟩,⟨.int .u64,1,8,[.int .u64 0]⟩] (by simp only[List.map,bd]) (by rfl) R_)<|rP mv<|bE h fun x5 y5 h=>rD (cG [(0,0)] [] [] (jl x4.2 y5) jg (.inl trivial))<|rP mv<|bE h fun x6 y6 h=>rD (cG [(0,0)] [] [] (jl x5.2 y6) jg (.inl trivial))<|rP mv<|bE h fun x7 y7 h=>rD (cG [(0,0)] [] [] (jk x6.2 y7) jo (.inl trivial))<|rP mv<|bE h fun x8 y8 h=>rD (cG [(0,0)] [] [] (jk x7.2 y8) jo (.inl trivial))<|rP mv<|bE h fun x9 y9 h=>rD (cG [(0,0)] [] [] (dE x8.2 1099511627776 y9) dF (.inl trivial))<|rP mv<|bE h fun x10 y10 h=>rD (cG [(0,0)] [] [] (dE x9.2 1073741824 y10) dF (.inl trivial))<|rP (cP (cs:=[.int .u64 x3.1,.int .u64 x4.1,.int .u64 x5.1,.int .u64 x6.1,.str x7.1,.str x8.1,.int .i64 x9.1,.int .i64 x10.1,.bool false,.nil]) aJ rfl [⟨.struct [(0,60),(1,60)],2,16,[.int .u64 0,.int .u64 0]⟩,⟨.int .u64,1,8,[.int .u64 0]⟩,⟨.int .u64,1,8,[.int .u64 0]⟩,⟨.str,1,16,[.str ByteArray.empty]⟩,⟨.str,1,16,[.str ByteArray.empty]⟩,⟨.int .i64,1,8,[.int .i64 0]⟩,⟨.int .i64,1,8,[.int .i64 0]⟩,⟨.bool,1,1,[.bool false]⟩,⟨.slice 182,1,24,[.nil]⟩] (by simp only[List.map,bA,ae,aN,bd,bX,ap]) (by rfl) R_)<|rD (nw aJ)<|pZ (aA [.int .u64 x3.1,.int .u64 x4.1,.int .u64 x5.1,.int .u64 x6.1,.str x7.1,.str x8.1,.int .i64 x9.1,.int .i64 x10.1,.bool false,.nil] aJ)<|en k2<|sr fun _ k11=>rP mv<|bE h fun x12 y12 h=>rD (cG [(0,0)] [] [] (dE x10.2 1 y12) dF (.inl trivial))<|rP bi<|rP (fa aJ aN)<|pZ (aA [.int .u64 x3.1,.int .u64 x4.1,.int .u64 x5.1,.int .u64 x6.1,.str x7.1,.str x8.1,.int .i64 x9.1,.int .i64 x10.1,.bool (x12.1 == 1),.nil] aN)<|en k11<|sr fun _ k13=>rP mv<|bE h fun x14 y14 h=>rD (cG [(0,0)] [] [] (dE x12.2 4 y14) dF (.inl trivial))<|rP Y<|en k13<|bE h fun q15 h hk16=>bx (fun s=>∃(aW:List UInt8),∃(aX:Bool),∃(ge:List bf),tf x3 x4 x5 x6 x7 x8 x9 x10 x12 aW aX ge=some r∧s=lit [(0,.ptr 0 0 0),(2,.ptr 2 0 0),(3,.ptr 3 0 0)] [((0,0),.box [.sl 1 (List.map ag aW),.bool aX]),((2,0),.box [.int .u64 0,.int .u64 0,.int .u64 0,.int .u64 0,.str (aa []),.str (aa []),.int .i64 0,.int .i64 0,.bool false,.nil]),((3,0),.box [.int .u64 x3.1,.int .u64 x4.1,.int .u64 x5.1,.int .u64 x6.1,.str x7.1,.str x8.1,.int .i64 x9.1,.int .i64 x10.1,.bool (x12.1 == 1),.own 3 1]),((3,1),.arr 182 2 false (List.map ce ge))] [(0,1),(2,1),(3,2)] X) ?_ ?_
 ·skip
  refine sr fun _ k17=>rP Y<|en k17<|ax<|iY 3 0 9 3 182 2 (cs:=[.int .u64 x3.1,.int .u64 x4.1,.int .u64 x5.1,.int .u64 x6.1,.str x7.1,.str x8.1,.int .i64 x9.1,.int .i64 x10.1,.bool (x12.1 == 1),.nil]) R_ rfl D_<|bv (fun m s=>∃(dq:List UInt8),∃(di:Bool),∃(dQ:List bf),∃(bg:Int),am (fun(s:List UInt8×Bool×List bf×Int)=>gM x14 s.1 s.2.1 s.2.2.1 s.2.2.2) m (dq,di,dQ,bg)=some q15∧s=lit [(0,.ptr 0 0 0),(2,.ptr 2 0 0),(3,.ptr 3 0 0),(4,.int .i64 x14.1),(5,.int .i64 bg)] [((0,0),.box [.sl 1 (List.map ag dq),.bool di]),((2,0),.box [.int .u64 0,.int .u64 0,.int .u64 0,.int .u64 0,.str (aa []),.str (aa []),.int .i64 0,.int .i64 0,.bool false,.nil]),((3,0),.box [.int .u64 x3.1,.int .u64 x4.1,.int .u64 x5.1,.int .u64 x6.1,.str x7.1,.str x8.1,.int .i64 x9.1,.int .i64 x10.1,.bool (x12.1 == 1),.own 3 1]),((3,1),.arr 182 2 false (List.map ce dQ))] [(0,1),(2,1),(3,2)] X) Fu
   ⟨_,ra [(0,0),(2,0),(3,0),(3,1)],x14.2.B,x14.2.Bad,[],0,h,rfl⟩ ?_
  rintro m s ⟨dq,di,dQ,bg,h,rfl⟩
  obtain⟨m1,q18,rfl,h,hq19⟩:=bu h
  replace h:gM x14 dq di dQ bg=some q18:=h
  refine bE h fun q20 h hk21=>bx (fun s=>td dq di dQ bg=some q18∧s=lit [(0,.ptr 0 0 0),(2,.ptr 2 0 0),(3,.ptr 3 0 0),(4,.int .i64 x14.1),(5,.int .i64 bg)] [((0,0),.box [.sl 1 (List.map ag dq),.bool di]),((2,0),.box [.int .u64 0,.int .u64 0,.int .u64 0,.int .u64 0,.str (aa []),.str (aa []),.int .i64 0,.int .i64 0,.bool false,.nil]),((3,0),.box [.int .u64 x3.1,.int .u64 x4.1,.int .u64 x5.1,.int .u64 x6.1,.str x7.1,.str x8.1,.int .i64 x9.1,.int .i64 x10.1,.bool (x12.1 == 1),.own 3 1]),((3,1),.arr 182 2 false (List.map ce dQ))] [(0,1),(2,1),(3,2)] X) ?_ ?_
  ·skip
   refine sr fun _ k22=>rP mv<|rP mv<|rP bi<|rP mv<|li 33 h (fun c23 h=>?_) fun c23 h=>?_
   ·refine rP mv<|rP nk<|rP (fa cY aN)<|rX (ld aN)<|rP un<|rP pc<|en k22<|wi 39 h (fun c24 h=>?_) fun c24 h=>?_
    ·refine aq<|tk (aI h hk21) fun h=>?_
     exact⟨_,ra [(0,0),(2,0),(3,0),(3,1)],h,rfl⟩
    ·refine bc<|tk (ah h hk21) fun h=>tk (ah h hq19) fun h=>?_
     obtain rfl:=Option.some.inj h
     have h:=hk16
     exact⟨_,ra [(0,0),(2,0),(3,0),(3,1)],dq,di,dQ,h,rfl⟩
   ·refine rS<|rS<|rS<|rS<|rS<|rP pc<|en k22<|fB D_ rfl<|bc<|tk (ah h hk21) fun h=>tk (ah h hq19) fun h=>?_
    obtain rfl:=Option.some.inj h
    have h:=hk16
    exact⟨_,ra [(0,0),(2,0),(3,0),(3,1)],dq,di,dQ,h,rfl⟩
  ·rintro s ⟨h,rfl⟩
   refine ai fun _ k25=>ax<|cD (by kernel_rfl) (by decide +kernel)<|tP (fa aJ bA)<|tR (ld bA)<|tP mv<|bE h fun x26 y26 h=>tD (cG [(0,0)] [] [] (jk (Z.mk dq di) y26) jo (.inl trivial))<|tP mv<|bE h fun x27 y27 h=>tD (cG [(0,0)] [] [] (jk x26.2 y27) jo (.inl trivial))<|tP (cP (cs:=[.str x26.1,.str x27.1]) cM rfl [⟨.str,1,16,[.str ByteArray.empty]⟩,⟨.str,1,16,[.str ByteArray.empty]⟩] (by simp only[List.map,ap]) (by rfl) R_)<|tD (bs (List.map ce [(bf.mk x26.1 x27.1)]) bA cM rfl)<|gE h fun g28 h=>tD (dw (v:=List.map ce (dQ++[(bf.mk x26.1 x27.1)])) W_ W_ bA cM rfl rfl W_ (by first | exact .inl rfl | exact .inr ⟨rfl,rfl⟩) W_ (by first | exact .inr rfl | exact .inl rfl) (dL _ _) (dv g28))<|tP (fa aJ bA)<|gj none rfl rfl (gm (cs':=[.int .u64 x3.1,.int .u64 x4.1,.int .u64 x5.1,.int .u64 x6.1,.str x7.1,.str x8.1,.int .i64 x9.1,.int .i64 x10.1,.bool (x12.1 == 1),.own 50 0]) W_ W_ W_ bA rfl rfl rfl R_) D_<|cc (by kernel_rfl)<|k25 _<|aB<|rP mv<|rP bi<|rP Y<|aM<|bk (ra [(0,0),(2,0),(3,0),(50,0)]) ⟨x27.2.B,x27.2.Bad,(dQ++[(bf.mk x26.1 x27.1)]),(IntKind.i64.wrap (bg+1)),aI h hq19,rfl⟩
 ·rintro s ⟨aW,aX,ge,h,rfl⟩
  refine sr fun _ k29=>rP mv<|rP mv<|rP nk<|rP (fa cY aN)<|rX (ld aN)<|rP mv<|li 57 h (fun c30 h=>?_) fun c30 h=>?_
  ·refine rS<|rS<|rS<|rP pc<|rP nk<|rP (fa cY aN)<|pZ (aA [.sl 1 (List.map ag aW),.bool true] aN)<|en k29<|sr fun _ k31=>pl 64 (.agg [.int .u64 x3.1,.int .u64 x4.1,.int .u64 x5.1,.int .u64 x6.1,.str x7.1,.str x8.1,.int .i64 x9.1,.int .i64 x10.1,.bool (x12.1 == 1),.own 3 1]) aJ<|pZ (aA [.int .u64 x3.1,.int .u64 x4.1,.int .u64 x5.1,.int .u64 x6.1,.str x7.1,.str x8.1,.int .i64 x9.1,.int .i64 x10.1,.bool (x12.1 == 1),.own 3 1] aJ)<|en k31<|ac<|by cases h;exact rB [(3,1)]
  ·refine pl 58 (.agg [.int .u64 x3.1,.int .u64 x4.1,.int .u64 x5.1,.int .u64 x6.1,.str x7.1,.str x8.1,.int .i64 x9.1,.int .i64 x10.1,.bool (x12.1 == 1),.own 3 1]) aJ<|bE h fun x32 y32 h=>rD (cG [] [] [(3,1)] (Gb (aL.mk (Trace.mk x3.1 x4.1) x5.1 x6.1 x7.1 x8.1 x9.1 x10.1 (x12.1 == 1) ge) y32) Ga)<|rP un<|rP pc<|rP nk<|rP (fa cY aN)<|pZ (aA [.sl 1 (List.map ag aW),.bool (!x32)] aN)<|en k29<|sr fun _ k33=>pl 64 (.agg [.int .u64 x3.1,.int .u64 x4.1,.int .u64 x5.1,.int .u64 x6.1,.str x7.1,.str x8.1,.int .i64 x9.1,.int .i64 x10.1,.bool (x12.1 == 1),.own 3 1]) aJ<|pZ (aA [.int .u64 x3.1,.int .u64 x4.1,.int .u64 x5.1,.int .u64 x6.1,.str x7.1,.str x8.1,.int .i64 x9.1,.int .i64 x10.1,.bool (x12.1 == 1),.own 3 1] aJ)<|en k33<|ac<|by cases h;exact rB [(3,1)]
end Go.Proofs.YtjklegmimpehlaaGreat.Ab
