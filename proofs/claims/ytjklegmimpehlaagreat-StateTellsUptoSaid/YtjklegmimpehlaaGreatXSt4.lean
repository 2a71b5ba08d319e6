/- Chapter 21: what all its laws ask. -/
import Derived.Test.YtjklegmimpehlaaGreatXSt3
import Derived.Test.YtjklegmimpehlaaGreatProg
namespace Go.Proofs.YtjklegmimpehlaaGreat.Ab
open Go Go.RowKit
set_option linter.unusedVariables false
set_option linter.unusedSimpArgs false
set_option maxRecDepth 100000
set_option maxHeartbeats 8000000
theorem GA:aF Tryz.prog 9:=eN Tryz.func9
theorem Ba:aF Tryz.prog 10:=eN Tryz.func10
theorem Bb:aF Tryz.prog 11:=eN Tryz.func11
theorem PQ:aF Tryz.prog 18:=eN Tryz.func18
theorem Bc:aF Tryz.prog 19:=eN Tryz.func19
theorem PR:aF Tryz.prog 20:=eN Tryz.func20
theorem PS:aF Tryz.prog 79:=eN Tryz.func79
def xk (a0:List az) (cd:Int) (dG:Int):Option ((Int×Int)⊕Bool):=
 gd (0≤dG) (Option.bind (a0[(Int.toNat dG)]?) (fun(x18:az)=>Option.bind (sY x18.Spans) (fun(x19:Bool)=>if(!x19)=true then(some (Sum.inr false))else(gd (0≤dG) (Option.bind (a0[(Int.toNat dG)]?) (fun(x23:az)=>some (Sum.inl ((IntKind.i64.wrap ((IntKind.i64.wrap (cd+1))+(List.length x23.Spans:Int))),(IntKind.i64.wrap (dG+1))))))))))
def ow (a0:List az) (cd:Int) (dG:Int):Option ((Int×Int)⊕Bool):=
 Option.bind (if(decide (dG<(List.length a0:Int)))=true then(if(decide (cd<1000))=true then(some (Sum.inl ()))else(some (Sum.inr (Sum.inr (decide (cd≤120))))))else(some (Sum.inr (Sum.inr (decide (cd≤120)))))) (Sum.elim (fun(s:Unit)=>xk a0 cd dG) some)
def qA (a0:List az):Option Bool:=
 am (fun(s:Int×Int)=>ow a0 s.1 s.2) Fu (0,0)
theorem Be (a0:List az) {r:Bool} (h:qA a0=some r):Ok Tryz.prog 19 [.sl 6 (List.map ak a0)] [] [] (.bool r) [] []:=by
 unfold qA at h
 refine oK Tryz.func19 rfl fun X=>sr fun _ k1=>rP Y<|en k1<|sr fun _ k2=>rP Y<|en k2<|ai fun _ k3=>sr fun _ k4=>rP Y<|en k4<|ax<|bv (fun m s=>∃(cd:Int),∃(dG:Int),am (fun(s:Int×Int)=>ow a0 s.1 s.2) m (cd,dG)=some r∧s=lit [(0,.sl 6 (List.map ak a0)),(3,.int .i64 cd),(4,.int .i64 dG)] [] [] X) Fu
  ⟨_,ra [],0,0,h,rfl⟩ ?_
 rintro m s ⟨cd,dG,h,rfl⟩
 obtain⟨m0,q5,rfl,h,hq6⟩:=bu h
 replace h:ow a0 cd dG=some q5:=h
 refine bE h fun q7 h hk8=>bx (fun s=>xk a0 cd dG=some q5∧s=lit [(0,.sl 6 (List.map ak a0)),(3,.int .i64 cd),(4,.int .i64 dG)] [] [] X) ?_ ?_
 ·skip
  refine sr fun _ k9=>rP mv<|rP mv<|rP (zl bp)<|rP bi<|rP mv<|li 9 h (fun c10 h=>?_) fun c10 h=>?_
  ·refine rP mv<|rP bi<|rP pc<|en k9<|wi 12 h (fun c11 h=>?_) fun c11 h=>?_
   ·refine aq<|tk (aI h hk8) fun h=>?_
    exact⟨_,ra [],h,rfl⟩
   ·refine bc<|tk (ah h hk8) fun h=>tk (ah h hq6) fun h=>k3 _<|sr fun _ k12=>rP mv<|rP bi<|rP Y<|en k12<|ac<|by cases h;exact rk
  ·refine rS<|rS<|rP pc<|en k9<|fB D_ rfl<|bc<|tk (ah h hk8) fun h=>tk (ah h hq6) fun h=>k3 _<|sr fun _ k13=>rP mv<|rP bi<|rP Y<|en k13<|ac<|by cases h;exact rk
 ·rintro s ⟨h,rfl⟩
  refine ai fun _ k14=>ax<|ai fun _ k15=>sr fun _ k16=>rP mv<|rP mv<|gE h fun g17 h=>bE h fun x18 y18 h=>rP (ia bp aZ g17 y18)<|rP (fa aZ bN)<|rX (ld bN)<|bE h fun x19 y19 h=>rD (cZ (Nu x18.Spans y19) PS)<|rP un<|en k16<|wi 21 h (fun c20 h=>?_) fun c20 h=>?_
  ·refine sr fun _ k21=>rP Y<|en k21<|ac<|by cases ah h hq6;exact rk
  ·refine aq<|k15 _<|aB<|rP mv<|rP bi<|rP mv<|rP mv<|gE h fun g22 h=>bE h fun x23 y23 h=>rP (ia bp aZ g22 y23)<|rP (fa aZ bN)<|rX (ld bN)<|rP (zl bN)<|rP bi<|rP Y<|en k14<|aB<|rP mv<|rP bi<|rP Y<|aM<|bk (ra []) ⟨(IntKind.i64.wrap ((IntKind.i64.wrap (cd+1))+(List.length x23.Spans:Int))),(IntKind.i64.wrap (dG+1)),aI h hq6,rfl⟩
def az.wf (a:az):Prop:=(Trace.wf a.Trace)∧(cX .i64 a.First)∧(cX .i64 a.Last)∧True∧((List.length a.Spans)≤maxLen∧∀y∈a.Spans,aL.wf y)
theorem PT:∀(m:Nat) (cs:List PV),bL Tryz.prog m 69 cs→∃a:az,cs=[.int .u64 a.Trace.Hi,.int .u64 a.Trace.Lo,.int .i64 a.First,.int .i64 a.Last,.bool a.Sure,.sl 10 (List.map ch a.Spans)]∧(az.wf a):=fun m cs h=>by
 obtain⟨hl,m,hf⟩:=jP h Tryz.underlying69
 have f0:=hf 0 _ rfl
 obtain⟨a0,e0,w0⟩:=wo m _ f0
 rw[show Tryz.prog.cellsOf _=2 by kernel_rfl]at e0
 have f1:=hf 1 _ rfl
 obtain⟨a1,e1,w1⟩:=d9 m _ f1
 rw[show Tryz.prog.cellsOf _=1 by kernel_rfl]at e1
 have f2:=hf 2 _ rfl
 obtain⟨a2,e2,w2⟩:=d9 m _ f2
 rw[show Tryz.prog.cellsOf _=1 by kernel_rfl]at e2
 have f3:=hf 3 _ rfl
 obtain⟨a3,e3,w3⟩:=Aj m _ f3
 rw[show Tryz.prog.cellsOf _=1 by kernel_rfl]at e3
 have f4:=hf 4 _ rfl
 obtain⟨a4,e4,w4⟩:=Nv m _ f4
 rw[show Tryz.prog.cellsOf _=1 by kernel_rfl]at e4
 exact⟨⟨a0,a1,a2,a3,a4⟩,iy (l:=[(2,[.int .u64 a0.Hi,.int .u64 a0.Lo]),(1,[.int .i64 a1]),(1,[.int .i64 a2]),(1,[.bool a3]),(1,[.sl 10 (List.map ch a4)])]) ⟨e0,e1,e2,e3,e4,trivial⟩ hl (by kernel_rfl),⟨w0,w1,w2,w3,w4⟩⟩
theorem Bf:∀(m:Nat) (cs:List PV),bL Tryz.prog m 25 cs→∃a:List az,cs=[.sl 6 (List.map ak a)]∧((List.length a)≤maxLen∧∀y∈a,az.wf y):=fun m cs h=>by
 obtain⟨l,h1,h2,h3⟩:=mc (f:=ak) (Q:=fun y=>az.wf y) h Tryz.underlying25 (fun m ps hs=>by
  obtain⟨a,rfl,hw⟩:=PT m ps hs
  exact⟨a,by rw[show aggT Tryz.prog 69=true by kernel_rfl];rfl,hw⟩)
 exact⟨l,h1.trans (by rw[show Tryz.prog.cellsOf 69=6 by kernel_rfl]),h2,h3⟩
def Bg (a0:List Block) (dO:List az) (dP:Int):Option ((List az×Int)⊕(List az)):=
 gd (0≤dP) (Option.bind (a0[(Int.toNat dP)]?) (fun(x15:Block)=>gd ((List.length (dO++x15.Episodes))*64≤140737488355328∧(List.length (dO++x15.Episodes))≤140737488355328) (some (Sum.inl ((dO++x15.Episodes),(IntKind.i64.wrap (dP+1)))))))
def ox (a0:List Block) (dO:List az) (dP:Int):Option ((List az×Int)⊕(List az)):=
 Option.bind (if(decide (dP<(List.length a0:Int)))=true then(if(decide (dP<20))=true then(some (Sum.inl ()))else(some (Sum.inr (Sum.inr dO))))else(some (Sum.inr (Sum.inr dO)))) (Sum.elim (fun(s:Unit)=>Bg a0 dO dP) some)
def Bh (a0:List Block) (eQ:List az):Option Bool:=
 if(decide ((List.length a0:Int)≤12))=true then(Option.bind (qA eQ) (fun(x19:Bool)=>some x19))else(some false)
def xl (a0:List Block):Option Bool:=
 Option.bind (am (fun(s:List az×Int)=>ox a0 s.1 s.2) Fu ([],0)) (fun(s:List az)=>Bh a0 s)
theorem PU (a0:List Block) {r:Bool} (h:xl a0=some r):Ok Tryz.prog 20 [.sl 4 (List.map aR a0)] [] [] (.bool r) [] []:=by
 refine oK Tryz.func20 rfl fun X=>sr fun _ k1=>rP Y<|en k1<|sr fun _ k2=>rP Y<|en k2<|bE h fun q3 h hk4=>bx (fun s=>∃(eQ:List az),Bh a0 eQ=some r∧s=lit [(0,.sl 4 (List.map aR a0)),(3,.own 3 0)] [((3,0),.arr 69 6 false (List.map ak eQ))] [(3,1)] X) ?_ ?_
 ·skip
  refine sr fun _ k5=>rP Y<|en k5<|ax<|eZ 3 69 6 W_ D_ D_<|bv (fun m s=>∃(dO:List az),∃(dP:Int),am (fun(s:List az×Int)=>ox a0 s.1 s.2) m (dO,dP)=some q3∧s=lit [(0,.sl 4 (List.map aR a0)),(3,.own 3 0),(4,.int .i64 dP)] [((3,0),.arr 69 6 false (List.map ak dO))] [(3,1)] X) Fu
   ⟨_,ra [(3,0)],[],0,h,rfl⟩ ?_
  rintro m s ⟨dO,dP,h,rfl⟩
  obtain⟨m1,q6,rfl,h,hq7⟩:=bu h
  replace h:ox a0 dO dP=some q6:=h
  refine bE h fun q8 h hk9=>bx (fun s=>Bg a0 dO dP=some q6∧s=lit [(0,.sl 4 (List.map aR a0)),(3,.own 3 0),(4,.int .i64 dP)] [((3,0),.arr 69 6 false (List.map ak dO))] [(3,1)] X) ?_ ?_
  ·skip
   refine sr fun _ k10=>rP mv<|rP mv<|rP (zl bF)<|rP bi<|rP mv<|li 9 h (fun c11 h=>?_) fun c11 h=>?_
   ·refine rP mv<|rP bi<|rP pc<|en k10<|wi 12 h (fun c12 h=>?_) fun c12 h=>?_
    ·refine aq<|tk (aI h hk9) fun h=>?_
     exact⟨_,ra [(3,0)],h,rfl⟩
    ·refine bc<|tk (ah h hk9) fun h=>tk (ah h hq7) fun h=>?_
     obtain rfl:=Option.some.inj h
     have h:=hk4
     exact⟨_,ra [(3,0)],dO,h,rfl⟩
   ·refine rS<|rS<|rP pc<|en k10<|fB D_ rfl<|bc<|tk (ah h hk9) fun h=>tk (ah h hq7) fun h=>?_
    obtain rfl:=Option.some.inj h
    have h:=hk4
    exact⟨_,ra [(3,0)],dO,h,rfl⟩
  ·rintro s ⟨h,rfl⟩
   refine ai fun _ k13=>ax<|aB<|rP mv<|rP mv<|rP mv<|gE h fun g14 h=>bE h fun x15 y15 h=>rP (ia bF ca g14 y15)<|rP (fa ca bp)<|rX (ld bp)<|gE h fun g16 h=>rD (dw (v:=List.map ak (dO++x15.Episodes)) W_ W_ bp aZ rfl rfl W_ (by first | exact .inl rfl | exact .inr ⟨rfl,rfl⟩) W_ (by first | exact .inr rfl | exact .inl rfl) (dL _ _) (dv g16))<|rP Y<|en k13<|aB<|rP mv<|rP bi<|rP Y<|aM<|bk (ra [(21,0)]) ⟨(dO++x15.Episodes),(IntKind.i64.wrap (dP+1)),aI h hq7,rfl⟩
 ·rintro s ⟨eQ,h,rfl⟩
  refine sr fun _ k17=>rP mv<|rP (zl bF)<|rP bi<|rP mv<|li 25 h (fun c18 h=>?_) fun c18 h=>?_
  ·refine rP mv<|bE h fun x19 y19 h=>rD (cG [] [] [(3,0)] (Be eQ y19) Bc)<|rP pc<|rP Y<|en k17<|ac<|by cases h;exact rk
  ·refine rS<|rS<|rP pc<|rP Y<|en k17<|ac<|by cases h;exact rk
def Block.wf (a:Block):Prop:=(cX .i64 a.Number)∧(cX .i64 a.Born)∧(cX .i64 a.Tier)∧((List.length a.Episodes)≤maxLen∧∀y∈a.Episodes,az.wf y)
theorem PW:∀(m:Nat) (cs:List PV),bL Tryz.prog m 41 cs→∃a:Block,cs=[.int .i64 a.Number,.int .i64 a.Born,.int .i64 a.Tier,.sl 6 (List.map ak a.Episodes)]∧(Block.wf a):=fun m cs h=>by
 obtain⟨hl,m,hf⟩:=jP h Tryz.underlying41
 have f0:=hf 0 _ rfl
 obtain⟨a0,e0,w0⟩:=d9 m _ f0
 rw[show Tryz.prog.cellsOf _=1 by kernel_rfl]at e0
 have f1:=hf 1 _ rfl
 obtain⟨a1,e1,w1⟩:=d9 m _ f1
 rw[show Tryz.prog.cellsOf _=1 by kernel_rfl]at e1
 have f2:=hf 2 _ rfl
 obtain⟨a2,e2,w2⟩:=d9 m _ f2
 rw[show Tryz.prog.cellsOf _=1 by kernel_rfl]at e2
 have f3:=hf 3 _ rfl
 obtain⟨a3,e3,w3⟩:=Bf m _ f3
 rw[show Tryz.prog.cellsOf _=1 by kernel_rfl]at e3
 exact⟨⟨a0,a1,a2,a3⟩,iy (l:=[(1,[.int .i64 a0]),(1,[.int .i64 a1]),(1,[.int .i64 a2]),(1,[.sl 6 (List.map ak a3)])]) ⟨e0,e1,e2,e3,trivial⟩ hl (by kernel_rfl),⟨w0,w1,w2,w3⟩⟩
theorem PX:∀(m:Nat) (cs:List PV),bL Tryz.prog m 30 cs→∃a:List Block,cs=[.sl 4 (List.map aR a)]∧((List.length a)≤maxLen∧∀y∈a,Block.wf y):=fun m cs h=>by
 obtain⟨l,h1,h2,h3⟩:=mc (f:=aR) (Q:=fun y=>Block.wf y) h Tryz.underlying30 (fun m ps hs=>by
  obtain⟨a,rfl,hw⟩:=PW m ps hs
  exact⟨a,by rw[show aggT Tryz.prog 41=true by kernel_rfl];rfl,hw⟩)
 exact⟨l,h1.trans (by rw[show Tryz.prog.cellsOf 41=4 by kernel_rfl]),h2,h3⟩
def oy (a0:aC) (jC:Int):Option (Int⊕(Unit⊕Bool)):=
 if(decide (jC<(List.length a0.Rows:Int)))=true then(gd (0≤jC) (Option.bind (a0.Rows[(Int.toNat jC)]?) (fun(x36:bo)=>if(decide ((60:Int)<(ByteArray.size x36.Service:Int)))=true then(some (Sum.inr (Sum.inr false)))else(gd (0≤jC) (Option.bind (a0.Rows[(Int.toNat jC)]?) (fun(x40:bo)=>if(decide ((60:Int)<(ByteArray.size x40.Op:Int)))=true then(some (Sum.inr (Sum.inr false)))else(some (Sum.inl (IntKind.i64.wrap (jC+1))))))))))else(some (Sum.inr (Sum.inl ())))
def oz (a0:aC) (jD:Int):Option (Int⊕(Unit⊕Bool)):=
 if(decide (jD<(List.length a0.Edges:Int)))=true then(gd (0≤jD) (Option.bind (a0.Edges[(Int.toNat jD)]?) (fun(x54:Edge)=>if(decide ((60:Int)<(ByteArray.size x54.From:Int)))=true then(some (Sum.inr (Sum.inr false)))else(gd (0≤jD) (Option.bind (a0.Edges[(Int.toNat jD)]?) (fun(x58:Edge)=>if(decide ((60:Int)<(ByteArray.size x58.To:Int)))=true then(some (Sum.inr (Sum.inr false)))else(some (Sum.inl (IntKind.i64.wrap (jD+1))))))))))else(some (Sum.inr (Sum.inl ())))
def qC (a0:aC) (jE:Int):Option (Int⊕Bool):=
 if(decide (jE<(List.length a0.Slots:Int)))=true then(gd (0≤jE) (Option.bind (a0.Slots[(Int.toNat jE)]?) (fun(x71:bz)=>if(decide ((60:Int)<(ByteArray.size x71.Service:Int)))=true then(some (Sum.inr false))else(gd (0≤jE) (Option.bind (a0.Slots[(Int.toNat jE)]?) (fun(x75:bz)=>if(decide ((60:Int)<(ByteArray.size x75.Op:Int)))=true then(some (Sum.inr false))else(some (Sum.inl (IntKind.i64.wrap (jE+1))))))))))else(some (Sum.inr true))
def xm (a0:aC):Option Bool:=
 am (fun(s:Int)=>qC a0 s) Fu 0
def Bi (a0:aC):Option Bool:=
 Option.bind (am (fun(s:Int)=>oz a0 s) Fu 0) (Sum.elim (fun(s:Unit)=>xm a0) some)
def Bj (a0:aC):Option Bool:=
 Option.bind (am (fun(s:Int)=>oy a0 s) Fu 0) (Sum.elim (fun(s:Unit)=>Bi a0) some)
def tE (a0:aC):Option Bool:=
 Option.bind (Option.bind (vY a0.Policy) (fun(x5:Bool)=>if(!x5)=true then(some (Sum.inr false))else(Option.bind (qA a0.Open) (fun(x8:Bool)=>if(!x8)=true then(some (Sum.inr false))else(Option.bind (qA a0.Pending) (fun(x11:Bool)=>if(!x11)=true then(some (Sum.inr false))else(Option.bind (xl a0.Blocks) (fun(x14:Bool)=>if(!x14)=true then(some (Sum.inr false))else(if(decide ((100:Int)<(List.length a0.Memo:Int)))=true then(some (Sum.inr false))else(if(decide ((100:Int)<(List.length a0.Rows:Int)))=true then(some (Sum.inr false))else(if(decide ((60:Int)<(List.length a0.Edges:Int)))=true then(some (Sum.inr false))else(if(decide ((60:Int)<(List.length a0.Slots:Int)))=true then(some (Sum.inr false))else(some (Sum.inl ())))))))))))))) (Sum.elim (fun(s:Unit)=>Bj a0) some)
theorem GB (a0:aC) {r:Bool} (h:tE a0=some r):Ok Tryz.prog 7 [.agg [.int .i64 a0.Now,.int .i64 a0.Sec,.int .i64 a0.Kept,.int .i64 a0.Next,.int .i64 a0.Policy.Kind,.int .i64 a0.Policy.N,.str a0.Policy.Key,.str a0.Policy.Value,.sl 5 (List.map aj a0.Policy.Kids),.sl 6 (List.map ak a0.Open),.sl 6 (List.map ak a0.Pending),.sl 3 (List.map aQ a0.Memo),.sl 14 (List.map aP a0.Rows),.sl 4 (List.map aU a0.Edges),.sl 6 (List.map aV a0.Slots),.sl 4 (List.map aR a0.Blocks)]] [] [] (.bool r) [] []:=by
 refine oK Tryz.func7 rfl fun X=>sr fun _ k1=>rD (bY W_ rfl rfl)<|rP Y<|en k1<|bE h fun q2 h hk3=>bx (fun s=>Bj a0=some r∧s=lit [(1,.ptr 1 0 0)] [((1,0),.box [.int .i64 a0.Now,.int .i64 a0.Sec,.int .i64 a0.Kept,.int .i64 a0.Next,.int .i64 a0.Policy.Kind,.int .i64 a0.Policy.N,.str a0.Policy.Key,.str a0.Policy.Value,.sl 5 (List.map aj a0.Policy.Kids),.sl 6 (List.map ak a0.Open),.sl 6 (List.map ak a0.Pending),.sl 3 (List.map aQ a0.Memo),.sl 14 (List.map aP a0.Rows),.sl 4 (List.map aU a0.Edges),.sl 6 (List.map aV a0.Slots),.sl 4 (List.map aR a0.Blocks)])] [(1,1)] X) ?_ ?_
 ·skip
  refine sr fun _ k4=>rP (fa av ar)<|pl 7 (.agg [.int .i64 a0.Policy.Kind,.int .i64 a0.Policy.N,.str a0.Policy.Key,.str a0.Policy.Value,.sl 5 (List.map aj a0.Policy.Kids)]) ar<|bE h fun x5 y5 h=>rD (cz (.bool x5) (MQ a0.Policy y5) PQ)<|rP un<|rP mv<|li 10 h (fun c6 h=>?_) fun c6 h=>?_
  ·refine rS<|rS<|rS<|rS<|rP pc<|iZ (ra (tl:=[(1,.ptr 1 0 0),(15,.bool true)]) (ol:=[((1,0),.box [.int .i64 a0.Now,.int .i64 a0.Sec,.int .i64 a0.Kept,.int .i64 a0.Next,.int .i64 a0.Policy.Kind,.int .i64 a0.Policy.N,.str a0.Policy.Key,.str a0.Policy.Value,.sl 5 (List.map aj a0.Policy.Kids),.sl 6 (List.map ak a0.Open),.sl 6 (List.map ak a0.Pending),.sl 3 (List.map aQ a0.Memo),.sl 14 (List.map aP a0.Rows),.sl 4 (List.map aU a0.Edges),.sl 6 (List.map aV a0.Slots),.sl 4 (List.map aR a0.Blocks)])]) (nx:=[(1,1)]) [(1,0)])<|rP mv<|rS<|rS<|rS<|rS<|rP pc<|rP mv<|rS<|rS<|rS<|rS<|rP pc<|iZ (ra (tl:=[(1,.ptr 1 0 0),(27,.bool true)]) (ol:=[((1,0),.box [.int .i64 a0.Now,.int .i64 a0.Sec,.int .i64 a0.Kept,.int .i64 a0.Next,.int .i64 a0.Policy.Kind,.int .i64 a0.Policy.N,.str a0.Policy.Key,.str a0.Policy.Value,.sl 5 (List.map aj a0.Policy.Kids),.sl 6 (List.map ak a0.Open),.sl 6 (List.map ak a0.Pending),.sl 3 (List.map aQ a0.Memo),.sl 14 (List.map aP a0.Rows),.sl 4 (List.map aU a0.Edges),.sl 6 (List.map aV a0.Slots),.sl 4 (List.map aR a0.Blocks)])]) (nx:=[(1,1)]) [(1,0)])<|rP mv<|rS<|rS<|rS<|rS<|rP pc<|rP mv<|rS<|rS<|rS<|rS<|rP pc<|iZ (ra (tl:=[(1,.ptr 1 0 0),(39,.bool true)]) (ol:=[((1,0),.box [.int .i64 a0.Now,.int .i64 a0.Sec,.int .i64 a0.Kept,.int .i64 a0.Next,.int .i64 a0.Policy.Kind,.int .i64 a0.Policy.N,.str a0.Policy.Key,.str a0.Policy.Value,.sl 5 (List.map aj a0.Policy.Kids),.sl 6 (List.map ak a0.Open),.sl 6 (List.map ak a0.Pending),.sl 3 (List.map aQ a0.Memo),.sl 14 (List.map aP a0.Rows),.sl 4 (List.map aU a0.Edges),.sl 6 (List.map aV a0.Slots),.sl 4 (List.map aR a0.Blocks)])]) (nx:=[(1,1)]) [(1,0)])<|rP mv<|rS<|rS<|rS<|rS<|rP pc<|rP mv<|rS<|rS<|rS<|rS<|rP pc<|en k4<|bM D_ rfl<|sr fun _ k7=>rP Y<|en k7<|ac<|by cases ah h hk3;exact rk
  ·refine rP (fa av bp)<|rX (ld bp)<|bE h fun x8 y8 h=>rD (cz (.bool x8) (Be a0.Open y8) Bc)<|rP un<|rP pc<|iZ (ra (tl:=[(1,.ptr 1 0 0),(15,.bool (!x8))]) (ol:=[((1,0),.box [.int .i64 a0.Now,.int .i64 a0.Sec,.int .i64 a0.Kept,.int .i64 a0.Next,.int .i64 a0.Policy.Kind,.int .i64 a0.Policy.N,.str a0.Policy.Key,.str a0.Policy.Value,.sl 5 (List.map aj a0.Policy.Kids),.sl 6 (List.map ak a0.Open),.sl 6 (List.map ak a0.Pending),.sl 3 (List.map aQ a0.Memo),.sl 14 (List.map aP a0.Rows),.sl 4 (List.map aU a0.Edges),.sl 6 (List.map aV a0.Slots),.sl 4 (List.map aR a0.Blocks)])]) (nx:=[(1,1)]) [(1,0)])<|rP mv<|li 16 h (fun c9 h=>?_) fun c9 h=>?_
   ·refine rS<|rS<|rS<|rS<|rP pc<|rP mv<|rS<|rS<|rS<|rS<|rP pc<|iZ (ra (tl:=[(1,.ptr 1 0 0),(27,.bool true)]) (ol:=[((1,0),.box [.int .i64 a0.Now,.int .i64 a0.Sec,.int .i64 a0.Kept,.int .i64 a0.Next,.int .i64 a0.Policy.Kind,.int .i64 a0.Policy.N,.str a0.Policy.Key,.str a0.Policy.Value,.sl 5 (List.map aj a0.Policy.Kids),.sl 6 (List.map ak a0.Open),.sl 6 (List.map ak a0.Pending),.sl 3 (List.map aQ a0.Memo),.sl 14 (List.map aP a0.Rows),.sl 4 (List.map aU a0.Edges),.sl 6 (List.map aV a0.Slots),.sl 4 (List.map aR a0.Blocks)])]) (nx:=[(1,1)]) [(1,0)])<|rP mv<|rS<|rS<|rS<|rS<|rP pc<|rP mv<|rS<|rS<|rS<|rS<|rP pc<|iZ (ra (tl:=[(1,.ptr 1 0 0),(39,.bool true)]) (ol:=[((1,0),.box [.int .i64 a0.Now,.int .i64 a0.Sec,.int .i64 a0.Kept,.int .i64 a0.Next,.int .i64 a0.Policy.Kind,.int .i64 a0.Policy.N,.str a0.Policy.Key,.str a0.Policy.Value,.sl 5 (List.map aj a0.Policy.Kids),.sl 6 (List.map ak a0.Open),.sl 6 (List.map ak a0.Pending),.sl 3 (List.map aQ a0.Memo),.sl 14 (List.map aP a0.Rows),.sl 4 (List.map aU a0.Edges),.sl 6 (List.map aV a0.Slots),.sl 4 (List.map aR a0.Blocks)])]) (nx:=[(1,1)]) [(1,0)])<|rP mv<|rS<|rS<|rS<|rS<|rP pc<|rP mv<|rS<|rS<|rS<|rS<|rP pc<|en k4<|bM D_ rfl<|sr fun _ k10=>rP Y<|en k10<|ac<|by cases ah h hk3;exact rk
   ·refine rP (fa av bp)<|rX (ld bp)<|bE h fun x11 y11 h=>rD (cz (.bool x11) (Be a0.Pending y11) Bc)<|rP un<|rP pc<|rP mv<|li 22 h (fun c12 h=>?_) fun c12 h=>?_
    ·refine rS<|rS<|rS<|rS<|rP pc<|iZ (ra (tl:=[(1,.ptr 1 0 0),(27,.bool true)]) (ol:=[((1,0),.box [.int .i64 a0.Now,.int .i64 a0.Sec,.int .i64 a0.Kept,.int .i64 a0.Next,.int .i64 a0.Policy.Kind,.int .i64 a0.Policy.N,.str a0.Policy.Key,.str a0.Policy.Value,.sl 5 (List.map aj a0.Policy.Kids),.sl 6 (List.map ak a0.Open),.sl 6 (List.map ak a0.Pending),.sl 3 (List.map aQ a0.Memo),.sl 14 (List.map aP a0.Rows),.sl 4 (List.map aU a0.Edges),.sl 6 (List.map aV a0.Slots),.sl 4 (List.map aR a0.Blocks)])]) (nx:=[(1,1)]) [(1,0)])<|rP mv<|rS<|rS<|rS<|rS<|rP pc<|rP mv<|rS<|rS<|rS<|rS<|rP pc<|iZ (ra (tl:=[(1,.ptr 1 0 0),(39,.bool true)]) (ol:=[((1,0),.box [.int .i64 a0.Now,.int .i64 a0.Sec,.int .i64 a0.Kept,.int .i64 a0.Next,.int .i64 a0.Policy.Kind,.int .i64 a0.Policy.N,.str a0.Policy.Key,.str a0.Policy.Value,.sl 5 (List.map aj a0.Policy.Kids),.sl 6 (List.map ak a0.Open),.sl 6 (List.map ak a0.Pending),.sl 3 (List.map aQ a0.Memo),.sl 14 (List.map aP a0.Rows),.sl 4 (List.map aU a0.Edges),.sl 6 (List.map aV a0.Slots),.sl 4 (List.map aR a0.Blocks)])]) (nx:=[(1,1)]) [(1,0)])<|rP mv<|rS<|rS<|rS<|rS<|rP pc<|rP mv<|rS<|rS<|rS<|rS<|rP pc<|en k4<|bM D_ rfl<|sr fun _ k13=>rP Y<|en k13<|ac<|by cases ah h hk3;exact rk
    ·refine rP (fa av bF)<|rX (ld bF)<|bE h fun x14 y14 h=>rD (cz (.bool x14) (PU a0.Blocks y14) PR)<|rP un<|rP pc<|iZ (ra (tl:=[(1,.ptr 1 0 0),(27,.bool (!x14))]) (ol:=[((1,0),.box [.int .i64 a0.Now,.int .i64 a0.Sec,.int .i64 a0.Kept,.int .i64 a0.Next,.int .i64 a0.Policy.Kind,.int .i64 a0.Policy.N,.str a0.Policy.Key,.str a0.Policy.Value,.sl 5 (List.map aj a0.Policy.Kids),.sl 6 (List.map ak a0.Open),.sl 6 (List.map ak a0.Pending),.sl 3 (List.map aQ a0.Memo),.sl 14 (List.map aP a0.Rows),.sl 4 (List.map aU a0.Edges),.sl 6 (List.map aV a0.Slots),.sl 4 (List.map aR a0.Blocks)])]) (nx:=[(1,1)]) [(1,0)])<|rP mv<|li 28 h (fun c15 h=>?_) fun c15 h=>?_
     ·refine rS<|rS<|rS<|rS<|rP pc<|rP mv<|rS<|rS<|rS<|rS<|rP pc<|iZ (ra (tl:=[(1,.ptr 1 0 0),(39,.bool true)]) (ol:=[((1,0),.box [.int .i64 a0.Now,.int .i64 a0.Sec,.int .i64 a0.Kept,.int .i64 a0.Next,.int .i64 a0.Policy.Kind,.int .i64 a0.Policy.N,.str a0.Policy.Key,.str a0.Policy.Value,.sl 5 (List.map aj a0.Policy.Kids),.sl 6 (List.map ak a0.Open),.sl 6 (List.map ak a0.Pending),.sl 3 (List.map aQ a0.Memo),.sl 14 (List.map aP a0.Rows),.sl 4 (List.map aU a0.Edges),.sl 6 (List.map aV a0.Slots),.sl 4 (List.map aR a0.Blocks)])]) (nx:=[(1,1)]) [(1,0)])<|rP mv<|rS<|rS<|rS<|rS<|rP pc<|rP mv<|rS<|rS<|rS<|rS<|rP pc<|en k4<|bM D_ rfl<|sr fun _ k16=>rP Y<|en k16<|ac<|by cases ah h hk3;exact rk
     ·refine rP (fa av ci)<|rX (ld ci)<|rP (zl ci)<|rP bi<|rP pc<|rP mv<|li 34 h (fun c17 h=>?_) fun c17 h=>?_
      ·refine rS<|rS<|rS<|rS<|rP pc<|iZ (ra (tl:=[(1,.ptr 1 0 0),(39,.bool true)]) (ol:=[((1,0),.box [.int .i64 a0.Now,.int .i64 a0.Sec,.int .i64 a0.Kept,.int .i64 a0.Next,.int .i64 a0.Policy.Kind,.int .i64 a0.Policy.N,.str a0.Policy.Key,.str a0.Policy.Value,.sl 5 (List.map aj a0.Policy.Kids),.sl 6 (List.map ak a0.Open),.sl 6 (List.map ak a0.Pending),.sl 3 (List.map aQ a0.Memo),.sl 14 (List.map aP a0.Rows),.sl 4 (List.map aU a0.Edges),.sl 6 (List.map aV a0.Slots),.sl 4 (List.map aR a0.Blocks)])]) (nx:=[(1,1)]) [(1,0)])<|rP mv<|rS<|rS<|rS<|rS<|rP pc<|rP mv<|rS<|rS<|rS<|rS<|rP pc<|en k4<|bM D_ rfl<|sr fun _ k18=>rP Y<|en k18<|ac<|by cases ah h hk3;exact rk
      ·refine rP (fa av bU)<|rX (ld bU)<|rP (zl bU)<|rP bi<|rP pc<|iZ (ra (tl:=[(1,.ptr 1 0 0),(39,.bool (decide ((100:Int)<(List.length a0.Rows:Int))))]) (ol:=[((1,0),.box [.int .i64 a0.Now,.int .i64 a0.Sec,.int .i64 a0.Kept,.int .i64 a0.Next,.int .i64 a0.Policy.Kind,.int .i64 a0.Policy.N,.str a0.Policy.Key,.str a0.Policy.Value,.sl 5 (List.map aj a0.Policy.Kids),.sl 6 (List.map ak a0.Open),.sl 6 (List.map ak a0.Pending),.sl 3 (List.map aQ a0.Memo),.sl 14 (List.map aP a0.Rows),.sl 4 (List.map aU a0.Edges),.sl 6 (List.map aV a0.Slots),.sl 4 (List.map aR a0.Blocks)])]) (nx:=[(1,1)]) [(1,0)])<|rP mv<|li 40 h (fun c19 h=>?_) fun c19 h=>?_
       ·refine rS<|rS<|rS<|rS<|rP pc<|rP mv<|rS<|rS<|rS<|rS<|rP pc<|en k4<|bM D_ rfl<|sr fun _ k20=>rP Y<|en k20<|ac<|by cases ah h hk3;exact rk
       ·refine rP (fa av bH)<|rX (ld bH)<|rP (zl bH)<|rP bi<|rP pc<|rP mv<|li 46 h (fun c21 h=>?_) fun c21 h=>?_
        ·refine rS<|rS<|rS<|rS<|rP pc<|en k4<|bM D_ rfl<|sr fun _ k22=>rP Y<|en k22<|ac<|by cases ah h hk3;exact rk
        ·refine rP (fa av bO)<|rX (ld bO)<|rP (zl bO)<|rP bi<|rP pc<|en k4<|wi 51 h (fun c23 h=>?_) fun c23 h=>?_
         ·refine sr fun _ k24=>rP Y<|en k24<|ac<|by cases ah h hk3;exact rk
         ·refine aq<|tk (aI h hk3) fun h=>?_
          exact⟨_,ra [(1,0)],h,rfl⟩
 ·rintro s ⟨h,rfl⟩
  refine bE h fun q25 h hk26=>bx (fun s=>Bi a0=some r∧s=lit [(1,.ptr 1 0 0)] [((1,0),.box [.int .i64 a0.Now,.int .i64 a0.Sec,.int .i64 a0.Kept,.int .i64 a0.Next,.int .i64 a0.Policy.Kind,.int .i64 a0.Policy.N,.str a0.Policy.Key,.str a0.Policy.Value,.sl 5 (List.map aj a0.Policy.Kids),.sl 6 (List.map ak a0.Open),.sl 6 (List.map ak a0.Pending),.sl 3 (List.map aQ a0.Memo),.sl 14 (List.map aP a0.Rows),.sl 4 (List.map aU a0.Edges),.sl 6 (List.map aV a0.Slots),.sl 4 (List.map aR a0.Blocks)])] [(1,1)] X) ?_ ?_
  ·skip
   refine sr fun _ k27=>rP Y<|en k27<|ax<|bv (fun m s=>∃(jC:Int),am (fun(s:Int)=>oy a0 s) m jC=some q25∧s=lit [(1,.ptr 1 0 0),(3,.int .i64 jC)] [((1,0),.box [.int .i64 a0.Now,.int .i64 a0.Sec,.int .i64 a0.Kept,.int .i64 a0.Next,.int .i64 a0.Policy.Kind,.int .i64 a0.Policy.N,.str a0.Policy.Key,.str a0.Policy.Value,.sl 5 (List.map aj a0.Policy.Kids),.sl 6 (List.map ak a0.Open),.sl 6 (List.map ak a0.Pending),.sl 3 (List.map aQ a0.Memo),.sl 14 (List.map aP a0.Rows),.sl 4 (List.map aU a0.Edges),.sl 6 (List.map aV a0.Slots),.sl 4 (List.map aR a0.Blocks)])] [(1,1)] X) Fu
    ⟨_,ra [(1,0)],0,h,rfl⟩ ?_
   rintro m s ⟨jC,h,rfl⟩
   obtain⟨m2,q28,rfl,h,hq29⟩:=bu h
   replace h:oy a0 jC=some q28:=h
   refine ai fun _ k30=>sr fun _ k31=>rP mv<|rP (fa av bU)<|rX (ld bU)<|rP (zl bU)<|rP bi<|en k31<|wi 56 h (fun c32 h=>?_) fun c32 h=>?_
   ·refine aq<|k30 _<|ai fun _ k33=>ax<|sr fun _ k34=>rP (fa av bU)<|rX (ld bU)<|rP mv<|gE h fun g35 h=>bE h fun x36 y36 h=>rP (ia bU bS g35 y36)<|rP (fa bS ap)<|rX (ld ap)<|rP (eh W_ ap)<|rP bi<|rP mv<|li 67 h (fun c37 h=>?_) fun c37 h=>?_
    ·refine rS<|rS<|rS<|rS<|rS<|rS<|rS<|rS<|rP pc<|en k34<|bM D_ rfl<|sr fun _ k38=>rP Y<|en k38<|ac<|tk (ah h hq29) fun h=>by cases ah h hk26;exact rk
    ·refine rP (fa av bU)<|rX (ld bU)<|rP mv<|gE h fun g39 h=>bE h fun x40 y40 h=>rP (ia bU bS g39 y40)<|rP (fa bS ap)<|rX (ld ap)<|rP (eh W_ ap)<|rP bi<|rP pc<|en k34<|wi 76 h (fun c41 h=>?_) fun c41 h=>?_
     ·refine sr fun _ k42=>rP Y<|en k42<|ac<|tk (ah h hq29) fun h=>by cases ah h hk26;exact rk
     ·refine aq<|k33 _<|aB<|rP mv<|rP bi<|rP Y<|aM<|bk (ra [(1,0)]) ⟨(IntKind.i64.wrap (jC+1)),aI h hq29,rfl⟩
   ·refine bc<|tk (ah h hq29) fun h=>tk (aI h hk26) fun h=>?_
    exact⟨_,ra [(1,0)],h,rfl⟩
  ·rintro s ⟨h,rfl⟩
   refine bE h fun q43 h hk44=>bx (fun s=>xm a0=some r∧s=lit [(1,.ptr 1 0 0)] [((1,0),.box [.int .i64 a0.Now,.int .i64 a0.Sec,.int .i64 a0.Kept,.int .i64 a0.Next,.int .i64 a0.Policy.Kind,.int .i64 a0.Policy.N,.str a0.Policy.Key,.str a0.Policy.Value,.sl 5 (List.map aj a0.Policy.Kids),.sl 6 (List.map ak a0.Open),.sl 6 (List.map ak a0.Pending),.sl 3 (List.map aQ a0.Memo),.sl 14 (List.map aP a0.Rows),.sl 4 (List.map aU a0.Edges),.sl 6 (List.map aV a0.Slots),.sl 4 (List.map aR a0.Blocks)])] [(1,1)] X) ?_ ?_
   ·skip
    refine sr fun _ k45=>rP Y<|en k45<|ax<|bv (fun m s=>∃(jD:Int),am (fun(s:Int)=>oz a0 s) m jD=some q43∧s=lit [(1,.ptr 1 0 0),(4,.int .i64 jD)] [((1,0),.box [.int .i64 a0.Now,.int .i64 a0.Sec,.int .i64 a0.Kept,.int .i64 a0.Next,.int .i64 a0.Policy.Kind,.int .i64 a0.Policy.N,.str a0.Policy.Key,.str a0.Policy.Value,.sl 5 (List.map aj a0.Policy.Kids),.sl 6 (List.map ak a0.Open),.sl 6 (List.map ak a0.Pending),.sl 3 (List.map aQ a0.Memo),.sl 14 (List.map aP a0.Rows),.sl 4 (List.map aU a0.Edges),.sl 6 (List.map aV a0.Slots),.sl 4 (List.map aR a0.Blocks)])] [(1,1)] X) Fu
     ⟨_,ra [(1,0)],0,h,rfl⟩ ?_
    rintro m s ⟨jD,h,rfl⟩
    obtain⟨m4,q46,rfl,h,hq47⟩:=bu h
    replace h:oz a0 jD=some q46:=h
    refine ai fun _ k48=>sr fun _ k49=>rP mv<|rP (fa av bH)<|rX (ld bH)<|rP (zl bH)<|rP bi<|en k49<|wi 81 h (fun c50 h=>?_) fun c50 h=>?_
    ·refine aq<|k48 _<|ai fun _ k51=>ax<|sr fun _ k52=>rP (fa av bH)<|rX (ld bH)<|rP mv<|gE h fun g53 h=>bE h fun x54 y54 h=>rP (ia bH cm g53 y54)<|rP (fa cm ap)<|rX (ld ap)<|rP (eh W_ ap)<|rP bi<|rP mv<|li 92 h (fun c55 h=>?_) fun c55 h=>?_
     ·refine rS<|rS<|rS<|rS<|rS<|rS<|rS<|rS<|rP pc<|en k52<|bM D_ rfl<|sr fun _ k56=>rP Y<|en k56<|ac<|tk (ah h hq47) fun h=>by cases ah h hk44;exact rk
     ·refine rP (fa av bH)<|rX (ld bH)<|rP mv<|gE h fun g57 h=>bE h fun x58 y58 h=>rP (ia bH cm g57 y58)<|rP (fa cm ap)<|rX (ld ap)<|rP (eh W_ ap)<|rP bi<|rP pc<|en k52<|wi 101 h (fun c59 h=>?_) fun c59 h=>?_
      ·refine sr fun _ k60=>rP Y<|en k60<|ac<|tk (ah h hq47) fun h=>by cases ah h hk44;exact rk
      ·refine aq<|k51 _<|aB<|rP mv<|rP bi<|rP Y<|aM<|bk (ra [(1,0)]) ⟨(IntKind.i64.wrap (jD+1)),aI h hq47,rfl⟩
    ·refine bc<|tk (ah h hq47) fun h=>tk (aI h hk44) fun h=>?_
     exact⟨_,ra [(1,0)],h,rfl⟩
   ·rintro s ⟨h,rfl⟩
    unfold xm at h
    refine ai fun _ k61=>sr fun _ k62=>rP Y<|en k62<|ax<|bv (fun m s=>∃(jE:Int),am (fun(s:Int)=>qC a0 s) m jE=some r∧s=lit [(1,.ptr 1 0 0),(5,.int .i64 jE)] [((1,0),.box [.int .i64 a0.Now,.int .i64 a0.Sec,.int .i64 a0.Kept,.int .i64 a0.Next,.int .i64 a0.Policy.Kind,.int .i64 a0.Policy.N,.str a0.Policy.Key,.str a0.Policy.Value,.sl 5 (List.map aj a0.Policy.Kids),.sl 6 (List.map ak a0.Open),.sl 6 (List.map ak a0.Pending),.sl 3 (List.map aQ a0.Memo),.sl 14 (List.map aP a0.Rows),.sl 4 (List.map aU a0.Edges),.sl 6 (List.map aV a0.Slots),.sl 4 (List.map aR a0.Blocks)])] [(1,1)] X) Fu
     ⟨_,ra [(1,0)],0,h,rfl⟩ ?_
    rintro m s ⟨jE,h,rfl⟩
    obtain⟨m5,q63,rfl,h,hq64⟩:=bu h
    replace h:qC a0 jE=some q63:=h
    refine ai fun _ k65=>sr fun _ k66=>rP mv<|rP (fa av bO)<|rX (ld bO)<|rP (zl bO)<|rP bi<|en k66<|wi 106 h (fun c67 h=>?_) fun c67 h=>?_
    ·refine aq<|k65 _<|ai fun _ k68=>ax<|sr fun _ k69=>rP (fa av bO)<|rX (ld bO)<|rP mv<|gE h fun g70 h=>bE h fun x71 y71 h=>rP (ia bO cj g70 y71)<|rP (fa cj ap)<|rX (ld ap)<|rP (eh W_ ap)<|rP bi<|rP mv<|li 117 h (fun c72 h=>?_) fun c72 h=>?_
     ·refine rS<|rS<|rS<|rS<|rS<|rS<|rS<|rS<|rP pc<|en k69<|bM D_ rfl<|sr fun _ k73=>rP Y<|en k73<|ac<|by cases ah h hq64;exact rk
     ·refine rP (fa av bO)<|rX (ld bO)<|rP mv<|gE h fun g74 h=>bE h fun x75 y75 h=>rP (ia bO cj g74 y75)<|rP (fa cj ap)<|rX (ld ap)<|rP (eh W_ ap)<|rP bi<|rP pc<|en k69<|wi 126 h (fun c76 h=>?_) fun c76 h=>?_
      ·refine sr fun _ k77=>rP Y<|en k77<|ac<|by cases ah h hq64;exact rk
      ·refine aq<|k68 _<|aB<|rP mv<|rP bi<|rP Y<|aM<|bk (ra [(1,0)]) ⟨(IntKind.i64.wrap (jE+1)),aI h hq64,rfl⟩
    ·refine bc<|tk (ah h hq64) fun h=>k61 _<|sr fun _ k78=>rP Y<|en k78<|ac<|by cases h;exact rk
def bT.wf (a:bT):Prop:=(Trace.wf a.Trace)∧True
theorem PY:∀(m:Nat) (cs:List PV),bL Tryz.prog m 80 cs→∃a:bT,cs=[.int .u64 a.Trace.Hi,.int .u64 a.Trace.Lo,.bool a.Kept]∧(bT.wf a):=fun m cs h=>by
 obtain⟨hl,m,hf⟩:=jP h Tryz.underlying80
 have f0:=hf 0 _ rfl
 obtain⟨a0,e0,w0⟩:=wo m _ f0
 rw[show Tryz.prog.cellsOf _=2 by kernel_rfl]at e0
 have f1:=hf 1 _ rfl
 obtain⟨a1,e1,w1⟩:=Aj m _ f1
 rw[show Tryz.prog.cellsOf _=1 by kernel_rfl]at e1
 exact⟨⟨a0,a1⟩,iy (l:=[(2,[.int .u64 a0.Hi,.int .u64 a0.Lo]),(1,[.bool a1])]) ⟨e0,e1,trivial⟩ hl (by kernel_rfl),⟨w0,w1⟩⟩
theorem PZ:∀(m:Nat) (cs:List PV),bL Tryz.prog m 26 cs→∃a:List bT,cs=[.sl 3 (List.map aQ a)]∧((List.length a)≤maxLen∧∀y∈a,bT.wf y):=fun m cs h=>by
 obtain⟨l,h1,h2,h3⟩:=mc (f:=aQ) (Q:=fun y=>bT.wf y) h Tryz.underlying26 (fun m ps hs=>by
  obtain⟨a,rfl,hw⟩:=PY m ps hs
  exact⟨a,by rw[show aggT Tryz.prog 80=true by kernel_rfl];rfl,hw⟩)
 exact⟨l,h1.trans (by rw[show Tryz.prog.cellsOf 80=3 by kernel_rfl]),h2,h3⟩
def fO.wf (a:fO):Prop:=(cX .i64 a.c0)∧(cX .i64 a.c1)∧(cX .i64 a.c2)∧(cX .i64 a.c3)∧(cX .i64 a.c4)∧(cX .i64 a.c5)∧(cX .i64 a.c6)∧(cX .i64 a.c7)
theorem P0:∀(m:Nat) (cs:List PV),bL Tryz.prog m 53 cs→∃a:fO,cs=[.int .i64 a.c0,.int .i64 a.c1,.int .i64 a.c2,.int .i64 a.c3,.int .i64 a.c4,.int .i64 a.c5,.int .i64 a.c6,.int .i64 a.c7]∧(fO.wf a):=fun m cs h=>by
 obtain⟨hl,m,hf⟩:=GY (c:=1) h Tryz.underlying53 (by kernel_rfl)
 have f0:=hf 0 D_
 obtain⟨a0,e0,w0⟩:=d9 m _ f0
 have f1:=hf 1 D_
 obtain⟨a1,e1,w1⟩:=d9 m _ f1
 have f2:=hf 2 D_
 obtain⟨a2,e2,w2⟩:=d9 m _ f2
 have f3:=hf 3 D_
 obtain⟨a3,e3,w3⟩:=d9 m _ f3
 have f4:=hf 4 D_
 obtain⟨a4,e4,w4⟩:=d9 m _ f4
 have f5:=hf 5 D_
 obtain⟨a5,e5,w5⟩:=d9 m _ f5
 have f6:=hf 6 D_
 obtain⟨a6,e6,w6⟩:=d9 m _ f6
 have f7:=hf 7 D_
 obtain⟨a7,e7,w7⟩:=d9 m _ f7
 exact⟨⟨a0,a1,a2,a3,a4,a5,a6,a7⟩,iy (l:=[(1,[.int .i64 a0]),(1,[.int .i64 a1]),(1,[.int .i64 a2]),(1,[.int .i64 a3]),(1,[.int .i64 a4]),(1,[.int .i64 a5]),(1,[.int .i64 a6]),(1,[.int .i64 a7])]) ⟨e0,e1,e2,e3,e4,e5,e6,e7,trivial⟩ hl (by kernel_rfl),⟨w0,w1,w2,w3,w4,w5,w6,w7⟩⟩
def Counter.wf (a:Counter):Prop:=(cX .i64 a.Count)∧(cX .i64 a.Errs)∧(fO.wf a.By)
theorem P1:∀(m:Nat) (cs:List PV),bL Tryz.prog m 55 cs→∃a:Counter,cs=[.int .i64 a.Count,.int .i64 a.Errs,.int .i64 a.By.c0,.int .i64 a.By.c1,.int .i64 a.By.c2,.int .i64 a.By.c3,.int .i64 a.By.c4,.int .i64 a.By.c5,.int .i64 a.By.c6,.int .i64 a.By.c7]∧(Counter.wf a):=fun m cs h=>by
 obtain⟨hl,m,hf⟩:=jP h Tryz.underlying55
 have f0:=hf 0 _ rfl
 obtain⟨a0,e0,w0⟩:=d9 m _ f0
 rw[show Tryz.prog.cellsOf _=1 by kernel_rfl]at e0
 have f1:=hf 1 _ rfl
 obtain⟨a1,e1,w1⟩:=d9 m _ f1
 rw[show Tryz.prog.cellsOf _=1 by kernel_rfl]at e1
 have f2:=hf 2 _ rfl
 obtain⟨a2,e2,w2⟩:=P0 m _ f2
 rw[show Tryz.prog.cellsOf _=8 by kernel_rfl]at e2
 exact⟨⟨a0,a1,a2⟩,iy (l:=[(1,[.int .i64 a0]),(1,[.int .i64 a1]),(8,[.int .i64 a2.c0,.int .i64 a2.c1,.int .i64 a2.c2,.int .i64 a2.c3,.int .i64 a2.c4,.int .i64 a2.c5,.int .i64 a2.c6,.int .i64 a2.c7])]) ⟨e0,e1,e2,trivial⟩ hl (by kernel_rfl),⟨w0,w1,w2⟩⟩
def bo.wf (a:bo):Prop:=(cX .i64 a.Level)∧(cX .i64 a.Window)∧((ByteArray.size a.Service)≤maxLen)∧((ByteArray.size a.Op)≤maxLen)∧(Counter.wf a.Counter)
theorem P2:∀(m:Nat) (cs:List PV),bL Tryz.prog m 57 cs→∃a:bo,cs=[.int .i64 a.Level,.int .i64 a.Window,.str a.Service,.str a.Op,.int .i64 a.Counter.Count,.int .i64 a.Counter.Errs,.int .i64 a.Counter.By.c0,.int .i64 a.Counter.By.c1,.int .i64 a.Counter.By.c2,.int .i64 a.Counter.By.c3,.int .i64 a.Counter.By.c4,.int .i64 a.Counter.By.c5,.int .i64 a.Counter.By.c6,.int .i64 a.Counter.By.c7]∧(bo.wf a):=fun m cs h=>by
 obtain⟨hl,m,hf⟩:=jP h Tryz.underlying57
 have f0:=hf 0 _ rfl
 obtain⟨a0,e0,w0⟩:=d9 m _ f0
 rw[show Tryz.prog.cellsOf _=1 by kernel_rfl]at e0
 have f1:=hf 1 _ rfl
 obtain⟨a1,e1,w1⟩:=d9 m _ f1
 rw[show Tryz.prog.cellsOf _=1 by kernel_rfl]at e1
 have f2:=hf 2 _ rfl
 obtain⟨a2,e2,w2⟩:=jm m _ f2
 rw[show Tryz.prog.cellsOf _=1 by kernel_rfl]at e2
 have f3:=hf 3 _ rfl
 obtain⟨a3,e3,w3⟩:=jm m _ f3
 rw[show Tryz.prog.cellsOf _=1 by kernel_rfl]at e3
 have f4:=hf 4 _ rfl
 obtain⟨a4,e4,w4⟩:=P1 m _ f4
 rw[show Tryz.prog.cellsOf _=10 by kernel_rfl]at e4
 exact⟨⟨a0,a1,a2,a3,a4⟩,iy (l:=[(1,[.int .i64 a0]),(1,[.int .i64 a1]),(1,[.str a2]),(1,[.str a3]),(10,[.int .i64 a4.Count,.int .i64 a4.Errs,.int .i64 a4.By.c0,.int .i64 a4.By.c1,.int .i64 a4.By.c2,.int .i64 a4.By.c3,.int .i64 a4.By.c4,.int .i64 a4.By.c5,.int .i64 a4.By.c6,.int .i64 a4.By.c7])]) ⟨e0,e1,e2,e3,e4,trivial⟩ hl (by kernel_rfl),⟨w0,w1,w2,w3,w4⟩⟩
theorem P3:∀(m:Nat) (cs:List PV),bL Tryz.prog m 27 cs→∃a:List bo,cs=[.sl 14 (List.map aP a)]∧((List.length a)≤maxLen∧∀y∈a,bo.wf y):=fun m cs h=>by
 obtain⟨l,h1,h2,h3⟩:=mc (f:=aP) (Q:=fun y=>bo.wf y) h Tryz.underlying27 (fun m ps hs=>by
  obtain⟨a,rfl,hw⟩:=P2 m ps hs
  exact⟨a,by rw[show aggT Tryz.prog 57=true by kernel_rfl];rfl,hw⟩)
 exact⟨l,h1.trans (by rw[show Tryz.prog.cellsOf 57=14 by kernel_rfl]),h2,h3⟩
def Edge.wf (a:Edge):Prop:=((ByteArray.size a.From)≤maxLen)∧((ByteArray.size a.To)≤maxLen)∧(cX .i64 a.Count)∧(cX .i64 a.Errs)
theorem P4:∀(m:Nat) (cs:List PV),bL Tryz.prog m 59 cs→∃a:Edge,cs=[.str a.From,.str a.To,.int .i64 a.Count,.int .i64 a.Errs]∧(Edge.wf a):=fun m cs h=>by
 obtain⟨hl,m,hf⟩:=jP h Tryz.underlying59
 have f0:=hf 0 _ rfl
 obtain⟨a0,e0,w0⟩:=jm m _ f0
 rw[show Tryz.prog.cellsOf _=1 by kernel_rfl]at e0
 have f1:=hf 1 _ rfl
 obtain⟨a1,e1,w1⟩:=jm m _ f1
 rw[show Tryz.prog.cellsOf _=1 by kernel_rfl]at e1
 have f2:=hf 2 _ rfl
 obtain⟨a2,e2,w2⟩:=d9 m _ f2
 rw[show Tryz.prog.cellsOf _=1 by kernel_rfl]at e2
 have f3:=hf 3 _ rfl
 obtain⟨a3,e3,w3⟩:=d9 m _ f3
 rw[show Tryz.prog.cellsOf _=1 by kernel_rfl]at e3
 exact⟨⟨a0,a1,a2,a3⟩,iy (l:=[(1,[.str a0]),(1,[.str a1]),(1,[.int .i64 a2]),(1,[.int .i64 a3])]) ⟨e0,e1,e2,e3,trivial⟩ hl (by kernel_rfl),⟨w0,w1,w2,w3⟩⟩
theorem P5:∀(m:Nat) (cs:List PV),bL Tryz.prog m 28 cs→∃a:List Edge,cs=[.sl 4 (List.map aU a)]∧((List.length a)≤maxLen∧∀y∈a,Edge.wf y):=fun m cs h=>by
 obtain⟨l,h1,h2,h3⟩:=mc (f:=aU) (Q:=fun y=>Edge.wf y) h Tryz.underlying28 (fun m ps hs=>by
  obtain⟨a,rfl,hw⟩:=P4 m ps hs
  exact⟨a,by rw[show aggT Tryz.prog 59=true by kernel_rfl];rfl,hw⟩)
 exact⟨l,h1.trans (by rw[show Tryz.prog.cellsOf 59=4 by kernel_rfl]),h2,h3⟩
def bz.wf (a:bz):Prop:=((ByteArray.size a.Service)≤maxLen)∧((ByteArray.size a.Op)≤maxLen)∧(Trace.wf a.Trace)∧(cX .u64 a.Id)∧(cX .i64 a.Block)
theorem P6:∀(m:Nat) (cs:List PV),bL Tryz.prog m 64 cs→∃a:bz,cs=[.str a.Service,.str a.Op,.int .u64 a.Trace.Hi,.int .u64 a.Trace.Lo,.int .u64 a.Id,.int .i64 a.Block]∧(bz.wf a):=fun m cs h=>by
 obtain⟨hl,m,hf⟩:=jP h Tryz.underlying64
 have f0:=hf 0 _ rfl
 obtain⟨a0,e0,w0⟩:=jm m _ f0
 rw[show Tryz.prog.cellsOf _=1 by kernel_rfl]at e0
 have f1:=hf 1 _ rfl
 obtain⟨a1,e1,w1⟩:=jm m _ f1
 rw[show Tryz.prog.cellsOf _=1 by kernel_rfl]at e1
 have f2:=hf 2 _ rfl
 obtain⟨a2,e2,w2⟩:=wo m _ f2
 rw[show Tryz.prog.cellsOf _=2 by kernel_rfl]at e2
 have f3:=hf 3 _ rfl
 obtain⟨a3,e3,w3⟩:=sX m _ f3
 rw[show Tryz.prog.cellsOf _=1 by kernel_rfl]at e3
 have f4:=hf 4 _ rfl
 obtain⟨a4,e4,w4⟩:=d9 m _ f4
 rw[show Tryz.prog.cellsOf _=1 by kernel_rfl]at e4
 exact⟨⟨a0,a1,a2,a3,a4⟩,iy (l:=[(1,[.str a0]),(1,[.str a1]),(2,[.int .u64 a2.Hi,.int .u64 a2.Lo]),(1,[.int .u64 a3]),(1,[.int .i64 a4])]) ⟨e0,e1,e2,e3,e4,trivial⟩ hl (by kernel_rfl),⟨w0,w1,w2,w3,w4⟩⟩
theorem P7:∀(m:Nat) (cs:List PV),bL Tryz.prog m 29 cs→∃a:List bz,cs=[.sl 6 (List.map aV a)]∧((List.length a)≤maxLen∧∀y∈a,bz.wf y):=fun m cs h=>by
 obtain⟨l,h1,h2,h3⟩:=mc (f:=aV) (Q:=fun y=>bz.wf y) h Tryz.underlying29 (fun m ps hs=>by
  obtain⟨a,rfl,hw⟩:=P6 m ps hs
  exact⟨a,by rw[show aggT Tryz.prog 64=true by kernel_rfl];rfl,hw⟩)
 exact⟨l,h1.trans (by rw[show Tryz.prog.cellsOf 64=6 by kernel_rfl]),h2,h3⟩
def aC.wf (a:aC):Prop:=(cX .i64 a.Now)∧(cX .i64 a.Sec)∧(cX .i64 a.Kept)∧(cX .i64 a.Next)∧(af.wf a.Policy)∧((List.length a.Open)≤maxLen∧∀y∈a.Open,az.wf y)∧((List.length a.Pending)≤maxLen∧∀y∈a.Pending,az.wf y)∧((List.length a.Memo)≤maxLen∧∀y∈a.Memo,bT.wf y)∧((List.length a.Rows)≤maxLen∧∀y∈a.Rows,bo.wf y)∧((List.length a.Edges)≤maxLen∧∀y∈a.Edges,Edge.wf y)∧((List.length a.Slots)≤maxLen∧∀y∈a.Slots,bz.wf y)∧((List.length a.Blocks)≤maxLen∧∀y∈a.Blocks,Block.wf y)
theorem sh32:∀(m:Nat) (cs:List PV),bL Tryz.prog m 32 cs→∃a:aC,cs=[.int .i64 a.Now,.int .i64 a.Sec,.int .i64 a.Kept,.int .i64 a.Next,.int .i64 a.Policy.Kind,.int .i64 a.Policy.N,.str a.Policy.Key,.str a.Policy.Value,.sl 5 (List.map aj a.Policy.Kids),.sl 6 (List.map ak a.Open),.sl 6 (List.map ak a.Pending),.sl 3 (List.map aQ a.Memo),.sl 14 (List.map aP a.Rows),.sl 4 (List.map aU a.Edges),.sl 6 (List.map aV a.Slots),.sl 4 (List.map aR a.Blocks)]∧(aC.wf a):=fun m cs h=>by
 obtain⟨hl,m,hf⟩:=jP h Tryz.underlying32
 have f0:=hf 0 _ rfl
 obtain⟨a0,e0,w0⟩:=d9 m _ f0
 rw[show Tryz.prog.cellsOf _=1 by kernel_rfl]at e0
 have f1:=hf 1 _ rfl
 obtain⟨a1,e1,w1⟩:=d9 m _ f1
 rw[show Tryz.prog.cellsOf _=1 by kernel_rfl]at e1
 have f2:=hf 2 _ rfl
 obtain⟨a2,e2,w2⟩:=d9 m _ f2
 rw[show Tryz.prog.cellsOf _=1 by kernel_rfl]at e2
 have f3:=hf 3 _ rfl
 obtain⟨a3,e3,w3⟩:=d9 m _ f3
 rw[show Tryz.prog.cellsOf _=1 by kernel_rfl]at e3
 have f4:=hf 4 _ rfl
 obtain⟨a4,e4,w4⟩:=MR m _ f4
 rw[show Tryz.prog.cellsOf _=5 by kernel_rfl]at e4
 have f5:=hf 5 _ rfl
 obtain⟨a5,e5,w5⟩:=Bf m _ f5
 rw[show Tryz.prog.cellsOf _=1 by kernel_rfl]at e5
 have f6:=hf 6 _ rfl
 obtain⟨a6,e6,w6⟩:=Bf m _ f6
 rw[show Tryz.prog.cellsOf _=1 by kernel_rfl]at e6
 have f7:=hf 7 _ rfl
 obtain⟨a7,e7,w7⟩:=PZ m _ f7
 rw[show Tryz.prog.cellsOf _=1 by kernel_rfl]at e7
 have f8:=hf 8 _ rfl
 obtain⟨a8,e8,w8⟩:=P3 m _ f8
 rw[show Tryz.prog.cellsOf _=1 by kernel_rfl]at e8
 have f9:=hf 9 _ rfl
 obtain⟨a9,e9,w9⟩:=P5 m _ f9
 rw[show Tryz.prog.cellsOf _=1 by kernel_rfl]at e9
 have f10:=hf 10 _ rfl
 obtain⟨a10,e10,w10⟩:=P7 m _ f10
 rw[show Tryz.prog.cellsOf _=1 by kernel_rfl]at e10
 have f11:=hf 11 _ rfl
 obtain⟨a11,e11,w11⟩:=PX m _ f11
 rw[show Tryz.prog.cellsOf _=1 by kernel_rfl]at e11
 exact⟨⟨a0,a1,a2,a3,a4,a5,a6,a7,a8,a9,a10,a11⟩,iy (l:=[(1,[.int .i64 a0]),(1,[.int .i64 a1]),(1,[.int .i64 a2]),(1,[.int .i64 a3]),(5,[.int .i64 a4.Kind,.int .i64 a4.N,.str a4.Key,.str a4.Value,.sl 5 (List.map aj a4.Kids)]),(1,[.sl 6 (List.map ak a5)]),(1,[.sl 6 (List.map ak a6)]),(1,[.sl 3 (List.map aQ a7)]),(1,[.sl 14 (List.map aP a8)]),(1,[.sl 4 (List.map aU a9)]),(1,[.sl 6 (List.map aV a10)]),(1,[.sl 4 (List.map aR a11)])]) ⟨e0,e1,e2,e3,e4,e5,e6,e7,e8,e9,e10,e11,trivial⟩ hl (by kernel_rfl),⟨w0,w1,w2,w3,w4,w5,w6,w7,w8,w9,w10,w11⟩⟩
def qE (a0:Int):Option Int:=
 some a0
theorem Bk (a0:Int) {r:Int} (h:qE a0=some r):Ok Tryz.prog 11 [.int .i64 a0] [] [] (.int .i64 r) [] []:=by
 unfold qE at h
 refine oK Tryz.func11 rfl fun X=>sr fun _ k1=>rP Y<|en k1<|sr fun _ k2=>rP mv<|rP Y<|en k2<|ac<|by cases h;exact rk
def xn:Option Bool:=
 Option.bind (iM []) (fun(x3:aC×Int)=>Option.bind (tn (aC.mk 4 0 0 0 (af.mk 1 0 (aa []) (aa []) []) [] [] [] [] [] [] [])) (fun(x5:List UInt8)=>Option.bind (iM x5) (fun(x6:aC×Int)=>Option.bind (qE x3.2) (fun(x8:Int)=>if(x8 == 2)=true then(Option.bind (qE x6.2) (fun(x10:Int)=>if(x10 == 0)=true then(if(x6.1.Now == 4)=true then(Option.bind (mQ (aC.mk 0 0 0 0 (af.mk 0 0 (aa []) (aa []) []) [] [] [] [] [] [] [])) (fun(x13:Bool)=>some (!x13)))else(some false))else(some false)))else(some false)))))
theorem P8 {r:Bool} (h:xn=some r):Ok Tryz.prog 6 [] [] [] (.bool r) [] []:=by
 refine oK Tryz.func6 rfl fun X=>sr fun _ k1=>rP Y<|en k1<|sr fun _ k2=>bE h fun x3 y3 h=>rD (cZ ((A0 [] y3).weak (args':=[.nil]) ⟨ba _,trivial⟩) Ba)<|rP mv<|rP ex<|rP ex<|rD (nw av)<|pZ (aA [.int .i64 x3.1.Now,.int .i64 x3.1.Sec,.int .i64 x3.1.Kept,.int .i64 x3.1.Next,.int .i64 x3.1.Policy.Kind,.int .i64 x3.1.Policy.N,.str x3.1.Policy.Key,.str x3.1.Policy.Value,.sl 5 (List.map aj x3.1.Policy.Kids),.sl 6 (List.map ak x3.1.Open),.sl 6 (List.map ak x3.1.Pending),.sl 3 (List.map aQ x3.1.Memo),.sl 14 (List.map aP x3.1.Rows),.sl 4 (List.map aU x3.1.Edges),.sl 6 (List.map aV x3.1.Slots),.sl 4 (List.map aR x3.1.Blocks)] av)<|rP Y<|en k2<|sr fun _ k4=>rP (cP (cs:=[.int .i64 1,.int .i64 0,.str (aa []),.str (aa []),.nil]) ar rfl [⟨.int .i64,1,8,[.int .i64 0]⟩,⟨.int .i64,1,8,[.int .i64 0]⟩,⟨.str,1,16,[.str ByteArray.empty]⟩,⟨.str,1,16,[.str ByteArray.empty]⟩,⟨.slice 24,1,24,[.nil]⟩] (by simp only[List.map,br,ae,ap]) (by rfl) R_)<|rP ((cP (cs:=[.int .i64 4,.int .i64 0,.int .i64 0,.int .i64 0,.int .i64 1,.int .i64 0,.str (aa []),.str (aa []),.nil,.nil,.nil,.nil,.nil,.nil,.nil,.nil]) av rfl [⟨.int .i64,1,8,[.int .i64 0]⟩,⟨.int .i64,1,8,[.int .i64 0]⟩,⟨.int .i64,1,8,[.int .i64 0]⟩,⟨.int .i64,1,8,[.int .i64 0]⟩,⟨.struct [(0,3),(1,3),(2,9),(3,9),(4,22)],5,72,[.int .i64 0,.int .i64 0,.str ByteArray.empty,.str ByteArray.empty,.nil]⟩,⟨.slice 69,1,24,[.nil]⟩,⟨.slice 69,1,24,[.nil]⟩,⟨.slice 80,1,24,[.nil]⟩,⟨.slice 57,1,24,[.nil]⟩,⟨.slice 59,1,24,[.nil]⟩,⟨.slice 64,1,24,[.nil]⟩,⟨.slice 41,1,24,[.nil]⟩] (by simp only[List.map,ar,bp,ci,bU,bH,bO,ae,bF]) (by rfl) R_).weak (v':=.agg [.int .i64 4,.int .i64 0,.int .i64 0,.int .i64 0,.int .i64 1,.int .i64 0,.str (aa []),.str (aa []),.sl 5 (List.map aj []),.sl 6 (List.map ak []),.sl 6 (List.map ak []),.sl 3 (List.map aQ []),.sl 14 (List.map aP []),.sl 4 (List.map aU []),.sl 6 (List.map aV []),.sl 4 (List.map aR [])]) (xG ⟨ao _,ao _,ao _,ao _,ao _,ao _,ao _,ao _,ba _,ba _,ba _,ba _,ba _,ba _,ba _,ba _,trivial⟩))<|bE h fun x5 y5 h=>rD (cZ (Gh (aC.mk 4 0 0 0 (af.mk 1 0 (aa []) (aa []) []) [] [] [] [] [] [] []) y5) GA)<|bE h fun x6 y6 h=>rD (db (d:=12) (n:=0) W_ (cG [] [] [(12,0)] (A0 x5 y6) Ba (.inl ⟨⟨_,_,_,rfl⟩,trivial⟩)))<|rP mv<|rP ex<|rP ex<|rD (nw av)<|pZ (aA [.int .i64 x6.1.Now,.int .i64 x6.1.Sec,.int .i64 x6.1.Kept,.int .i64 x6.1.Next,.int .i64 x6.1.Policy.Kind,.int .i64 x6.1.Policy.N,.str x6.1.Policy.Key,.str x6.1.Policy.Value,.sl 5 (List.map aj x6.1.Policy.Kids),.sl 6 (List.map ak x6.1.Open),.sl 6 (List.map ak x6.1.Pending),.sl 3 (List.map aQ x6.1.Memo),.sl 14 (List.map aP x6.1.Rows),.sl 4 (List.map aU x6.1.Edges),.sl 6 (List.map aV x6.1.Slots),.sl 4 (List.map aR x6.1.Blocks)] av)<|rP Y<|en k4<|sr fun _ k7=>rP mv<|bE h fun x8 y8 h=>rD (cZ (Bk x3.2 y8) Bb)<|rP bi<|rP mv<|li 19 h (fun c9 h=>?_) fun c9 h=>?_
 ·refine rP mv<|bE h fun x10 y10 h=>rD (cZ (Bk x6.2 y10) Bb)<|rP bi<|rP pc<|rP mv<|li 24 h (fun c11 h=>?_) fun c11 h=>?_
  ·refine rP (fa av ae)<|rX (ld ae)<|rP bi<|rP pc<|rP mv<|li 29 h (fun c12 h=>?_) fun c12 h=>?_
   ·refine rP ((cP (cs:=[.int .i64 0,.int .i64 0,.int .i64 0,.int .i64 0,.int .i64 0,.int .i64 0,.str (aa []),.str (aa []),.nil,.nil,.nil,.nil,.nil,.nil,.nil,.nil]) av rfl [⟨.int .i64,1,8,[.int .i64 0]⟩,⟨.int .i64,1,8,[.int .i64 0]⟩,⟨.int .i64,1,8,[.int .i64 0]⟩,⟨.int .i64,1,8,[.int .i64 0]⟩,⟨.struct [(0,3),(1,3),(2,9),(3,9),(4,22)],5,72,[.int .i64 0,.int .i64 0,.str ByteArray.empty,.str ByteArray.empty,.nil]⟩,⟨.slice 69,1,24,[.nil]⟩,⟨.slice 69,1,24,[.nil]⟩,⟨.slice 80,1,24,[.nil]⟩,⟨.slice 57,1,24,[.nil]⟩,⟨.slice 59,1,24,[.nil]⟩,⟨.slice 64,1,24,[.nil]⟩,⟨.slice 41,1,24,[.nil]⟩] (by simp only[List.map,ar,bp,ci,bU,bH,bO,ae,bF]) (by rfl) R_).weak (v':=.agg [.int .i64 0,.int .i64 0,.int .i64 0,.int .i64 0,.int .i64 0,.int .i64 0,.str (aa []),.str (aa []),.sl 5 (List.map aj []),.sl 6 (List.map ak []),.sl 6 (List.map ak []),.sl 3 (List.map aQ []),.sl 14 (List.map aP []),.sl 4 (List.map aU []),.sl 6 (List.map aV []),.sl 4 (List.map aR [])]) (xG ⟨ao _,ao _,ao _,ao _,ao _,ao _,ao _,ao _,ba _,ba _,ba _,ba _,ba _,ba _,ba _,ba _,trivial⟩))<|bE h fun x13 y13 h=>rD (cZ (wQ (aC.mk 0 0 0 0 (af.mk 0 0 (aa []) (aa []) []) [] [] [] [] [] [] []) y13) wR)<|rP un<|rP pc<|rP Y<|en k7<|ac<|by cases h;exact rk
   ·refine rS<|rS<|rS<|rP pc<|rP Y<|en k7<|ac<|by cases h;exact rk
  ·refine rS<|rS<|rS<|rP pc<|rP mv<|rS<|rS<|rS<|rP pc<|rP Y<|en k7<|ac<|by cases h;exact rk
 ·refine rS<|rS<|rS<|rP pc<|rP mv<|rS<|rS<|rS<|rP pc<|rP mv<|rS<|rS<|rS<|rP pc<|rP Y<|en k7<|ac<|by cases h;exact rk
end Go.Proofs.YtjklegmimpehlaaGreat.Ab
