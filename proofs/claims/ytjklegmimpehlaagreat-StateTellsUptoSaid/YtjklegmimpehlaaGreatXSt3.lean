/- States: the document. -/
import Derived.Test.YtjklegmimpehlaaGreatXSt2
import Derived.Test.YtjklegmimpehlaaGreatProg
namespace Go.Proofs.YtjklegmimpehlaaGreat.Ab
open Go Go.RowKit
set_option linter.unusedVariables false
set_option linter.unusedSimpArgs false
set_option maxRecDepth 100000
set_option maxHeartbeats 8000000
theorem Gl:i2 Tryz.prog 8 57=some [.i .i64,.i .i64,.s,.s,.i .i64,.i .i64,.i .i64,.i .i64,.i .i64,.i .i64,.i .i64,.i .i64,.i .i64,.i .i64]:=by kernel_rfl
theorem Gm:aggT Tryz.prog 57=true:=by kernel_rfl
theorem Gn:Tryz.prog.eqGuardType Tryz.prog.depth 57=false:=by kernel_rfl
theorem Gp:iz Tryz.prog 8 59=some [.s,.s,.i .i64,.i .i64]:=by kernel_rfl
theorem Gq:aggT Tryz.prog 59=true:=by kernel_rfl
theorem Gr:Tryz.prog.eqGuardType Tryz.prog.depth 59=false:=by kernel_rfl
theorem Gs:iz Tryz.prog 8 64=some [.s,.s,.i .u64,.i .u64,.i .u64,.i .i64]:=by kernel_rfl
theorem Gt:aggT Tryz.prog 64=true:=by kernel_rfl
theorem Gu:Tryz.prog.eqGuardType Tryz.prog.depth 64=false:=by kernel_rfl
theorem Gv:iz Tryz.prog 8 80=some [.i .u64,.i .u64,.b]:=by kernel_rfl
theorem Gw:aggT Tryz.prog 80=true:=by kernel_rfl
theorem Gx:Tryz.prog.eqGuardType Tryz.prog.depth 80=false:=by kernel_rfl
theorem PA:aF Tryz.prog 23:=eN Tryz.func23
theorem PB:aF Tryz.prog 24:=eN Tryz.func24
theorem qw:aF Tryz.prog 25:=eN Tryz.func25
theorem A3:aF Tryz.prog 37:=eN Tryz.func37
theorem PC:aF Tryz.prog 38:=eN Tryz.func38
theorem PD:aF Tryz.prog 39:=eN Tryz.func39
theorem PE:aF Tryz.prog 40:=eN Tryz.func40
theorem PF:aF Tryz.prog 41:=eN Tryz.func41
theorem PG:aF Tryz.prog 42:=eN Tryz.func42
theorem PH:aF Tryz.prog 83:=eN Tryz.func83
theorem PI:aF Tryz.prog 115:=eN Tryz.func115
def xd (a0:Int):Option Int:=
 if(a0 == 0)=true then(some 60)else(if(a0 == 1)=true then(some 3600)else(if(a0 == 2)=true then(some 86400)else(some 0)))
theorem PJ (a0:Int) {r:Int} (h:xd a0=some r):Ok Tryz.prog 83 [.int .i64 a0] [] [] (.int .i64 r) [] []:=by
 refine oK Tryz.func83 rfl fun X=>sr fun _ k1=>rP Y<|en k1<|ai fun _ k2=>sr fun _ k3=>rP mv<|en k3<|ax<|sr fun _ k4=>rP bi<|rP Y<|en k4<|wi 4 h (fun c5 h=>?_) fun c5 h=>?_
 ·refine sr fun _ k6=>rP Y<|en k6<|ac<|by cases h;exact rk
 ·refine sr fun _ k7=>rP bi<|rP Y<|en k7<|wi 6 h (fun c8 h=>?_) fun c8 h=>?_
  ·refine sr fun _ k9=>rP Y<|en k9<|ac<|by cases h;exact rk
  ·refine sr fun _ k10=>rP bi<|rP Y<|en k10<|wi 8 h (fun c11 h=>?_) fun c11 h=>?_
   ·refine sr fun _ k12=>rP Y<|en k12<|ac<|by cases h;exact rk
   ·refine aq<|k2 _<|sr fun _ k13=>rP Y<|en k13<|ac<|by cases h;exact rk
def A4 (a1:Int) (x3:Int):Option (Int×Int×Bool):=
 some ((IntKind.i64.wrap (a1*x3)),(IntKind.i64.wrap ((IntKind.i64.wrap (a1*x3))+x3)),true)
def xe (a0:Int) (a1:Int):Option (Int×Int×Bool):=
 Option.bind (xd a0) (fun(x3:Int)=>Option.bind (if(x3 == 0)=true then(some (Sum.inr (0,0,false)))else(gd (¬x3=0) (Option.bind (gb a1 0 (IntKind.i64.wrap (Int.tdiv 1099511627776 x3))) (fun(x10:Bool)=>if(!x10)=true then(some (Sum.inr (0,0,false)))else(some (Sum.inl ())))))) (Sum.elim (fun(s:Unit)=>A4 a1 x3) some))
theorem PK (a0:Int) (a1:Int) {r:Int×Int×Bool} (h:xe a0 a1=some r):Ok Tryz.prog 24 [.int .i64 a0,.int .i64 a1] [] [] (.tup [.int .i64 r.1,.int .i64 r.2.1,.bool r.2.2]) [] []:=by
 refine oK Tryz.func24 rfl fun X=>sr fun _ k1=>rP Y<|rP Y<|rP Y<|en k1<|sr fun _ k2=>rP mv<|bE h fun x3 y3 h=>rD (cZ (PJ a0 y3) PH)<|rP Y<|en k2<|bE h fun q4 h hk5=>bx (fun s=>A4 a1 x3=some r∧s=lit [(1,.int .i64 a1),(7,.int .i64 x3)] [] [] X) ?_ ?_
 ·skip
  refine sr fun _ k6=>rP mv<|rP bi<|rP mv<|li 12 h (fun c7 h=>?_) fun c7 h=>?_
  ·refine rS<|rS<|rS<|rS<|rS<|rP pc<|en k6<|bM D_ rfl<|sr fun _ k8=>rP Y<|rP Y<|rP Y<|en k8<|ac<|by cases ah h hk5;exact rk
  ·refine rP mv<|rP mv<|gE h fun g9 h=>rP (jO (v:=.int .i64 (IntKind.i64.wrap (Int.tdiv 1099511627776 x3))) W_ W_ (B0 g9))<|bE h fun x10 y10 h=>rD (cZ (la a1 0 (IntKind.i64.wrap (Int.tdiv 1099511627776 x3)) y10) kZ)<|rP un<|rP pc<|en k6<|wi 18 h (fun c11 h=>?_) fun c11 h=>?_
   ·refine sr fun _ k12=>rP Y<|rP Y<|rP Y<|en k12<|ac<|by cases ah h hk5;exact rk
   ·refine aq<|tk (aI h hk5) fun h=>?_
    exact⟨_,ra [],h,rfl⟩
 ·rintro s ⟨h,rfl⟩
  unfold A4 at h
  refine sr fun _ k13=>rP mv<|rP mv<|rP bi<|rP mv<|rP mv<|rP bi<|rP mv<|rP bi<|rP Y<|rP Y<|rP Y<|en k13<|ac<|by cases h;exact rk
def lS (a0:ByteArray):Option Bool:=
 if(decide ((1:Int)≤(ByteArray.size a0:Int)))=true then(some (decide ((ByteArray.size a0:Int)≤16)))else(some false)
theorem qx (a0:ByteArray) {r:Bool} (h:lS a0=some r):Ok Tryz.prog 25 [.str a0] [] [] (.bool r) [] []:=by
 refine oK Tryz.func25 rfl fun X=>sr fun _ k1=>rP Y<|en k1<|sr fun _ k2=>rP mv<|rP (eh W_ ap)<|rP bi<|rP mv<|li 6 h (fun c3 h=>?_) fun c3 h=>?_
 ·refine rP mv<|rP (eh W_ ap)<|rP bi<|rP pc<|rP Y<|en k2<|ac<|by cases h;exact rk
 ·refine rS<|rS<|rS<|rP pc<|rP Y<|en k2<|ac<|by cases h;exact rk
def oj (a0:aC) (lm:Int):Option (Int⊕(Unit⊕Bool)):=
 if(decide (lm<(List.length (a0.Open++a0.Pending):Int)))=true then(gd (0≤lm) (Option.bind ((a0.Open++a0.Pending)[(Int.toNat lm)]?) (fun(x34:az)=>Option.bind (vV x34) (fun(x35:Bool)=>if(!x35)=true then(some (Sum.inr (Sum.inr false)))else(some (Sum.inl (IntKind.i64.wrap (lm+1))))))))else(some (Sum.inr (Sum.inl ())))
def om (fG:Int) (x49:bo) (gf:Bool) (gO:Int):Option ((Bool×Int)⊕(Int⊕(Unit⊕Bool))):=
 if(decide (gO<8))=true then(if gf=true then(gd (0≤gO) (gd (gO<8) (Option.bind (([x49.Counter.By.c0,x49.Counter.By.c1,x49.Counter.By.c2,x49.Counter.By.c3,x49.Counter.By.c4,x49.Counter.By.c5,x49.Counter.By.c6,x49.Counter.By.c7]:List Int)[(Int.toNat gO)]?) (fun(x73:Int)=>Option.bind (fN x73) (fun(x74:Bool)=>some (Sum.inl (x74,(IntKind.i64.wrap (gO+1)))))))))else(some (Sum.inl (false,(IntKind.i64.wrap (gO+1))))))else(Option.bind (if(!gf)=true then(some (Sum.inr (Sum.inr false)))else(some (Sum.inl (IntKind.i64.wrap (fG+1))))) (fun p=>some (Sum.inr p)))
def xf (fG:Int) (x49:bo) (qN:Bool):Option (Int⊕(Unit⊕Bool)):=
 am (fun(s:Bool×Int)=>om fG x49 s.1 s.2) Fu (qN,0)
def oo (a0:aC) (fG:Int):Option (Int⊕(Unit⊕Bool)):=
 if(decide (fG<(List.length a0.Rows:Int)))=true then(gd (0≤fG) (Option.bind (a0.Rows[(Int.toNat fG)]?) (fun(x49:bo)=>Option.bind (xe x49.Level x49.Window) (fun(x51:Int×Int×Bool)=>Option.bind (if x51.2.2=true then(Option.bind (lS x49.Service) (fun(x55:Bool)=>if x55=true then(Option.bind (lS x49.Op) (fun(x57:Bool)=>if x57=true then(Option.bind (fN x49.Counter.Count) (fun(x59:Bool)=>if x59=true then(Option.bind (fN x49.Counter.Errs) (fun(x61:Bool)=>some x61))else(some false)))else(some false)))else(some false)))else(some false)) (fun(s:Bool)=>xf fG x49 s)))))else(some (Sum.inr (Sum.inl ())))
def oq (a0:aC) (eg:Int):Option (Int⊕(Unit⊕Bool)):=
 if(decide (eg<(List.length a0.Edges:Int)))=true then(gd (0≤eg) (Option.bind (a0.Edges[(Int.toNat eg)]?) (fun(x89:Edge)=>Option.bind (lS x89.From) (fun(x90:Bool)=>if(!x90)=true then(some (Sum.inr (Sum.inr false)))else(gd (0≤eg) (Option.bind (a0.Edges[(Int.toNat eg)]?) (fun(x94:Edge)=>Option.bind (lS x94.To) (fun(x95:Bool)=>if(!x95)=true then(some (Sum.inr (Sum.inr false)))else(gd (0≤eg) (Option.bind (a0.Edges[(Int.toNat eg)]?) (fun(x99:Edge)=>Option.bind (fN x99.Count) (fun(x100:Bool)=>if(!x100)=true then(some (Sum.inr (Sum.inr false)))else(gd (0≤eg) (Option.bind (a0.Edges[(Int.toNat eg)]?) (fun(x104:Edge)=>Option.bind (fN x104.Errs) (fun(x105:Bool)=>if(!x105)=true then(some (Sum.inr (Sum.inr false)))else(some (Sum.inl (IntKind.i64.wrap (eg+1))))))))))))))))))))else(some (Sum.inr (Sum.inl ())))
def ot (a0:aC) (ip:Int):Option (Int⊕(Unit⊕Bool)):=
 if(decide (ip<(List.length a0.Slots:Int)))=true then(gd (0≤ip) (Option.bind (a0.Slots[(Int.toNat ip)]?) (fun(x119:bz)=>Option.bind (lS x119.Service) (fun(x120:Bool)=>if(!x120)=true then(some (Sum.inr (Sum.inr false)))else(gd (0≤ip) (Option.bind (a0.Slots[(Int.toNat ip)]?) (fun(x124:bz)=>Option.bind (lS x124.Op) (fun(x125:Bool)=>if(!x125)=true then(some (Sum.inr (Sum.inr false)))else(gd (0≤ip) (Option.bind (a0.Slots[(Int.toNat ip)]?) (fun(x129:bz)=>Option.bind (fN x129.Block) (fun(x130:Bool)=>if(!x130)=true then(some (Sum.inr (Sum.inr false)))else(some (Sum.inl (IntKind.i64.wrap (ip+1))))))))))))))))else(some (Sum.inr (Sum.inl ())))
def ou (a0:aC) (iq:Int):Option (Int⊕Bool):=
 if(decide (iq<(List.length a0.Blocks:Int)))=true then(gd (0≤iq) (Option.bind (a0.Blocks[(Int.toNat iq)]?) (fun(x143:Block)=>Option.bind (fN x143.Number) (fun(x144:Bool)=>if(!x144)=true then(some (Sum.inr false))else(gd (0≤iq) (Option.bind (a0.Blocks[(Int.toNat iq)]?) (fun(x148:Block)=>Option.bind (fN x148.Born) (fun(x149:Bool)=>if(!x149)=true then(some (Sum.inr false))else(gd (0≤iq) (Option.bind (a0.Blocks[(Int.toNat iq)]?) (fun(x153:Block)=>Option.bind (fN x153.Tier) (fun(x154:Bool)=>if(!x154)=true then(some (Sum.inr false))else(some (Sum.inl (IntKind.i64.wrap (iq+1))))))))))))))))else(some (Sum.inr true))
def xg (a0:aC):Option Bool:=
 am (fun(s:Int)=>ou a0 s) Fu 0
def A5 (a0:aC):Option Bool:=
 Option.bind (am (fun(s:Int)=>ot a0 s) Fu 0) (Sum.elim (fun(s:Unit)=>xg a0) some)
def A6 (a0:aC):Option Bool:=
 Option.bind (am (fun(s:Int)=>oq a0 s) Fu 0) (Sum.elim (fun(s:Unit)=>A5 a0) some)
def A7 (a0:aC):Option Bool:=
 Option.bind (am (fun(s:Int)=>oo a0 s) Fu 0) (Sum.elim (fun(s:Unit)=>A6 a0) some)
def A8 (a0:aC):Option Bool:=
 gd ((List.length a0.Open)*64≤140737488355328∧(List.length a0.Open)≤140737488355328) (gd ((List.length (a0.Open++a0.Pending))*64≤140737488355328∧(List.length (a0.Open++a0.Pending))≤140737488355328) (Option.bind (am (fun(s:Int)=>oj a0 s) Fu 0) (Sum.elim (fun(s:Unit)=>A7 a0) some)))
def qy (a0:aC):Option Bool:=
 Option.bind (Option.bind (fN a0.Now) (fun(x5:Bool)=>if(!x5)=true then(some (Sum.inr false))else(Option.bind (fN a0.Sec) (fun(x8:Bool)=>if(!x8)=true then(some (Sum.inr false))else(Option.bind (fN a0.Kept) (fun(x11:Bool)=>if(!x11)=true then(some (Sum.inr false))else(Option.bind (fN a0.Next) (fun(x14:Bool)=>if(!x14)=true then(some (Sum.inr false))else(Option.bind (pO a0.Policy) (fun(x17:Bool)=>if(!x17)=true then(some (Sum.inr false))else(some (Sum.inl ())))))))))))) (Sum.elim (fun(s:Unit)=>A8 a0) some)
theorem Gy (a0:aC) {r:Bool} (h:qy a0=some r):Ok Tryz.prog 8 [.agg [.int .i64 a0.Now,.int .i64 a0.Sec,.int .i64 a0.Kept,.int .i64 a0.Next,.int .i64 a0.Policy.Kind,.int .i64 a0.Policy.N,.str a0.Policy.Key,.str a0.Policy.Value,.sl 5 (List.map aj a0.Policy.Kids),.sl 6 (List.map ak a0.Open),.sl 6 (List.map ak a0.Pending),.sl 3 (List.map aQ a0.Memo),.sl 14 (List.map aP a0.Rows),.sl 4 (List.map aU a0.Edges),.sl 6 (List.map aV a0.Slots),.sl 4 (List.map aR a0.Blocks)]] [] [] (.bool r) [] []:=by
 refine oK Tryz.func8 rfl fun X=>sr fun _ k1=>rD (bY W_ rfl rfl)<|rP Y<|en k1<|bE h fun q2 h hk3=>bx (fun s=>A8 a0=some r∧s=lit [(1,.ptr 1 0 0)] [((1,0),.box [.int .i64 a0.Now,.int .i64 a0.Sec,.int .i64 a0.Kept,.int .i64 a0.Next,.int .i64 a0.Policy.Kind,.int .i64 a0.Policy.N,.str a0.Policy.Key,.str a0.Policy.Value,.sl 5 (List.map aj a0.Policy.Kids),.sl 6 (List.map ak a0.Open),.sl 6 (List.map ak a0.Pending),.sl 3 (List.map aQ a0.Memo),.sl 14 (List.map aP a0.Rows),.sl 4 (List.map aU a0.Edges),.sl 6 (List.map aV a0.Slots),.sl 4 (List.map aR a0.Blocks)])] [(1,1)] X) ?_ ?_
 ·skip
  refine sr fun _ k4=>rP (fa av ae)<|rX (ld ae)<|bE h fun x5 y5 h=>rD (cz (.bool x5) (gK a0.Now y5) gJ)<|rP un<|rP mv<|li 18 h (fun c6 h=>?_) fun c6 h=>?_
  ·refine rS<|rS<|rS<|rS<|rP pc<|rP mv<|rS<|rS<|rS<|rS<|rP pc<|rP mv<|rS<|rS<|rS<|rS<|rP pc<|rP mv<|rS<|rS<|rS<|rS<|rP pc<|en k4<|bM D_ rfl<|sr fun _ k7=>rP Y<|en k7<|ac<|by cases ah h hk3;exact rk
  ·refine rP (fa av ae)<|rX (ld ae)<|bE h fun x8 y8 h=>rD (cz (.bool x8) (gK a0.Sec y8) gJ)<|rP un<|rP pc<|rP mv<|li 24 h (fun c9 h=>?_) fun c9 h=>?_
   ·refine rS<|rS<|rS<|rS<|rP pc<|rP mv<|rS<|rS<|rS<|rS<|rP pc<|rP mv<|rS<|rS<|rS<|rS<|rP pc<|en k4<|bM D_ rfl<|sr fun _ k10=>rP Y<|en k10<|ac<|by cases ah h hk3;exact rk
   ·refine rP (fa av ae)<|rX (ld ae)<|bE h fun x11 y11 h=>rD (cz (.bool x11) (gK a0.Kept y11) gJ)<|rP un<|rP pc<|rP mv<|li 30 h (fun c12 h=>?_) fun c12 h=>?_
    ·refine rS<|rS<|rS<|rS<|rP pc<|rP mv<|rS<|rS<|rS<|rS<|rP pc<|en k4<|bM D_ rfl<|sr fun _ k13=>rP Y<|en k13<|ac<|by cases ah h hk3;exact rk
    ·refine rP (fa av ae)<|rX (ld ae)<|bE h fun x14 y14 h=>rD (cz (.bool x14) (gK a0.Next y14) gJ)<|rP un<|rP pc<|rP mv<|li 36 h (fun c15 h=>?_) fun c15 h=>?_
     ·refine rS<|rS<|rS<|rS<|rP pc<|en k4<|bM D_ rfl<|sr fun _ k16=>rP Y<|en k16<|ac<|by cases ah h hk3;exact rk
     ·refine rP (fa av ar)<|pl 38 (.agg [.int .i64 a0.Policy.Kind,.int .i64 a0.Policy.N,.str a0.Policy.Key,.str a0.Policy.Value,.sl 5 (List.map aj a0.Policy.Kids)]) ar<|bE h fun x17 y17 h=>rD (cz (.bool x17) (zL a0.Policy y17) zT)<|rP un<|rP pc<|en k4<|wi 41 h (fun c18 h=>?_) fun c18 h=>?_
      ·refine sr fun _ k19=>rP Y<|en k19<|ac<|by cases ah h hk3;exact rk
      ·refine aq<|tk (aI h hk3) fun h=>?_
       exact⟨_,ra [(1,0)],h,rfl⟩
 ·rintro s ⟨h,rfl⟩
  refine ai fun _ k20=>cD (by kernel_rfl) (by decide +kernel)<|tP (fa av bp)<|tR (ld bp)<|gE h fun g21 h=>tD (dw (v:=List.map ak a0.Open) W_ W_ bp aZ rfl rfl W_ (by first | exact .inl rfl | exact .inr ⟨rfl,rfl⟩) W_ (by first | exact .inr rfl | exact .inl rfl) (List.nil_append _) (dv g21))<|tP (fa av bp)<|tR (ld bp)<|gE h fun g22 h=>tD (dw (v:=List.map ak (a0.Open++a0.Pending)) W_ W_ bp aZ rfl rfl W_ (by first | exact .inl rfl | exact .inr ⟨rfl,rfl⟩) W_ (by first | exact .inr rfl | exact .inl rfl) (dL _ _) (dv g22))<|tP Y<|cc (by kernel_rfl)<|k20 _<|bE h fun q23 h hk24=>bx (fun s=>A7 a0=some r∧s=lit [(1,.ptr 1 0 0)] [((1,0),.box [.int .i64 a0.Now,.int .i64 a0.Sec,.int .i64 a0.Kept,.int .i64 a0.Next,.int .i64 a0.Policy.Kind,.int .i64 a0.Policy.N,.str a0.Policy.Key,.str a0.Policy.Value,.sl 5 (List.map aj a0.Policy.Kids),.sl 6 (List.map ak a0.Open),.sl 6 (List.map ak a0.Pending),.sl 3 (List.map aQ a0.Memo),.sl 14 (List.map aP a0.Rows),.sl 4 (List.map aU a0.Edges),.sl 6 (List.map aV a0.Slots),.sl 4 (List.map aR a0.Blocks)])] [(1,1)] X) ?_ ?_
  ·skip
   refine sr fun _ k25=>rP Y<|en k25<|ax<|bv (fun m s=>∃(lm:Int),am (fun(s:Int)=>oj a0 s) m lm=some q23∧s=lit [(1,.ptr 1 0 0),(3,.own 47 0),(4,.int .i64 lm)] [((1,0),.box [.int .i64 a0.Now,.int .i64 a0.Sec,.int .i64 a0.Kept,.int .i64 a0.Next,.int .i64 a0.Policy.Kind,.int .i64 a0.Policy.N,.str a0.Policy.Key,.str a0.Policy.Value,.sl 5 (List.map aj a0.Policy.Kids),.sl 6 (List.map ak a0.Open),.sl 6 (List.map ak a0.Pending),.sl 3 (List.map aQ a0.Memo),.sl 14 (List.map aP a0.Rows),.sl 4 (List.map aU a0.Edges),.sl 6 (List.map aV a0.Slots),.sl 4 (List.map aR a0.Blocks)]),((47,0),.arr 69 6 false (List.map ak (a0.Open++a0.Pending)))] [(1,1),(47,1)] X) Fu
    ⟨_,ra [(1,0),(47,0)],0,h,rfl⟩ ?_
   rintro m s ⟨lm,h,rfl⟩
   obtain⟨m2,q26,rfl,h,hq27⟩:=bu h
   replace h:oj a0 lm=some q26:=h
   refine ai fun _ k28=>sr fun _ k29=>rP mv<|rP mv<|rX ((xZ W_ W_ bp).cast (v':=.int .i64 (List.length (a0.Open++a0.Pending):Int)) (by exact um _))<|rP bi<|en k29<|wi 51 h (fun c30 h=>?_) fun c30 h=>?_
   ·refine aq<|k28 _<|ai fun _ k31=>ax<|sr fun _ k32=>rP mv<|rP mv<|gE h fun g33 h=>bE h fun x34 y34 h=>rX (CR W_ W_ W_ bp aZ g33 (by exact Cq y34))<|rX (cu (v:=.agg [.int .u64 x34.Trace.Hi,.int .u64 x34.Trace.Lo,.int .i64 x34.First,.int .i64 x34.Last,.bool x34.Sure,.sl 10 (List.map ch x34.Spans)]) W_ (Cn W_ (by exact ul y34)) aZ R_)<|bE h fun x35 y35 h=>rD (cZ (ML x34 y35) PA)<|rP un<|en k32<|wi 59 h (fun c36 h=>?_) fun c36 h=>?_
    ·refine sr fun _ k37=>rP Y<|en k37<|ac<|tk (ah h hq27) fun h=>by cases ah h hk24;exact rk
    ·refine aq<|k31 _<|aB<|rP mv<|rP bi<|rP Y<|aM<|bk (ra [(1,0),(47,0)]) ⟨(IntKind.i64.wrap (lm+1)),aI h hq27,rfl⟩
   ·refine bc<|tk (ah h hq27) fun h=>tk (aI h hk24) fun h=>?_
    exact⟨_,ra [(1,0)],h,rfl⟩
  ·rintro s ⟨h,rfl⟩
   refine bE h fun q38 h hk39=>bx (fun s=>A6 a0=some r∧s=lit [(1,.ptr 1 0 0)] [((1,0),.box [.int .i64 a0.Now,.int .i64 a0.Sec,.int .i64 a0.Kept,.int .i64 a0.Next,.int .i64 a0.Policy.Kind,.int .i64 a0.Policy.N,.str a0.Policy.Key,.str a0.Policy.Value,.sl 5 (List.map aj a0.Policy.Kids),.sl 6 (List.map ak a0.Open),.sl 6 (List.map ak a0.Pending),.sl 3 (List.map aQ a0.Memo),.sl 14 (List.map aP a0.Rows),.sl 4 (List.map aU a0.Edges),.sl 6 (List.map aV a0.Slots),.sl 4 (List.map aR a0.Blocks)])] [(1,1)] X) ?_ ?_
   ·skip
    refine sr fun _ k40=>rP Y<|en k40<|ax<|bv (fun m s=>∃(fG:Int),am (fun(s:Int)=>oo a0 s) m fG=some q38∧s=lit [(1,.ptr 1 0 0),(5,.int .i64 fG)] [((1,0),.box [.int .i64 a0.Now,.int .i64 a0.Sec,.int .i64 a0.Kept,.int .i64 a0.Next,.int .i64 a0.Policy.Kind,.int .i64 a0.Policy.N,.str a0.Policy.Key,.str a0.Policy.Value,.sl 5 (List.map aj a0.Policy.Kids),.sl 6 (List.map ak a0.Open),.sl 6 (List.map ak a0.Pending),.sl 3 (List.map aQ a0.Memo),.sl 14 (List.map aP a0.Rows),.sl 4 (List.map aU a0.Edges),.sl 6 (List.map aV a0.Slots),.sl 4 (List.map aR a0.Blocks)])] [(1,1)] X) Fu
     ⟨_,ra [(1,0)],0,h,rfl⟩ ?_
    rintro m s ⟨fG,h,rfl⟩
    obtain⟨m4,q41,rfl,h,hq42⟩:=bu h
    replace h:oo a0 fG=some q41:=h
    refine ai fun _ k43=>sr fun _ k44=>rP mv<|rP (fa av bU)<|rX (ld bU)<|rP (zl bU)<|rP bi<|en k44<|wi 64 h (fun c45 h=>?_) fun c45 h=>?_
    ·refine aq<|k43 _<|ai fun _ k46=>ax<|sr fun _ k47=>rP (fa av bU)<|rX (ld bU)<|rP mv<|gE h fun g48 h=>bE h fun x49 y49 h=>rP (ia bU bS g48 y49)<|pl 71 (.agg [.int .i64 x49.Level,.int .i64 x49.Window,.str x49.Service,.str x49.Op,.int .i64 x49.Counter.Count,.int .i64 x49.Counter.Errs,.int .i64 x49.Counter.By.c0,.int .i64 x49.Counter.By.c1,.int .i64 x49.Counter.By.c2,.int .i64 x49.Counter.By.c3,.int .i64 x49.Counter.By.c4,.int .i64 x49.Counter.By.c5,.int .i64 x49.Counter.By.c6,.int .i64 x49.Counter.By.c7]) bS<|rD (nw bS)<|pZ (aA [.int .i64 x49.Level,.int .i64 x49.Window,.str x49.Service,.str x49.Op,.int .i64 x49.Counter.Count,.int .i64 x49.Counter.Errs,.int .i64 x49.Counter.By.c0,.int .i64 x49.Counter.By.c1,.int .i64 x49.Counter.By.c2,.int .i64 x49.Counter.By.c3,.int .i64 x49.Counter.By.c4,.int .i64 x49.Counter.By.c5,.int .i64 x49.Counter.By.c6,.int .i64 x49.Counter.By.c7] bS)<|en k47<|sr fun _ k50=>rP (fa bS ae)<|rX (ld ae)<|rP (fa bS ae)<|rX (ld ae)<|bE h fun x51 y51 h=>rD (cZ (PK x49.Level x49.Window y51) PB)<|rP mv<|rP ex<|rP ex<|rP ex<|rP Y<|rP Y<|rP Y<|en k50<|bE h fun q52 h hk53=>bx (fun s=>∃(qN:Bool),xf fG x49 qN=some q41∧s=lit [(1,.ptr 1 0 0),(5,.int .i64 fG),(6,.ptr 6 0 0),(9,.bool qN)] [((1,0),.box [.int .i64 a0.Now,.int .i64 a0.Sec,.int .i64 a0.Kept,.int .i64 a0.Next,.int .i64 a0.Policy.Kind,.int .i64 a0.Policy.N,.str a0.Policy.Key,.str a0.Policy.Value,.sl 5 (List.map aj a0.Policy.Kids),.sl 6 (List.map ak a0.Open),.sl 6 (List.map ak a0.Pending),.sl 3 (List.map aQ a0.Memo),.sl 14 (List.map aP a0.Rows),.sl 4 (List.map aU a0.Edges),.sl 6 (List.map aV a0.Slots),.sl 4 (List.map aR a0.Blocks)]),((6,0),.box [.int .i64 x49.Level,.int .i64 x49.Window,.str x49.Service,.str x49.Op,.int .i64 x49.Counter.Count,.int .i64 x49.Counter.Errs,.int .i64 x49.Counter.By.c0,.int .i64 x49.Counter.By.c1,.int .i64 x49.Counter.By.c2,.int .i64 x49.Counter.By.c3,.int .i64 x49.Counter.By.c4,.int .i64 x49.Counter.By.c5,.int .i64 x49.Counter.By.c6,.int .i64 x49.Counter.By.c7])] [(1,1),(6,1)] X) ?_ ?_
     ·skip
      refine aB<|rP mv<|rP mv<|li 82 h (fun c54 h=>?_) fun c54 h=>?_
      ·refine rP (fa bS ap)<|rX (ld ap)<|bE h fun x55 y55 h=>rD (cz (.bool x55) (qx x49.Service y55) qw)<|rP pc<|rP mv<|li 87 h (fun c56 h=>?_) fun c56 h=>?_
       ·refine rP (fa bS ap)<|rX (ld ap)<|bE h fun x57 y57 h=>rD (cz (.bool x57) (qx x49.Op y57) qw)<|rP pc<|rP mv<|li 92 h (fun c58 h=>?_) fun c58 h=>?_
        ·refine rP (fa bS dp)<|rP (fa dp ae)<|rX (ld ae)<|bE h fun x59 y59 h=>rD (cz (.bool x59) (gK x49.Counter.Count y59) gJ)<|rP pc<|rP mv<|li 98 h (fun c60 h=>?_) fun c60 h=>?_
         ·refine rP (fa bS dp)<|rP (fa dp ae)<|rX (ld ae)<|bE h fun x61 y61 h=>rD (cz (.bool x61) (gK x49.Counter.Errs y61) gJ)<|rP pc<|rP Y<|aM<|?_
          obtain rfl:=Option.some.inj h
          have h:=hk53
          exact⟨_,ra [(1,0),(6,0)],x61,h,rfl⟩
         ·refine rS<|rS<|rS<|rS<|rP pc<|rP Y<|aM<|?_
          obtain rfl:=Option.some.inj h
          have h:=hk53
          exact⟨_,ra [(1,0),(6,0)],false,h,rfl⟩
        ·refine rS<|rS<|rS<|rS<|rP pc<|rP mv<|rS<|rS<|rS<|rS<|rP pc<|rP Y<|aM<|?_
         obtain rfl:=Option.some.inj h
         have h:=hk53
         exact⟨_,ra [(1,0),(6,0)],false,h,rfl⟩
       ·refine rS<|rS<|rS<|rP pc<|rP mv<|rS<|rS<|rS<|rS<|rP pc<|rP mv<|rS<|rS<|rS<|rS<|rP pc<|rP Y<|aM<|?_
        obtain rfl:=Option.some.inj h
        have h:=hk53
        exact⟨_,ra [(1,0),(6,0)],false,h,rfl⟩
      ·refine rS<|rS<|rS<|rP pc<|rP mv<|rS<|rS<|rS<|rP pc<|rP mv<|rS<|rS<|rS<|rS<|rP pc<|rP mv<|rS<|rS<|rS<|rS<|rP pc<|rP Y<|aM<|?_
       obtain rfl:=Option.some.inj h
       have h:=hk53
       exact⟨_,ra [(1,0),(6,0)],false,h,rfl⟩
     ·rintro s ⟨qN,h,rfl⟩
      unfold xf at h
      refine ai fun _ k62=>sr fun _ k63=>rP Y<|en k63<|ax<|bv (fun m s=>∃(gf:Bool),∃(gO:Int),am (fun(s:Bool×Int)=>om fG x49 s.1 s.2) m (gf,gO)=some q41∧s=lit [(1,.ptr 1 0 0),(5,.int .i64 fG),(6,.ptr 6 0 0),(9,.bool gf),(10,.int .i64 gO)] [((1,0),.box [.int .i64 a0.Now,.int .i64 a0.Sec,.int .i64 a0.Kept,.int .i64 a0.Next,.int .i64 a0.Policy.Kind,.int .i64 a0.Policy.N,.str a0.Policy.Key,.str a0.Policy.Value,.sl 5 (List.map aj a0.Policy.Kids),.sl 6 (List.map ak a0.Open),.sl 6 (List.map ak a0.Pending),.sl 3 (List.map aQ a0.Memo),.sl 14 (List.map aP a0.Rows),.sl 4 (List.map aU a0.Edges),.sl 6 (List.map aV a0.Slots),.sl 4 (List.map aR a0.Blocks)]),((6,0),.box [.int .i64 x49.Level,.int .i64 x49.Window,.str x49.Service,.str x49.Op,.int .i64 x49.Counter.Count,.int .i64 x49.Counter.Errs,.int .i64 x49.Counter.By.c0,.int .i64 x49.Counter.By.c1,.int .i64 x49.Counter.By.c2,.int .i64 x49.Counter.By.c3,.int .i64 x49.Counter.By.c4,.int .i64 x49.Counter.By.c5,.int .i64 x49.Counter.By.c6,.int .i64 x49.Counter.By.c7])] [(1,1),(6,1)] X) Fu
       ⟨_,ra [(1,0),(6,0)],qN,0,h,rfl⟩ ?_
      rintro m s ⟨gf,gO,h,rfl⟩
      obtain⟨m6,q64,rfl,h,hq65⟩:=bu h
      replace h:om fG x49 gf gO=some q64:=h
      refine ai fun _ k66=>sr fun _ k67=>rP mv<|rP bi<|en k67<|wi 105 h (fun c68 h=>?_) fun c68 h=>?_
      ·refine aq<|k66 _<|ai fun _ k69=>ax<|aB<|rP mv<|rP mv<|li 109 h (fun c70 h=>?_) fun c70 h=>?_
       ·refine rP mv<|rP (fa bS dp)<|rP (fa dp jq)<|gE h fun g71 h=>gE h fun g72 h=>bE h fun x73 y73 h=>rP (uE (q:=.ptr 6 0 (6+(Int.toNat gO)*1)) W_ W_ jq ae g71 g72 rfl)<|rX (cu (v:=.int .i64 x73) W_ (CA R_) ae (CJ (off:=6) (f:=cH) (l:=[x49.Counter.By.c0,x49.Counter.By.c1,x49.Counter.By.c2,x49.Counter.By.c3,x49.Counter.By.c4,x49.Counter.By.c5,x49.Counter.By.c6,x49.Counter.By.c7]) (pre:=[.int .i64 x49.Level,.int .i64 x49.Window,.str x49.Service,.str x49.Op,.int .i64 x49.Counter.Count,.int .i64 x49.Counter.Errs]) (post:=[]) (i:=(Int.toNat gO)) rfl rfl y73))<|bE h fun x74 y74 h=>rD (cZ (gK x73 y74) gJ)<|rP pc<|rP Y<|en k69<|aB<|rP mv<|rP bi<|rP Y<|aM<|bk (ra [(1,0),(6,0)]) ⟨x74,(IntKind.i64.wrap (gO+1)),aI h hq65,rfl⟩
       ·refine rS<|rS<|rS<|rS<|rS<|rS<|rP pc<|rP Y<|en k69<|aB<|rP mv<|rP bi<|rP Y<|aM<|bk (ra [(1,0),(6,0)]) ⟨false,(IntKind.i64.wrap (gO+1)),aI h hq65,rfl⟩
      ·refine bc<|tk (G3 h hq65) fun h=>k62 _<|sr fun _ k75=>rP mv<|rP un<|en k75<|wi 118 h (fun c76 h=>?_) fun c76 h=>?_
       ·refine sr fun _ k77=>rP Y<|en k77<|ac<|tk (ah h hq42) fun h=>by cases ah h hk39;exact rk
       ·refine aq<|k46 _<|aB<|rP mv<|rP bi<|rP Y<|aM<|bk (ra [(1,0)]) ⟨(IntKind.i64.wrap (fG+1)),aI h hq42,rfl⟩
    ·refine bc<|tk (ah h hq42) fun h=>tk (aI h hk39) fun h=>?_
     exact⟨_,ra [(1,0)],h,rfl⟩
   ·rintro s ⟨h,rfl⟩
    refine bE h fun q78 h hk79=>bx (fun s=>A5 a0=some r∧s=lit [(1,.ptr 1 0 0)] [((1,0),.box [.int .i64 a0.Now,.int .i64 a0.Sec,.int .i64 a0.Kept,.int .i64 a0.Next,.int .i64 a0.Policy.Kind,.int .i64 a0.Policy.N,.str a0.Policy.Key,.str a0.Policy.Value,.sl 5 (List.map aj a0.Policy.Kids),.sl 6 (List.map ak a0.Open),.sl 6 (List.map ak a0.Pending),.sl 3 (List.map aQ a0.Memo),.sl 14 (List.map aP a0.Rows),.sl 4 (List.map aU a0.Edges),.sl 6 (List.map aV a0.Slots),.sl 4 (List.map aR a0.Blocks)])] [(1,1)] X) ?_ ?_
    ·skip
     refine sr fun _ k80=>rP Y<|en k80<|ax<|bv (fun m s=>∃(eg:Int),am (fun(s:Int)=>oq a0 s) m eg=some q78∧s=lit [(1,.ptr 1 0 0),(11,.int .i64 eg)] [((1,0),.box [.int .i64 a0.Now,.int .i64 a0.Sec,.int .i64 a0.Kept,.int .i64 a0.Next,.int .i64 a0.Policy.Kind,.int .i64 a0.Policy.N,.str a0.Policy.Key,.str a0.Policy.Value,.sl 5 (List.map aj a0.Policy.Kids),.sl 6 (List.map ak a0.Open),.sl 6 (List.map ak a0.Pending),.sl 3 (List.map aQ a0.Memo),.sl 14 (List.map aP a0.Rows),.sl 4 (List.map aU a0.Edges),.sl 6 (List.map aV a0.Slots),.sl 4 (List.map aR a0.Blocks)])] [(1,1)] X) Fu
      ⟨_,ra [(1,0)],0,h,rfl⟩ ?_
     rintro m s ⟨eg,h,rfl⟩
     obtain⟨m8,q81,rfl,h,hq82⟩:=bu h
     replace h:oq a0 eg=some q81:=h
     refine ai fun _ k83=>sr fun _ k84=>rP mv<|rP (fa av bH)<|rX (ld bH)<|rP (zl bH)<|rP bi<|en k84<|wi 123 h (fun c85 h=>?_) fun c85 h=>?_
     ·refine aq<|k83 _<|ai fun _ k86=>ax<|sr fun _ k87=>rP (fa av bH)<|rX (ld bH)<|rP mv<|gE h fun g88 h=>bE h fun x89 y89 h=>rP (ia bH cm g88 y89)<|rP (fa cm ap)<|rX (ld ap)<|bE h fun x90 y90 h=>rD (cz (.bool x90) (qx x89.From y90) qw)<|rP un<|rP mv<|li 134 h (fun c91 h=>?_) fun c91 h=>?_
      ·refine rS<|rS<|rS<|rS<|rS<|rS<|rS<|rS<|rP pc<|rP mv<|rS<|rS<|rS<|rS<|rS<|rS<|rS<|rS<|rP pc<|rP mv<|rS<|rS<|rS<|rS<|rS<|rS<|rS<|rS<|rP pc<|en k87<|bM D_ rfl<|sr fun _ k92=>rP Y<|en k92<|ac<|tk (ah h hq82) fun h=>by cases ah h hk79;exact rk
      ·refine rP (fa av bH)<|rX (ld bH)<|rP mv<|gE h fun g93 h=>bE h fun x94 y94 h=>rP (ia bH cm g93 y94)<|rP (fa cm ap)<|rX (ld ap)<|bE h fun x95 y95 h=>rD (cz (.bool x95) (qx x94.To y95) qw)<|rP un<|rP pc<|rP mv<|li 144 h (fun c96 h=>?_) fun c96 h=>?_
       ·refine rS<|rS<|rS<|rS<|rS<|rS<|rS<|rS<|rP pc<|rP mv<|rS<|rS<|rS<|rS<|rS<|rS<|rS<|rS<|rP pc<|en k87<|bM D_ rfl<|sr fun _ k97=>rP Y<|en k97<|ac<|tk (ah h hq82) fun h=>by cases ah h hk79;exact rk
       ·refine rP (fa av bH)<|rX (ld bH)<|rP mv<|gE h fun g98 h=>bE h fun x99 y99 h=>rP (ia bH cm g98 y99)<|rP (fa cm ae)<|rX (ld ae)<|bE h fun x100 y100 h=>rD (cz (.bool x100) (gK x99.Count y100) gJ)<|rP un<|rP pc<|rP mv<|li 154 h (fun c101 h=>?_) fun c101 h=>?_
        ·refine rS<|rS<|rS<|rS<|rS<|rS<|rS<|rS<|rP pc<|en k87<|bM D_ rfl<|sr fun _ k102=>rP Y<|en k102<|ac<|tk (ah h hq82) fun h=>by cases ah h hk79;exact rk
        ·refine rP (fa av bH)<|rX (ld bH)<|rP mv<|gE h fun g103 h=>bE h fun x104 y104 h=>rP (ia bH cm g103 y104)<|rP (fa cm ae)<|rX (ld ae)<|bE h fun x105 y105 h=>rD (cz (.bool x105) (gK x104.Errs y105) gJ)<|rP un<|rP pc<|en k87<|wi 163 h (fun c106 h=>?_) fun c106 h=>?_
         ·refine sr fun _ k107=>rP Y<|en k107<|ac<|tk (ah h hq82) fun h=>by cases ah h hk79;exact rk
         ·refine aq<|k86 _<|aB<|rP mv<|rP bi<|rP Y<|aM<|bk (ra [(1,0)]) ⟨(IntKind.i64.wrap (eg+1)),aI h hq82,rfl⟩
     ·refine bc<|tk (ah h hq82) fun h=>tk (aI h hk79) fun h=>?_
      exact⟨_,ra [(1,0)],h,rfl⟩
    ·rintro s ⟨h,rfl⟩
     refine bE h fun q108 h hk109=>bx (fun s=>xg a0=some r∧s=lit [(1,.ptr 1 0 0)] [((1,0),.box [.int .i64 a0.Now,.int .i64 a0.Sec,.int .i64 a0.Kept,.int .i64 a0.Next,.int .i64 a0.Policy.Kind,.int .i64 a0.Policy.N,.str a0.Policy.Key,.str a0.Policy.Value,.sl 5 (List.map aj a0.Policy.Kids),.sl 6 (List.map ak a0.Open),.sl 6 (List.map ak a0.Pending),.sl 3 (List.map aQ a0.Memo),.sl 14 (List.map aP a0.Rows),.sl 4 (List.map aU a0.Edges),.sl 6 (List.map aV a0.Slots),.sl 4 (List.map aR a0.Blocks)])] [(1,1)] X) ?_ ?_
     ·skip
      refine sr fun _ k110=>rP Y<|en k110<|ax<|bv (fun m s=>∃(ip:Int),am (fun(s:Int)=>ot a0 s) m ip=some q108∧s=lit [(1,.ptr 1 0 0),(12,.int .i64 ip)] [((1,0),.box [.int .i64 a0.Now,.int .i64 a0.Sec,.int .i64 a0.Kept,.int .i64 a0.Next,.int .i64 a0.Policy.Kind,.int .i64 a0.Policy.N,.str a0.Policy.Key,.str a0.Policy.Value,.sl 5 (List.map aj a0.Policy.Kids),.sl 6 (List.map ak a0.Open),.sl 6 (List.map ak a0.Pending),.sl 3 (List.map aQ a0.Memo),.sl 14 (List.map aP a0.Rows),.sl 4 (List.map aU a0.Edges),.sl 6 (List.map aV a0.Slots),.sl 4 (List.map aR a0.Blocks)])] [(1,1)] X) Fu
       ⟨_,ra [(1,0)],0,h,rfl⟩ ?_
      rintro m s ⟨ip,h,rfl⟩
      obtain⟨m10,q111,rfl,h,hq112⟩:=bu h
      replace h:ot a0 ip=some q111:=h
      refine ai fun _ k113=>sr fun _ k114=>rP mv<|rP (fa av bO)<|rX (ld bO)<|rP (zl bO)<|rP bi<|en k114<|wi 168 h (fun c115 h=>?_) fun c115 h=>?_
      ·refine aq<|k113 _<|ai fun _ k116=>ax<|sr fun _ k117=>rP (fa av bO)<|rX (ld bO)<|rP mv<|gE h fun g118 h=>bE h fun x119 y119 h=>rP (ia bO cj g118 y119)<|rP (fa cj ap)<|rX (ld ap)<|bE h fun x120 y120 h=>rD (cz (.bool x120) (qx x119.Service y120) qw)<|rP un<|rP mv<|li 179 h (fun c121 h=>?_) fun c121 h=>?_
       ·refine rS<|rS<|rS<|rS<|rS<|rS<|rS<|rS<|rP pc<|rP mv<|rS<|rS<|rS<|rS<|rS<|rS<|rS<|rS<|rP pc<|en k117<|bM D_ rfl<|sr fun _ k122=>rP Y<|en k122<|ac<|tk (ah h hq112) fun h=>by cases ah h hk109;exact rk
       ·refine rP (fa av bO)<|rX (ld bO)<|rP mv<|gE h fun g123 h=>bE h fun x124 y124 h=>rP (ia bO cj g123 y124)<|rP (fa cj ap)<|rX (ld ap)<|bE h fun x125 y125 h=>rD (cz (.bool x125) (qx x124.Op y125) qw)<|rP un<|rP pc<|rP mv<|li 189 h (fun c126 h=>?_) fun c126 h=>?_
        ·refine rS<|rS<|rS<|rS<|rS<|rS<|rS<|rS<|rP pc<|en k117<|bM D_ rfl<|sr fun _ k127=>rP Y<|en k127<|ac<|tk (ah h hq112) fun h=>by cases ah h hk109;exact rk
        ·refine rP (fa av bO)<|rX (ld bO)<|rP mv<|gE h fun g128 h=>bE h fun x129 y129 h=>rP (ia bO cj g128 y129)<|rP (fa cj ae)<|rX (ld ae)<|bE h fun x130 y130 h=>rD (cz (.bool x130) (gK x129.Block y130) gJ)<|rP un<|rP pc<|en k117<|wi 198 h (fun c131 h=>?_) fun c131 h=>?_
         ·refine sr fun _ k132=>rP Y<|en k132<|ac<|tk (ah h hq112) fun h=>by cases ah h hk109;exact rk
         ·refine aq<|k116 _<|aB<|rP mv<|rP bi<|rP Y<|aM<|bk (ra [(1,0)]) ⟨(IntKind.i64.wrap (ip+1)),aI h hq112,rfl⟩
      ·refine bc<|tk (ah h hq112) fun h=>tk (aI h hk109) fun h=>?_
       exact⟨_,ra [(1,0)],h,rfl⟩
     ·rintro s ⟨h,rfl⟩
      unfold xg at h
      refine ai fun _ k133=>sr fun _ k134=>rP Y<|en k134<|ax<|bv (fun m s=>∃(iq:Int),am (fun(s:Int)=>ou a0 s) m iq=some r∧s=lit [(1,.ptr 1 0 0),(13,.int .i64 iq)] [((1,0),.box [.int .i64 a0.Now,.int .i64 a0.Sec,.int .i64 a0.Kept,.int .i64 a0.Next,.int .i64 a0.Policy.Kind,.int .i64 a0.Policy.N,.str a0.Policy.Key,.str a0.Policy.Value,.sl 5 (List.map aj a0.Policy.Kids),.sl 6 (List.map ak a0.Open),.sl 6 (List.map ak a0.Pending),.sl 3 (List.map aQ a0.Memo),.sl 14 (List.map aP a0.Rows),.sl 4 (List.map aU a0.Edges),.sl 6 (List.map aV a0.Slots),.sl 4 (List.map aR a0.Blocks)])] [(1,1)] X) Fu
       ⟨_,ra [(1,0)],0,h,rfl⟩ ?_
      rintro m s ⟨iq,h,rfl⟩
      obtain⟨m11,q135,rfl,h,hq136⟩:=bu h
      replace h:ou a0 iq=some q135:=h
      refine ai fun _ k137=>sr fun _ k138=>rP mv<|rP (fa av bF)<|rX (ld bF)<|rP (zl bF)<|rP bi<|en k138<|wi 203 h (fun c139 h=>?_) fun c139 h=>?_
      ·refine aq<|k137 _<|ai fun _ k140=>ax<|sr fun _ k141=>rP (fa av bF)<|rX (ld bF)<|rP mv<|gE h fun g142 h=>bE h fun x143 y143 h=>rP (ia bF ca g142 y143)<|rP (fa ca ae)<|rX (ld ae)<|bE h fun x144 y144 h=>rD (cz (.bool x144) (gK x143.Number y144) gJ)<|rP un<|rP mv<|li 214 h (fun c145 h=>?_) fun c145 h=>?_
       ·refine rS<|rS<|rS<|rS<|rS<|rS<|rS<|rS<|rP pc<|rP mv<|rS<|rS<|rS<|rS<|rS<|rS<|rS<|rS<|rP pc<|en k141<|bM D_ rfl<|sr fun _ k146=>rP Y<|en k146<|ac<|by cases ah h hq136;exact rk
       ·refine rP (fa av bF)<|rX (ld bF)<|rP mv<|gE h fun g147 h=>bE h fun x148 y148 h=>rP (ia bF ca g147 y148)<|rP (fa ca ae)<|rX (ld ae)<|bE h fun x149 y149 h=>rD (cz (.bool x149) (gK x148.Born y149) gJ)<|rP un<|rP pc<|rP mv<|li 224 h (fun c150 h=>?_) fun c150 h=>?_
        ·refine rS<|rS<|rS<|rS<|rS<|rS<|rS<|rS<|rP pc<|en k141<|bM D_ rfl<|sr fun _ k151=>rP Y<|en k151<|ac<|by cases ah h hq136;exact rk
        ·refine rP (fa av bF)<|rX (ld bF)<|rP mv<|gE h fun g152 h=>bE h fun x153 y153 h=>rP (ia bF ca g152 y153)<|rP (fa ca ae)<|rX (ld ae)<|bE h fun x154 y154 h=>rD (cz (.bool x154) (gK x153.Tier y154) gJ)<|rP un<|rP pc<|en k141<|wi 233 h (fun c155 h=>?_) fun c155 h=>?_
         ·refine sr fun _ k156=>rP Y<|en k156<|ac<|by cases ah h hq136;exact rk
         ·refine aq<|k140 _<|aB<|rP mv<|rP bi<|rP Y<|aM<|bk (ra [(1,0)]) ⟨(IntKind.i64.wrap (iq+1)),aI h hq136,rfl⟩
      ·refine bc<|tk (ah h hq136) fun h=>k133 _<|sr fun _ k157=>rP Y<|en k157<|ac<|by cases h;exact rk
def tp (a0:List az) (a1:List az) (au:Int):Option (Int⊕Bool):=
 if(decide (au<(List.length a0:Int)))=true then(gd (0≤au) (Option.bind (a0[(Int.toNat au)]?) (fun(x16:az)=>gd (0≤au) (Option.bind (a1[(Int.toNat au)]?) (fun(x18:az)=>if(!((x16.Trace.Hi == x18.Trace.Hi)&&((x16.Trace.Lo == x18.Trace.Lo)&&true)))=true then(some (Sum.inr false))else(gd (0≤au) (Option.bind (a0[(Int.toNat au)]?) (fun(x22:az)=>gd (0≤au) (Option.bind (a1[(Int.toNat au)]?) (fun(x24:az)=>if(x22.First != x24.First)=true then(some (Sum.inr false))else(gd (0≤au) (Option.bind (a0[(Int.toNat au)]?) (fun(x28:az)=>gd (0≤au) (Option.bind (a1[(Int.toNat au)]?) (fun(x30:az)=>if(x28.Last != x30.Last)=true then(some (Sum.inr false))else(gd (0≤au) (Option.bind (a0[(Int.toNat au)]?) (fun(x34:az)=>gd (0≤au) (Option.bind (a1[(Int.toNat au)]?) (fun(x36:az)=>if(!(x34.Sure == x36.Sure))=true then(some (Sum.inr false))else(gd (0≤au) (Option.bind (a0[(Int.toNat au)]?) (fun(x40:az)=>gd (0≤au) (Option.bind (a1[(Int.toNat au)]?) (fun(x42:az)=>Option.bind (s5 x40.Spans x42.Spans) (fun(x43:Bool)=>if(!x43)=true then(some (Sum.inr false))else(some (Sum.inl (IntKind.i64.wrap (au+1))))))))))))))))))))))))))))))else(some (Sum.inr true))
def ov (a0:List az) (a1:List az):Option Bool:=
 if((List.length a0:Int) != (List.length a1:Int))=true then(some false)else(am (fun(s:Int)=>tp a0 a1 s) Fu 0)
theorem A9 (a0:List az) (a1:List az) {r:Bool} (h:ov a0 a1=some r):Ok Tryz.prog 37 [.sl 6 (List.map ak a0),.sl 6 (List.map ak a1)] [] [] (.bool r) [] []:=by
 refine oK Tryz.func37 rfl fun X=>sr fun _ k1=>rP Y<|en k1<|ai fun _ k2=>sr fun _ k3=>rP mv<|rP (zl bp)<|rP mv<|rP (zl bp)<|rP bi<|en k3<|wi 10 h (fun c4 h=>?_) fun c4 h=>?_
 ·refine sr fun _ k5=>rP Y<|en k5<|ac<|by cases h;exact rk
 ·refine aq<|k2 _<|ai fun _ k6=>sr fun _ k7=>rP Y<|en k7<|ax<|bv (fun m s=>∃(au:Int),am (fun(s:Int)=>tp a0 a1 s) m au=some r∧s=lit [(0,.sl 6 (List.map ak a0)),(1,.sl 6 (List.map ak a1)),(5,.int .i64 au)] [] [] X) Fu
   ⟨_,ra [],0,h,rfl⟩ ?_
  rintro m s ⟨au,h,rfl⟩
  obtain⟨m0,q8,rfl,h,hq9⟩:=bu h
  replace h:tp a0 a1 au=some q8:=h
  refine ai fun _ k10=>sr fun _ k11=>rP mv<|rP mv<|rP (zl bp)<|rP bi<|en k11<|wi 14 h (fun c12 h=>?_) fun c12 h=>?_
  ·refine aq<|k10 _<|ai fun _ k13=>ax<|ai fun _ k14=>cD (by kernel_rfl) (by decide +kernel)<|tP mv<|tP mv<|gE h fun g15 h=>bE h fun x16 y16 h=>tP (ia bp aZ g15 y16)<|tP (fa aZ bX)<|tR (cu (v:=.agg [.int .u64 x16.Trace.Hi,.int .u64 x16.Trace.Lo]) W_ W_ bX R_)<|tP mv<|tP mv<|gE h fun g17 h=>bE h fun x18 y18 h=>tP (ia bp aZ g17 y18)<|tP (fa aZ bX)<|tR (cu (v:=.agg [.int .u64 x18.Trace.Hi,.int .u64 x18.Trace.Lo]) W_ W_ bX R_)<|tP (hY (v:=.bool (!((x16.Trace.Hi == x18.Trace.Hi)&&((x16.Trace.Lo == x18.Trace.Lo)&&true)))) W_ W_ qd rfl qe qg W_ rfl)<|tP mv<|fT (c:=(!((x16.Trace.Hi == x18.Trace.Hi)&&((x16.Trace.Lo == x18.Trace.Lo)&&true)))) 28 rfl (fun c19=>?_) (fun c19=>?_)
   ·have h:=fy c19 h
    refine tS<|tS<|tS<|tS<|tS<|tS<|tS<|tS<|tS<|tS<|tS<|tP pc<|tP mv<|tS<|tS<|tS<|tS<|tS<|tS<|tS<|tS<|tS<|tS<|tS<|tP pc<|tP mv<|tS<|tS<|tS<|tS<|tS<|tS<|tS<|tS<|tS<|tS<|tS<|tP pc<|tP mv<|tS<|tS<|tS<|tS<|tS<|tS<|tS<|tS<|tS<|tS<|tS<|tS<|tP pc<|cc (by kernel_rfl)<|k14 _<|bM D_ rfl<|sr fun _ k20=>rP Y<|en k20<|ac<|by cases ah h hq9;exact rk
   ·have h:=fA c19 h
    refine tP mv<|tP mv<|gE h fun g21 h=>bE h fun x22 y22 h=>tP (ia bp aZ g21 y22)<|tP (fa aZ ae)<|tR (ld ae)<|tP mv<|tP mv<|gE h fun g23 h=>bE h fun x24 y24 h=>tP (ia bp aZ g23 y24)<|tP (fa aZ ae)<|tR (ld ae)<|tP bi<|tP pc<|tP mv<|fT (c:=(x22.First != x24.First)) 41 rfl (fun c25=>?_) (fun c25=>?_)
    ·have h:=fy c25 h
     refine tS<|tS<|tS<|tS<|tS<|tS<|tS<|tS<|tS<|tS<|tS<|tP pc<|tP mv<|tS<|tS<|tS<|tS<|tS<|tS<|tS<|tS<|tS<|tS<|tS<|tP pc<|tP mv<|tS<|tS<|tS<|tS<|tS<|tS<|tS<|tS<|tS<|tS<|tS<|tS<|tP pc<|cc (by kernel_rfl)<|k14 _<|bM D_ rfl<|sr fun _ k26=>rP Y<|en k26<|ac<|by cases ah h hq9;exact rk
    ·have h:=fA c25 h
     refine tP mv<|tP mv<|gE h fun g27 h=>bE h fun x28 y28 h=>tP (ia bp aZ g27 y28)<|tP (fa aZ ae)<|tR (ld ae)<|tP mv<|tP mv<|gE h fun g29 h=>bE h fun x30 y30 h=>tP (ia bp aZ g29 y30)<|tP (fa aZ ae)<|tR (ld ae)<|tP bi<|tP pc<|tP mv<|fT (c:=(x28.Last != x30.Last)) 54 rfl (fun c31=>?_) (fun c31=>?_)
     ·have h:=fy c31 h
      refine tS<|tS<|tS<|tS<|tS<|tS<|tS<|tS<|tS<|tS<|tS<|tP pc<|tP mv<|tS<|tS<|tS<|tS<|tS<|tS<|tS<|tS<|tS<|tS<|tS<|tS<|tP pc<|cc (by kernel_rfl)<|k14 _<|bM D_ rfl<|sr fun _ k32=>rP Y<|en k32<|ac<|by cases ah h hq9;exact rk
     ·have h:=fA c31 h
      refine tP mv<|tP mv<|gE h fun g33 h=>bE h fun x34 y34 h=>tP (ia bp aZ g33 y34)<|tP (fa aZ aN)<|tR (ld aN)<|tP mv<|tP mv<|gE h fun g35 h=>bE h fun x36 y36 h=>tP (ia bp aZ g35 y36)<|tP (fa aZ aN)<|tR (ld aN)<|tP (oV (v:=.bool (!(x34.Sure == x36.Sure))) W_ W_ (oW aN) rfl)<|tP pc<|tP mv<|fT (c:=(!(x34.Sure == x36.Sure))) 67 rfl (fun c37=>?_) (fun c37=>?_)
      ·have h:=fy c37 h
       refine tS<|tS<|tS<|tS<|tS<|tS<|tS<|tS<|tS<|tS<|tS<|tS<|tP pc<|cc (by kernel_rfl)<|k14 _<|bM D_ rfl<|sr fun _ k38=>rP Y<|en k38<|ac<|by cases ah h hq9;exact rk
      ·have h:=fA c37 h
       refine tP mv<|tP mv<|gE h fun g39 h=>bE h fun x40 y40 h=>tP (ia bp aZ g39 y40)<|tP (fa aZ bN)<|tR (ld bN)<|tP mv<|tP mv<|gE h fun g41 h=>bE h fun x42 y42 h=>tP (ia bp aZ g41 y42)<|tP (fa aZ bN)<|tR (ld bN)<|bE h fun x43 y43 h=>tD (cz (.bool x43) (Nx x40.Spans x42.Spans y43) PI)<|tP un<|tP pc<|cc (by kernel_rfl)<|k14 _<|wi 80 h (fun c44 h=>?_) fun c44 h=>?_
       ·refine sr fun _ k45=>rP Y<|en k45<|ac<|by cases ah h hq9;exact rk
       ·refine aq<|k13 _<|aB<|rP mv<|rP bi<|rP Y<|aM<|bk (ra []) ⟨(IntKind.i64.wrap (au+1)),aI h hq9,rfl⟩
  ·refine bc<|tk (ah h hq9) fun h=>k6 _<|sr fun _ k46=>rP Y<|en k46<|ac<|by cases h;exact rk
def tq (a0:List bT) (a1:List bT) (au:Int):Option (Int⊕Bool):=
 if(decide (au<(List.length a0:Int)))=true then(gd (0≤au) (Option.bind (a0[(Int.toNat au)]?) (fun(x16:bT)=>gd (0≤au) (Option.bind (a1[(Int.toNat au)]?) (fun(x18:bT)=>if(!((x16.Trace.Hi == x18.Trace.Hi)&&((x16.Trace.Lo == x18.Trace.Lo)&&((x16.Kept == x18.Kept)&&true))))=true then(some (Sum.inr false))else(some (Sum.inl (IntKind.i64.wrap (au+1)))))))))else(some (Sum.inr true))
def tr (a0:List bT) (a1:List bT):Option Bool:=
 if((List.length a0:Int) != (List.length a1:Int))=true then(some false)else(am (fun(s:Int)=>tq a0 a1 s) Fu 0)
theorem PL (a0:List bT) (a1:List bT) {r:Bool} (h:tr a0 a1=some r):Ok Tryz.prog 38 [.sl 3 (List.map aQ a0),.sl 3 (List.map aQ a1)] [] [] (.bool r) [] []:=by
 refine oK Tryz.func38 rfl fun X=>sr fun _ k1=>rP Y<|en k1<|ai fun _ k2=>sr fun _ k3=>rP mv<|rP (zl ci)<|rP mv<|rP (zl ci)<|rP bi<|en k3<|wi 10 h (fun c4 h=>?_) fun c4 h=>?_
 ·refine sr fun _ k5=>rP Y<|en k5<|ac<|by cases h;exact rk
 ·refine aq<|k2 _<|ai fun _ k6=>sr fun _ k7=>rP Y<|en k7<|ax<|bv (fun m s=>∃(au:Int),am (fun(s:Int)=>tq a0 a1 s) m au=some r∧s=lit [(0,.sl 3 (List.map aQ a0)),(1,.sl 3 (List.map aQ a1)),(5,.int .i64 au)] [] [] X) Fu
   ⟨_,ra [],0,h,rfl⟩ ?_
  rintro m s ⟨au,h,rfl⟩
  obtain⟨m0,q8,rfl,h,hq9⟩:=bu h
  replace h:tq a0 a1 au=some q8:=h
  refine ai fun _ k10=>sr fun _ k11=>rP mv<|rP mv<|rP (zl ci)<|rP bi<|en k11<|wi 14 h (fun c12 h=>?_) fun c12 h=>?_
  ·refine aq<|k10 _<|ai fun _ k13=>ax<|ai fun _ k14=>cD (by kernel_rfl) (by decide +kernel)<|tP mv<|tP mv<|gE h fun g15 h=>bE h fun x16 y16 h=>tP (ia ci dW g15 y16)<|tR (cu (v:=.agg [.int .u64 x16.Trace.Hi,.int .u64 x16.Trace.Lo,.bool x16.Kept]) W_ W_ dW R_)<|tP mv<|tP mv<|gE h fun g17 h=>bE h fun x18 y18 h=>tP (ia ci dW g17 y18)<|tR (cu (v:=.agg [.int .u64 x18.Trace.Hi,.int .u64 x18.Trace.Lo,.bool x18.Kept]) W_ W_ dW R_)<|tP (hY (v:=.bool (!((x16.Trace.Hi == x18.Trace.Hi)&&((x16.Trace.Lo == x18.Trace.Lo)&&((x16.Kept == x18.Kept)&&true))))) W_ W_ Gv rfl Gw Gx W_ rfl)<|cc (by kernel_rfl)<|k14 _<|wi 25 h (fun c19 h=>?_) fun c19 h=>?_
   ·refine sr fun _ k20=>rP Y<|en k20<|ac<|by cases ah h hq9;exact rk
   ·refine aq<|k13 _<|aB<|rP mv<|rP bi<|rP Y<|aM<|bk (ra []) ⟨(IntKind.i64.wrap (au+1)),aI h hq9,rfl⟩
  ·refine bc<|tk (ah h hq9) fun h=>k6 _<|sr fun _ k21=>rP Y<|en k21<|ac<|by cases h;exact rk
def tu (a0:List bo) (a1:List bo) (au:Int):Option (Int⊕Bool):=
 if(decide (au<(List.length a0:Int)))=true then(gd (0≤au) (Option.bind (a0[(Int.toNat au)]?) (fun(x16:bo)=>gd (0≤au) (Option.bind (a1[(Int.toNat au)]?) (fun(x18:bo)=>if(!((x16.Level == x18.Level)&&((x16.Window == x18.Window)&&((ByteArray.toList x16.Service == ByteArray.toList x18.Service)&&((ByteArray.toList x16.Op == ByteArray.toList x18.Op)&&((x16.Counter.Count == x18.Counter.Count)&&((x16.Counter.Errs == x18.Counter.Errs)&&((x16.Counter.By.c0 == x18.Counter.By.c0)&&((x16.Counter.By.c1 == x18.Counter.By.c1)&&((x16.Counter.By.c2 == x18.Counter.By.c2)&&((x16.Counter.By.c3 == x18.Counter.By.c3)&&((x16.Counter.By.c4 == x18.Counter.By.c4)&&((x16.Counter.By.c5 == x18.Counter.By.c5)&&((x16.Counter.By.c6 == x18.Counter.By.c6)&&((x16.Counter.By.c7 == x18.Counter.By.c7)&&true)))))))))))))))=true then(some (Sum.inr false))else(some (Sum.inl (IntKind.i64.wrap (au+1)))))))))else(some (Sum.inr true))
def tv (a0:List bo) (a1:List bo):Option Bool:=
 if((List.length a0:Int) != (List.length a1:Int))=true then(some false)else(am (fun(s:Int)=>tu a0 a1 s) Fu 0)
theorem PM (a0:List bo) (a1:List bo) {r:Bool} (h:tv a0 a1=some r):Ok Tryz.prog 39 [.sl 14 (List.map aP a0),.sl 14 (List.map aP a1)] [] [] (.bool r) [] []:=by
 refine oK Tryz.func39 rfl fun X=>sr fun _ k1=>rP Y<|en k1<|ai fun _ k2=>sr fun _ k3=>rP mv<|rP (zl bU)<|rP mv<|rP (zl bU)<|rP bi<|en k3<|wi 10 h (fun c4 h=>?_) fun c4 h=>?_
 ·refine sr fun _ k5=>rP Y<|en k5<|ac<|by cases h;exact rk
 ·refine aq<|k2 _<|ai fun _ k6=>sr fun _ k7=>rP Y<|en k7<|ax<|bv (fun m s=>∃(au:Int),am (fun(s:Int)=>tu a0 a1 s) m au=some r∧s=lit [(0,.sl 14 (List.map aP a0)),(1,.sl 14 (List.map aP a1)),(5,.int .i64 au)] [] [] X) Fu
   ⟨_,ra [],0,h,rfl⟩ ?_
  rintro m s ⟨au,h,rfl⟩
  obtain⟨m0,q8,rfl,h,hq9⟩:=bu h
  replace h:tu a0 a1 au=some q8:=h
  refine ai fun _ k10=>sr fun _ k11=>rP mv<|rP mv<|rP (zl bU)<|rP bi<|en k11<|wi 14 h (fun c12 h=>?_) fun c12 h=>?_
  ·refine aq<|k10 _<|ai fun _ k13=>ax<|ai fun _ k14=>cD (by kernel_rfl) (by decide +kernel)<|tP mv<|tP mv<|gE h fun g15 h=>bE h fun x16 y16 h=>tP (ia bU bS g15 y16)<|tR (cu (v:=.agg [.int .i64 x16.Level,.int .i64 x16.Window,.str x16.Service,.str x16.Op,.int .i64 x16.Counter.Count,.int .i64 x16.Counter.Errs,.int .i64 x16.Counter.By.c0,.int .i64 x16.Counter.By.c1,.int .i64 x16.Counter.By.c2,.int .i64 x16.Counter.By.c3,.int .i64 x16.Counter.By.c4,.int .i64 x16.Counter.By.c5,.int .i64 x16.Counter.By.c6,.int .i64 x16.Counter.By.c7]) W_ W_ bS R_)<|tP mv<|tP mv<|gE h fun g17 h=>bE h fun x18 y18 h=>tP (ia bU bS g17 y18)<|tR (cu (v:=.agg [.int .i64 x18.Level,.int .i64 x18.Window,.str x18.Service,.str x18.Op,.int .i64 x18.Counter.Count,.int .i64 x18.Counter.Errs,.int .i64 x18.Counter.By.c0,.int .i64 x18.Counter.By.c1,.int .i64 x18.Counter.By.c2,.int .i64 x18.Counter.By.c3,.int .i64 x18.Counter.By.c4,.int .i64 x18.Counter.By.c5,.int .i64 x18.Counter.By.c6,.int .i64 x18.Counter.By.c7]) W_ W_ bS R_)<|tP (CY (v:=.bool (!((x16.Level == x18.Level)&&((x16.Window == x18.Window)&&((ByteArray.toList x16.Service == ByteArray.toList x18.Service)&&((ByteArray.toList x16.Op == ByteArray.toList x18.Op)&&((x16.Counter.Count == x18.Counter.Count)&&((x16.Counter.Errs == x18.Counter.Errs)&&((x16.Counter.By.c0 == x18.Counter.By.c0)&&((x16.Counter.By.c1 == x18.Counter.By.c1)&&((x16.Counter.By.c2 == x18.Counter.By.c2)&&((x16.Counter.By.c3 == x18.Counter.By.c3)&&((x16.Counter.By.c4 == x18.Counter.By.c4)&&((x16.Counter.By.c5 == x18.Counter.By.c5)&&((x16.Counter.By.c6 == x18.Counter.By.c6)&&((x16.Counter.By.c7 == x18.Counter.By.c7)&&true)))))))))))))))) W_ W_ Gl rfl Gm Gn W_ rfl)<|cc (by kernel_rfl)<|k14 _<|wi 25 h (fun c19 h=>?_) fun c19 h=>?_
   ·refine sr fun _ k20=>rP Y<|en k20<|ac<|by cases ah h hq9;exact rk
   ·refine aq<|k13 _<|aB<|rP mv<|rP bi<|rP Y<|aM<|bk (ra []) ⟨(IntKind.i64.wrap (au+1)),aI h hq9,rfl⟩
  ·refine bc<|tk (ah h hq9) fun h=>k6 _<|sr fun _ k21=>rP Y<|en k21<|ac<|by cases h;exact rk
def tw (a0:List Edge) (a1:List Edge) (au:Int):Option (Int⊕Bool):=
 if(decide (au<(List.length a0:Int)))=true then(gd (0≤au) (Option.bind (a0[(Int.toNat au)]?) (fun(x16:Edge)=>gd (0≤au) (Option.bind (a1[(Int.toNat au)]?) (fun(x18:Edge)=>if(!((ByteArray.toList x16.From == ByteArray.toList x18.From)&&((ByteArray.toList x16.To == ByteArray.toList x18.To)&&((x16.Count == x18.Count)&&((x16.Errs == x18.Errs)&&true)))))=true then(some (Sum.inr false))else(some (Sum.inl (IntKind.i64.wrap (au+1)))))))))else(some (Sum.inr true))
def tz (a0:List Edge) (a1:List Edge):Option Bool:=
 if((List.length a0:Int) != (List.length a1:Int))=true then(some false)else(am (fun(s:Int)=>tw a0 a1 s) Fu 0)
theorem PN (a0:List Edge) (a1:List Edge) {r:Bool} (h:tz a0 a1=some r):Ok Tryz.prog 40 [.sl 4 (List.map aU a0),.sl 4 (List.map aU a1)] [] [] (.bool r) [] []:=by
 refine oK Tryz.func40 rfl fun X=>sr fun _ k1=>rP Y<|en k1<|ai fun _ k2=>sr fun _ k3=>rP mv<|rP (zl bH)<|rP mv<|rP (zl bH)<|rP bi<|en k3<|wi 10 h (fun c4 h=>?_) fun c4 h=>?_
 ·refine sr fun _ k5=>rP Y<|en k5<|ac<|by cases h;exact rk
 ·refine aq<|k2 _<|ai fun _ k6=>sr fun _ k7=>rP Y<|en k7<|ax<|bv (fun m s=>∃(au:Int),am (fun(s:Int)=>tw a0 a1 s) m au=some r∧s=lit [(0,.sl 4 (List.map aU a0)),(1,.sl 4 (List.map aU a1)),(5,.int .i64 au)] [] [] X) Fu
   ⟨_,ra [],0,h,rfl⟩ ?_
  rintro m s ⟨au,h,rfl⟩
  obtain⟨m0,q8,rfl,h,hq9⟩:=bu h
  replace h:tw a0 a1 au=some q8:=h
  refine ai fun _ k10=>sr fun _ k11=>rP mv<|rP mv<|rP (zl bH)<|rP bi<|en k11<|wi 14 h (fun c12 h=>?_) fun c12 h=>?_
  ·refine aq<|k10 _<|ai fun _ k13=>ax<|ai fun _ k14=>cD (by kernel_rfl) (by decide +kernel)<|tP mv<|tP mv<|gE h fun g15 h=>bE h fun x16 y16 h=>tP (ia bH cm g15 y16)<|tR (cu (v:=.agg [.str x16.From,.str x16.To,.int .i64 x16.Count,.int .i64 x16.Errs]) W_ W_ cm R_)<|tP mv<|tP mv<|gE h fun g17 h=>bE h fun x18 y18 h=>tP (ia bH cm g17 y18)<|tR (cu (v:=.agg [.str x18.From,.str x18.To,.int .i64 x18.Count,.int .i64 x18.Errs]) W_ W_ cm R_)<|tP (hY (v:=.bool (!((ByteArray.toList x16.From == ByteArray.toList x18.From)&&((ByteArray.toList x16.To == ByteArray.toList x18.To)&&((x16.Count == x18.Count)&&((x16.Errs == x18.Errs)&&true)))))) W_ W_ Gp rfl Gq Gr W_ rfl)<|cc (by kernel_rfl)<|k14 _<|wi 25 h (fun c19 h=>?_) fun c19 h=>?_
   ·refine sr fun _ k20=>rP Y<|en k20<|ac<|by cases ah h hq9;exact rk
   ·refine aq<|k13 _<|aB<|rP mv<|rP bi<|rP Y<|aM<|bk (ra []) ⟨(IntKind.i64.wrap (au+1)),aI h hq9,rfl⟩
  ·refine bc<|tk (ah h hq9) fun h=>k6 _<|sr fun _ k21=>rP Y<|en k21<|ac<|by cases h;exact rk
def tA (a0:List bz) (a1:List bz) (au:Int):Option (Int⊕Bool):=
 if(decide (au<(List.length a0:Int)))=true then(gd (0≤au) (Option.bind (a0[(Int.toNat au)]?) (fun(x16:bz)=>gd (0≤au) (Option.bind (a1[(Int.toNat au)]?) (fun(x18:bz)=>if(!((ByteArray.toList x16.Service == ByteArray.toList x18.Service)&&((ByteArray.toList x16.Op == ByteArray.toList x18.Op)&&((x16.Trace.Hi == x18.Trace.Hi)&&((x16.Trace.Lo == x18.Trace.Lo)&&((x16.Id == x18.Id)&&((x16.Block == x18.Block)&&true)))))))=true then(some (Sum.inr false))else(some (Sum.inl (IntKind.i64.wrap (au+1)))))))))else(some (Sum.inr true))
def tB (a0:List bz) (a1:List bz):Option Bool:=
 if((List.length a0:Int) != (List.length a1:Int))=true then(some false)else(am (fun(s:Int)=>tA a0 a1 s) Fu 0)
theorem PO (a0:List bz) (a1:List bz) {r:Bool} (h:tB a0 a1=some r):Ok Tryz.prog 41 [.sl 6 (List.map aV a0),.sl 6 (List.map aV a1)] [] [] (.bool r) [] []:=by
 refine oK Tryz.func41 rfl fun X=>sr fun _ k1=>rP Y<|en k1<|ai fun _ k2=>sr fun _ k3=>rP mv<|rP (zl bO)<|rP mv<|rP (zl bO)<|rP bi<|en k3<|wi 10 h (fun c4 h=>?_) fun c4 h=>?_
 ·refine sr fun _ k5=>rP Y<|en k5<|ac<|by cases h;exact rk
 ·refine aq<|k2 _<|ai fun _ k6=>sr fun _ k7=>rP Y<|en k7<|ax<|bv (fun m s=>∃(au:Int),am (fun(s:Int)=>tA a0 a1 s) m au=some r∧s=lit [(0,.sl 6 (List.map aV a0)),(1,.sl 6 (List.map aV a1)),(5,.int .i64 au)] [] [] X) Fu
   ⟨_,ra [],0,h,rfl⟩ ?_
  rintro m s ⟨au,h,rfl⟩
  obtain⟨m0,q8,rfl,h,hq9⟩:=bu h
  replace h:tA a0 a1 au=some q8:=h
  refine ai fun _ k10=>sr fun _ k11=>rP mv<|rP mv<|rP (zl bO)<|rP bi<|en k11<|wi 14 h (fun c12 h=>?_) fun c12 h=>?_
  ·refine aq<|k10 _<|ai fun _ k13=>ax<|ai fun _ k14=>cD (by kernel_rfl) (by decide +kernel)<|tP mv<|tP mv<|gE h fun g15 h=>bE h fun x16 y16 h=>tP (ia bO cj g15 y16)<|tR (cu (v:=.agg [.str x16.Service,.str x16.Op,.int .u64 x16.Trace.Hi,.int .u64 x16.Trace.Lo,.int .u64 x16.Id,.int .i64 x16.Block]) W_ W_ cj R_)<|tP mv<|tP mv<|gE h fun g17 h=>bE h fun x18 y18 h=>tP (ia bO cj g17 y18)<|tR (cu (v:=.agg [.str x18.Service,.str x18.Op,.int .u64 x18.Trace.Hi,.int .u64 x18.Trace.Lo,.int .u64 x18.Id,.int .i64 x18.Block]) W_ W_ cj R_)<|tP (hY (v:=.bool (!((ByteArray.toList x16.Service == ByteArray.toList x18.Service)&&((ByteArray.toList x16.Op == ByteArray.toList x18.Op)&&((x16.Trace.Hi == x18.Trace.Hi)&&((x16.Trace.Lo == x18.Trace.Lo)&&((x16.Id == x18.Id)&&((x16.Block == x18.Block)&&true)))))))) W_ W_ Gs rfl Gt Gu W_ rfl)<|cc (by kernel_rfl)<|k14 _<|wi 25 h (fun c19 h=>?_) fun c19 h=>?_
   ·refine sr fun _ k20=>rP Y<|en k20<|ac<|by cases ah h hq9;exact rk
   ·refine aq<|k13 _<|aB<|rP mv<|rP bi<|rP Y<|aM<|bk (ra []) ⟨(IntKind.i64.wrap (au+1)),aI h hq9,rfl⟩
  ·refine bc<|tk (ah h hq9) fun h=>k6 _<|sr fun _ k21=>rP Y<|en k21<|ac<|by cases h;exact rk
def xh (a0:Block) (a1:Block):Option Bool:=
 if(a0.Number == a1.Number)=true then(if(a0.Born == a1.Born)=true then(if(a0.Tier == a1.Tier)=true then(Option.bind (ov a0.Episodes a1.Episodes) (fun(x6:Bool)=>some x6))else(some false))else(some false))else(some false)
theorem PP (a0:Block) (a1:Block) {r:Bool} (h:xh a0 a1=some r):Ok Tryz.prog 42 [.agg [.int .i64 a0.Number,.int .i64 a0.Born,.int .i64 a0.Tier,.sl 6 (List.map ak a0.Episodes)],.agg [.int .i64 a1.Number,.int .i64 a1.Born,.int .i64 a1.Tier,.sl 6 (List.map ak a1.Episodes)]] [] [] (.bool r) [] []:=by
 refine oK Tryz.func42 rfl fun X=>sr fun _ k1=>rD (bY W_ rfl rfl)<|rD (bY W_ rfl rfl)<|rP Y<|en k1<|sr fun _ k2=>rP (fa ca ae)<|rX (ld ae)<|rP (fa ca ae)<|rX (ld ae)<|rP bi<|rP mv<|li 10 h (fun c3 h=>?_) fun c3 h=>?_
 ·refine rP (fa ca ae)<|rX (ld ae)<|rP (fa ca ae)<|rX (ld ae)<|rP bi<|rP pc<|rP mv<|li 17 h (fun c4 h=>?_) fun c4 h=>?_
  ·refine rP (fa ca ae)<|rX (ld ae)<|rP (fa ca ae)<|rX (ld ae)<|rP bi<|rP pc<|rP mv<|li 24 h (fun c5 h=>?_) fun c5 h=>?_
   ·refine rP (fa ca bp)<|rX (ld bp)<|rP (fa ca bp)<|rX (ld bp)<|bE h fun x6 y6 h=>rD (cz (.bool x6) (A9 a0.Episodes a1.Episodes y6) A3)<|rP pc<|rP Y<|en k2<|ac<|by cases h;exact rk
   ·refine rS<|rS<|rS<|rS<|rS<|rP pc<|rP Y<|en k2<|ac<|by cases h;exact rk
  ·refine rS<|rS<|rS<|rS<|rS<|rP pc<|rP mv<|rS<|rS<|rS<|rS<|rS<|rP pc<|rP Y<|en k2<|ac<|by cases h;exact rk
 ·refine rS<|rS<|rS<|rS<|rS<|rP pc<|rP mv<|rS<|rS<|rS<|rS<|rS<|rP pc<|rP mv<|rS<|rS<|rS<|rS<|rS<|rP pc<|rP Y<|en k2<|ac<|by cases h;exact rk
def qz (a0:aC) (a1:aC) (dH:Int):Option (Int⊕Bool):=
 if(decide (dH<(List.length a0.Blocks:Int)))=true then(gd (0≤dH) (Option.bind (a0.Blocks[(Int.toNat dH)]?) (fun(x49:Block)=>gd (0≤dH) (Option.bind (a1.Blocks[(Int.toNat dH)]?) (fun(x51:Block)=>Option.bind (xh x49 x51) (fun(x52:Bool)=>if(!x52)=true then(some (Sum.inr false))else(some (Sum.inl (IntKind.i64.wrap (dH+1))))))))))else(some (Sum.inr true))
def xi (a0:aC) (a1:aC):Option Bool:=
 am (fun(s:Int)=>qz a0 a1 s) Fu 0
def xj (a0:aC) (a1:aC):Option Bool:=
 Option.bind (Option.bind (tv a0.Rows a1.Rows) (fun(x28:Bool)=>if(!x28)=true then(some (Sum.inr false))else(Option.bind (tz a0.Edges a1.Edges) (fun(x31:Bool)=>if(!x31)=true then(some (Sum.inr false))else(Option.bind (tB a0.Slots a1.Slots) (fun(x34:Bool)=>if(!x34)=true then(some (Sum.inr false))else(if((List.length a0.Blocks:Int) != (List.length a1.Blocks:Int))=true then(some (Sum.inr false))else(some (Sum.inl ()))))))))) (Sum.elim (fun(s:Unit)=>xi a0 a1) some)
def tC (a0:aC) (a1:aC):Option Bool:=
 Option.bind (if(a0.Now != a1.Now)=true then(some (Sum.inr false))else(if(a0.Sec != a1.Sec)=true then(some (Sum.inr false))else(if(a0.Kept != a1.Kept)=true then(some (Sum.inr false))else(if(a0.Next != a1.Next)=true then(some (Sum.inr false))else(Option.bind (zV a0.Policy a1.Policy) (fun(x13:Bool)=>if(!x13)=true then(some (Sum.inr false))else(Option.bind (ov a0.Open a1.Open) (fun(x16:Bool)=>if(!x16)=true then(some (Sum.inr false))else(Option.bind (ov a0.Pending a1.Pending) (fun(x19:Bool)=>if(!x19)=true then(some (Sum.inr false))else(Option.bind (tr a0.Memo a1.Memo) (fun(x22:Bool)=>if(!x22)=true then(some (Sum.inr false))else(some (Sum.inl ())))))))))))))) (Sum.elim (fun(s:Unit)=>xj a0 a1) some)
theorem Gz (a0:aC) (a1:aC) {r:Bool} (h:tC a0 a1=some r):Ok Tryz.prog 12 [.agg [.int .i64 a0.Now,.int .i64 a0.Sec,.int .i64 a0.Kept,.int .i64 a0.Next,.int .i64 a0.Policy.Kind,.int .i64 a0.Policy.N,.str a0.Policy.Key,.str a0.Policy.Value,.sl 5 (List.map aj a0.Policy.Kids),.sl 6 (List.map ak a0.Open),.sl 6 (List.map ak a0.Pending),.sl 3 (List.map aQ a0.Memo),.sl 14 (List.map aP a0.Rows),.sl 4 (List.map aU a0.Edges),.sl 6 (List.map aV a0.Slots),.sl 4 (List.map aR a0.Blocks)],.agg [.int .i64 a1.Now,.int .i64 a1.Sec,.int .i64 a1.Kept,.int .i64 a1.Next,.int .i64 a1.Policy.Kind,.int .i64 a1.Policy.N,.str a1.Policy.Key,.str a1.Policy.Value,.sl 5 (List.map aj a1.Policy.Kids),.sl 6 (List.map ak a1.Open),.sl 6 (List.map ak a1.Pending),.sl 3 (List.map aQ a1.Memo),.sl 14 (List.map aP a1.Rows),.sl 4 (List.map aU a1.Edges),.sl 6 (List.map aV a1.Slots),.sl 4 (List.map aR a1.Blocks)]] [] [] (.bool r) [] []:=by
 refine oK Tryz.func12 rfl fun X=>sr fun _ k1=>rD (bY W_ rfl rfl)<|rD (bY W_ rfl rfl)<|rP Y<|en k1<|bE h fun q2 h hk3=>bx (fun s=>xj a0 a1=some r∧s=lit [(2,.ptr 2 0 0),(3,.ptr 3 0 0)] [((2,0),.box [.int .i64 a0.Now,.int .i64 a0.Sec,.int .i64 a0.Kept,.int .i64 a0.Next,.int .i64 a0.Policy.Kind,.int .i64 a0.Policy.N,.str a0.Policy.Key,.str a0.Policy.Value,.sl 5 (List.map aj a0.Policy.Kids),.sl 6 (List.map ak a0.Open),.sl 6 (List.map ak a0.Pending),.sl 3 (List.map aQ a0.Memo),.sl 14 (List.map aP a0.Rows),.sl 4 (List.map aU a0.Edges),.sl 6 (List.map aV a0.Slots),.sl 4 (List.map aR a0.Blocks)]),((3,0),.box [.int .i64 a1.Now,.int .i64 a1.Sec,.int .i64 a1.Kept,.int .i64 a1.Next,.int .i64 a1.Policy.Kind,.int .i64 a1.Policy.N,.str a1.Policy.Key,.str a1.Policy.Value,.sl 5 (List.map aj a1.Policy.Kids),.sl 6 (List.map ak a1.Open),.sl 6 (List.map ak a1.Pending),.sl 3 (List.map aQ a1.Memo),.sl 14 (List.map aP a1.Rows),.sl 4 (List.map aU a1.Edges),.sl 6 (List.map aV a1.Slots),.sl 4 (List.map aR a1.Blocks)])] [(2,1),(3,1)] X) ?_ ?_
 ·skip
  refine sr fun _ k4=>rP (fa av ae)<|rX (ld ae)<|rP (fa av ae)<|rX (ld ae)<|rP bi<|rP mv<|li 11 h (fun c5 h=>?_) fun c5 h=>?_
  ·refine rS<|rS<|rS<|rS<|rS<|rP pc<|rP mv<|rS<|rS<|rS<|rS<|rS<|rP pc<|rP mv<|rS<|rS<|rS<|rS<|rS<|rP pc<|rP mv<|rS<|rS<|rS<|rS<|rS<|rS<|rP pc<|rP mv<|rS<|rS<|rS<|rS<|rS<|rS<|rP pc<|rP mv<|rS<|rS<|rS<|rS<|rS<|rS<|rP pc<|rP mv<|rS<|rS<|rS<|rS<|rS<|rS<|rP pc<|en k4<|bM D_ rfl<|sr fun _ k6=>rP Y<|en k6<|ac<|by cases ah h hk3;exact rk
  ·refine rP (fa av ae)<|rX (ld ae)<|rP (fa av ae)<|rX (ld ae)<|rP bi<|rP pc<|rP mv<|li 18 h (fun c7 h=>?_) fun c7 h=>?_
   ·refine rS<|rS<|rS<|rS<|rS<|rP pc<|rP mv<|rS<|rS<|rS<|rS<|rS<|rP pc<|rP mv<|rS<|rS<|rS<|rS<|rS<|rS<|rP pc<|rP mv<|rS<|rS<|rS<|rS<|rS<|rS<|rP pc<|rP mv<|rS<|rS<|rS<|rS<|rS<|rS<|rP pc<|rP mv<|rS<|rS<|rS<|rS<|rS<|rS<|rP pc<|en k4<|bM D_ rfl<|sr fun _ k8=>rP Y<|en k8<|ac<|by cases ah h hk3;exact rk
   ·refine rP (fa av ae)<|rX (ld ae)<|rP (fa av ae)<|rX (ld ae)<|rP bi<|rP pc<|rP mv<|li 25 h (fun c9 h=>?_) fun c9 h=>?_
    ·refine rS<|rS<|rS<|rS<|rS<|rP pc<|rP mv<|rS<|rS<|rS<|rS<|rS<|rS<|rP pc<|rP mv<|rS<|rS<|rS<|rS<|rS<|rS<|rP pc<|rP mv<|rS<|rS<|rS<|rS<|rS<|rS<|rP pc<|rP mv<|rS<|rS<|rS<|rS<|rS<|rS<|rP pc<|en k4<|bM D_ rfl<|sr fun _ k10=>rP Y<|en k10<|ac<|by cases ah h hk3;exact rk
    ·refine rP (fa av ae)<|rX (ld ae)<|rP (fa av ae)<|rX (ld ae)<|rP bi<|rP pc<|rP mv<|li 32 h (fun c11 h=>?_) fun c11 h=>?_
     ·refine rS<|rS<|rS<|rS<|rS<|rS<|rP pc<|rP mv<|rS<|rS<|rS<|rS<|rS<|rS<|rP pc<|rP mv<|rS<|rS<|rS<|rS<|rS<|rS<|rP pc<|rP mv<|rS<|rS<|rS<|rS<|rS<|rS<|rP pc<|en k4<|bM D_ rfl<|sr fun _ k12=>rP Y<|en k12<|ac<|by cases ah h hk3;exact rk
     ·refine rP (fa av ar)<|pl 34 (.agg [.int .i64 a0.Policy.Kind,.int .i64 a0.Policy.N,.str a0.Policy.Key,.str a0.Policy.Value,.sl 5 (List.map aj a0.Policy.Kids)]) ar<|rP (fa av ar)<|pl 36 (.agg [.int .i64 a1.Policy.Kind,.int .i64 a1.Policy.N,.str a1.Policy.Key,.str a1.Policy.Value,.sl 5 (List.map aj a1.Policy.Kids)]) ar<|bE h fun x13 y13 h=>rD ((cZ (Na a0.Policy a1.Policy y13) FT).fx (y:=⟨[],.bool x13,[],[37]⟩) rfl)<|rP un<|rP pc<|rP mv<|li 40 h (fun c14 h=>?_) fun c14 h=>?_
      ·refine rS<|rS<|rS<|rS<|rS<|rS<|rP pc<|rP mv<|rS<|rS<|rS<|rS<|rS<|rS<|rP pc<|rP mv<|rS<|rS<|rS<|rS<|rS<|rS<|rP pc<|en k4<|bM D_ rfl<|sr fun _ k15=>rP Y<|en k15<|ac<|by cases ah h hk3;exact rk
      ·refine rP (fa av bp)<|rX (ld bp)<|rP (fa av bp)<|rX (ld bp)<|bE h fun x16 y16 h=>rD (cz (.bool x16) (A9 a0.Open a1.Open y16) A3)<|rP un<|rP pc<|rP mv<|li 48 h (fun c17 h=>?_) fun c17 h=>?_
       ·refine rS<|rS<|rS<|rS<|rS<|rS<|rP pc<|rP mv<|rS<|rS<|rS<|rS<|rS<|rS<|rP pc<|en k4<|bM D_ rfl<|sr fun _ k18=>rP Y<|en k18<|ac<|by cases ah h hk3;exact rk
       ·refine rP (fa av bp)<|rX (ld bp)<|rP (fa av bp)<|rX (ld bp)<|bE h fun x19 y19 h=>rD (cz (.bool x19) (A9 a0.Pending a1.Pending y19) A3)<|rP un<|rP pc<|rP mv<|li 56 h (fun c20 h=>?_) fun c20 h=>?_
        ·refine rS<|rS<|rS<|rS<|rS<|rS<|rP pc<|en k4<|bM D_ rfl<|sr fun _ k21=>rP Y<|en k21<|ac<|by cases ah h hk3;exact rk
        ·refine rP (fa av ci)<|rX (ld ci)<|rP (fa av ci)<|rX (ld ci)<|bE h fun x22 y22 h=>rD (cz (.bool x22) (PL a0.Memo a1.Memo y22) PC)<|rP un<|rP pc<|en k4<|wi 63 h (fun c23 h=>?_) fun c23 h=>?_
         ·refine sr fun _ k24=>rP Y<|en k24<|ac<|by cases ah h hk3;exact rk
         ·refine aq<|tk (aI h hk3) fun h=>?_
          exact⟨_,ra [(2,0),(3,0)],h,rfl⟩
 ·rintro s ⟨h,rfl⟩
  refine bE h fun q25 h hk26=>bx (fun s=>xi a0 a1=some r∧s=lit [(2,.ptr 2 0 0),(3,.ptr 3 0 0)] [((2,0),.box [.int .i64 a0.Now,.int .i64 a0.Sec,.int .i64 a0.Kept,.int .i64 a0.Next,.int .i64 a0.Policy.Kind,.int .i64 a0.Policy.N,.str a0.Policy.Key,.str a0.Policy.Value,.sl 5 (List.map aj a0.Policy.Kids),.sl 6 (List.map ak a0.Open),.sl 6 (List.map ak a0.Pending),.sl 3 (List.map aQ a0.Memo),.sl 14 (List.map aP a0.Rows),.sl 4 (List.map aU a0.Edges),.sl 6 (List.map aV a0.Slots),.sl 4 (List.map aR a0.Blocks)]),((3,0),.box [.int .i64 a1.Now,.int .i64 a1.Sec,.int .i64 a1.Kept,.int .i64 a1.Next,.int .i64 a1.Policy.Kind,.int .i64 a1.Policy.N,.str a1.Policy.Key,.str a1.Policy.Value,.sl 5 (List.map aj a1.Policy.Kids),.sl 6 (List.map ak a1.Open),.sl 6 (List.map ak a1.Pending),.sl 3 (List.map aQ a1.Memo),.sl 14 (List.map aP a1.Rows),.sl 4 (List.map aU a1.Edges),.sl 6 (List.map aV a1.Slots),.sl 4 (List.map aR a1.Blocks)])] [(2,1),(3,1)] X) ?_ ?_
  ·skip
   refine sr fun _ k27=>rP (fa av bU)<|rX (ld bU)<|rP (fa av bU)<|rX (ld bU)<|bE h fun x28 y28 h=>rD (cz (.bool x28) (PM a0.Rows a1.Rows y28) PD)<|rP un<|rP mv<|li 70 h (fun c29 h=>?_) fun c29 h=>?_
   ·refine rS<|rS<|rS<|rS<|rS<|rS<|rP pc<|rP mv<|rS<|rS<|rS<|rS<|rS<|rS<|rP pc<|rP mv<|rS<|rS<|rS<|rS<|rS<|rS<|rS<|rP pc<|en k27<|bM D_ rfl<|sr fun _ k30=>rP Y<|en k30<|ac<|by cases ah h hk26;exact rk
   ·refine rP (fa av bH)<|rX (ld bH)<|rP (fa av bH)<|rX (ld bH)<|bE h fun x31 y31 h=>rD (cz (.bool x31) (PN a0.Edges a1.Edges y31) PE)<|rP un<|rP pc<|rP mv<|li 78 h (fun c32 h=>?_) fun c32 h=>?_
    ·refine rS<|rS<|rS<|rS<|rS<|rS<|rP pc<|rP mv<|rS<|rS<|rS<|rS<|rS<|rS<|rS<|rP pc<|en k27<|bM D_ rfl<|sr fun _ k33=>rP Y<|en k33<|ac<|by cases ah h hk26;exact rk
    ·refine rP (fa av bO)<|rX (ld bO)<|rP (fa av bO)<|rX (ld bO)<|bE h fun x34 y34 h=>rD (cz (.bool x34) (PO a0.Slots a1.Slots y34) PF)<|rP un<|rP pc<|rP mv<|li 86 h (fun c35 h=>?_) fun c35 h=>?_
     ·refine rS<|rS<|rS<|rS<|rS<|rS<|rS<|rP pc<|en k27<|bM D_ rfl<|sr fun _ k36=>rP Y<|en k36<|ac<|by cases ah h hk26;exact rk
     ·refine rP (fa av bF)<|rX (ld bF)<|rP (zl bF)<|rP (fa av bF)<|rX (ld bF)<|rP (zl bF)<|rP bi<|rP pc<|en k27<|wi 94 h (fun c37 h=>?_) fun c37 h=>?_
      ·refine sr fun _ k38=>rP Y<|en k38<|ac<|by cases ah h hk26;exact rk
      ·refine aq<|tk (aI h hk26) fun h=>?_
       exact⟨_,ra [(2,0),(3,0)],h,rfl⟩
  ·rintro s ⟨h,rfl⟩
   unfold xi at h
   refine ai fun _ k39=>sr fun _ k40=>rP Y<|en k40<|ax<|bv (fun m s=>∃(dH:Int),am (fun(s:Int)=>qz a0 a1 s) m dH=some r∧s=lit [(2,.ptr 2 0 0),(3,.ptr 3 0 0),(5,.int .i64 dH)] [((2,0),.box [.int .i64 a0.Now,.int .i64 a0.Sec,.int .i64 a0.Kept,.int .i64 a0.Next,.int .i64 a0.Policy.Kind,.int .i64 a0.Policy.N,.str a0.Policy.Key,.str a0.Policy.Value,.sl 5 (List.map aj a0.Policy.Kids),.sl 6 (List.map ak a0.Open),.sl 6 (List.map ak a0.Pending),.sl 3 (List.map aQ a0.Memo),.sl 14 (List.map aP a0.Rows),.sl 4 (List.map aU a0.Edges),.sl 6 (List.map aV a0.Slots),.sl 4 (List.map aR a0.Blocks)]),((3,0),.box [.int .i64 a1.Now,.int .i64 a1.Sec,.int .i64 a1.Kept,.int .i64 a1.Next,.int .i64 a1.Policy.Kind,.int .i64 a1.Policy.N,.str a1.Policy.Key,.str a1.Policy.Value,.sl 5 (List.map aj a1.Policy.Kids),.sl 6 (List.map ak a1.Open),.sl 6 (List.map ak a1.Pending),.sl 3 (List.map aQ a1.Memo),.sl 14 (List.map aP a1.Rows),.sl 4 (List.map aU a1.Edges),.sl 6 (List.map aV a1.Slots),.sl 4 (List.map aR a1.Blocks)])] [(2,1),(3,1)] X) Fu
    ⟨_,ra [(2,0),(3,0)],0,h,rfl⟩ ?_
   rintro m s ⟨dH,h,rfl⟩
   obtain⟨m2,q41,rfl,h,hq42⟩:=bu h
   replace h:qz a0 a1 dH=some q41:=h
   refine ai fun _ k43=>sr fun _ k44=>rP mv<|rP (fa av bF)<|rX (ld bF)<|rP (zl bF)<|rP bi<|en k44<|wi 99 h (fun c45 h=>?_) fun c45 h=>?_
   ·refine aq<|k43 _<|ai fun _ k46=>ax<|ai fun _ k47=>cD (by kernel_rfl) (by decide +kernel)<|tP (fa av bF)<|tR (ld bF)<|tP mv<|gE h fun g48 h=>bE h fun x49 y49 h=>tP (ia bF ca g48 y49)<|tR (cu (v:=.agg [.int .i64 x49.Number,.int .i64 x49.Born,.int .i64 x49.Tier,.sl 6 (List.map ak x49.Episodes)]) W_ W_ ca R_)<|tP (fa av bF)<|tR (ld bF)<|tP mv<|gE h fun g50 h=>bE h fun x51 y51 h=>tP (ia bF ca g50 y51)<|tR (cu (v:=.agg [.int .i64 x51.Number,.int .i64 x51.Born,.int .i64 x51.Tier,.sl 6 (List.map ak x51.Episodes)]) W_ W_ ca R_)<|bE h fun x52 y52 h=>tD (cZ (PP x49 x51 y52) PG)<|tP un<|cc (by kernel_rfl)<|k47 _<|wi 113 h (fun c53 h=>?_) fun c53 h=>?_
    ·refine sr fun _ k54=>rP Y<|en k54<|ac<|by cases ah h hq42;exact rk
    ·refine aq<|k46 _<|aB<|rP mv<|rP bi<|rP Y<|aM<|bk (ra [(2,0),(3,0)]) ⟨(IntKind.i64.wrap (dH+1)),aI h hq42,rfl⟩
   ·refine bc<|tk (ah h hq42) fun h=>k39 _<|sr fun _ k55=>rP Y<|en k55<|ac<|by cases h;exact rk
end Go.Proofs.YtjklegmimpehlaaGreat.Ab
