/- What writes and reads numbers and texts. -/
import Derived.Test.YtjklegmimpehlaaGreatAbOps21
import Derived.Test.YtjklegmimpehlaaGreatProg
namespace Go.Proofs.YtjklegmimpehlaaGreat.Ab
open Go Go.RowKit
set_option linter.unusedVariables false
set_option linter.unusedSimpArgs false
set_option maxRecDepth 100000
set_option maxHeartbeats 8000000
def ag (c:UInt8):PV:=.int .u8 (c.toNat:Int)
theorem ae:bm Tryz.prog 3=some ⟨.int .i64,1,8,[.int .i64 0]⟩:=by kernel_rfl
theorem bG:bm Tryz.prog 5=some ⟨.int .u8,1,1,[.int .u8 0]⟩:=by kernel_rfl
theorem aH:bm Tryz.prog 35=some ⟨.slice 5,1,24,[.nil]⟩:=by kernel_rfl
theorem Ni:bm Tryz.prog 42=some ⟨.int .u64,1,8,[.int .u64 0]⟩:=by kernel_rfl
theorem bd:bm Tryz.prog 60=some ⟨.int .u64,1,8,[.int .u64 0]⟩:=by kernel_rfl
def pV (a0:List UInt8) (au:Int) (aY:Int) (x17:UInt8) (ud:Bool):Option ((Int×Int)⊕(Int×Int×Bool)):=
 if ud=true then(some (Sum.inr (0,0,false)))else(gd (0≤aY) (Option.bind (a0[(Int.toNat aY)]?) (fun(x35:UInt8)=>if(decide ((x35.toNat:Int)<128))=true then(some (Sum.inr ((bits .or .u64 au (IntKind.u64.wrap ((IntKind.u64.wrap ((u8 (bits .andNot .u8 (x17.toNat:Int) 128)).toNat:Int))*2 ^ (min (Int.toNat (IntKind.i64.wrap (7*aY))) (IntKind.bits .u64))))),(IntKind.i64.wrap (aY+1)),true)))else(some (Sum.inl ((bits .or .u64 au (IntKind.u64.wrap ((IntKind.u64.wrap ((u8 (bits .andNot .u8 (x17.toNat:Int) 128)).toNat:Int))*2 ^ (min (Int.toNat (IntKind.i64.wrap (7*aY))) (IntKind.bits .u64))))),(IntKind.i64.wrap (aY+1))))))))
def lN (a0:List UInt8) (au:Int) (aY:Int) (x17:UInt8):Option ((Int×Int)⊕(Int×Int×Bool)):=
 gd (¬(IntKind.i64.wrap (7*aY))<0) (Option.bind (gd (0≤aY) (Option.bind (a0[(Int.toNat aY)]?) (fun(x29:UInt8)=>if((x29.toNat:Int) == 0)=true then(some (decide ((0:Int)<aY)))else(some false)))) (fun(s:Bool)=>pV a0 au aY x17 s))
def n4 (a0:List UInt8) (au:Int) (aY:Int):Option ((Int×Int)⊕(Int×Int×Bool)):=
 gd (0≤aY) (Option.bind (a0[(Int.toNat aY)]?) (fun(x17:UInt8)=>Option.bind (if(aY == 9)=true then(if(decide ((1:Int)<(IntKind.u64.wrap ((u8 (bits .andNot .u8 (x17.toNat:Int) 128)).toNat:Int))))=true then(some (Sum.inr (Sum.inr (0,0,false))))else(some (Sum.inl ())))else(some (Sum.inl ()))) (Sum.elim (fun(s:Unit)=>lN a0 au aY x17) some)))
def ka (a0:List UInt8) (au:Int) (aY:Int):Option ((Int×Int)⊕(Int×Int×Bool)):=
 Option.bind (if(decide (aY<(List.length a0:Int)))=true then(if(decide (aY<10))=true then(some (Sum.inl ()))else(some (Sum.inr (Sum.inr (0,0,false)))))else(some (Sum.inr (Sum.inr (0,0,false))))) (Sum.elim (fun(s:Unit)=>n4 a0 au aY) some)
def wl (a0:List UInt8):Option (Int×Int×Bool):=
 am (fun(s:Int×Int)=>ka a0 s.1 s.2) Fu (0,0)
theorem Nj (a0:List UInt8) {r:Int×Int×Bool} (h:wl a0=some r):Ok Tryz.prog 167 [.sl 1 (List.map ag a0)] [] [] (.tup [.int .u64 r.1,.int .i64 r.2.1,.bool r.2.2]) [] []:=by
 unfold wl at h
 refine oK Tryz.func167 rfl fun X=>sr fun _ k1=>rP Y<|rP Y<|rP Y<|en k1<|sr fun _ k2=>rP Y<|en k2<|ai fun _ k3=>sr fun _ k4=>rP Y<|en k4<|ax<|bv (fun m s=>∃(au:Int),∃(aY:Int),am (fun(s:Int×Int)=>ka a0 s.1 s.2) m (au,aY)=some r∧s=lit [(0,.sl 1 (List.map ag a0)),(5,.int .u64 au),(6,.int .i64 aY)] [] [] X) Fu
  ⟨_,ra [],0,0,h,rfl⟩ ?_
 rintro m s ⟨au,aY,h,rfl⟩
 obtain⟨m0,q5,rfl,h,hq6⟩:=bu h
 replace h:ka a0 au aY=some q5:=h
 refine bE h fun q7 h hk8=>bx (fun s=>n4 a0 au aY=some q5∧s=lit [(0,.sl 1 (List.map ag a0)),(5,.int .u64 au),(6,.int .i64 aY)] [] [] X) ?_ ?_
 ·skip
  refine sr fun _ k9=>rP mv<|rP mv<|rP (zl aH)<|rP bi<|rP mv<|li 12 h (fun c10 h=>?_) fun c10 h=>?_
  ·refine rP mv<|rP bi<|rP pc<|en k9<|wi 15 h (fun c11 h=>?_) fun c11 h=>?_
   ·refine aq<|tk (aI h hk8) fun h=>?_
    exact⟨_,ra [],h,rfl⟩
   ·refine bc<|tk (ah h hk8) fun h=>tk (ah h hq6) fun h=>k3 _<|sr fun _ k12=>rP Y<|rP Y<|rP Y<|en k12<|ac<|by cases h;exact rk
  ·refine rS<|rS<|rP pc<|en k9<|fB D_ rfl<|bc<|tk (ah h hk8) fun h=>tk (ah h hq6) fun h=>k3 _<|sr fun _ k13=>rP Y<|rP Y<|rP Y<|en k13<|ac<|by cases h;exact rk
 ·rintro s ⟨h,rfl⟩
  refine ai fun _ k14=>ax<|sr fun _ k15=>rP mv<|rP mv<|gE h fun g16 h=>bE h fun x17 y17 h=>rP (ia aH bG g16 y17)<|rX (ld bG)<|rP ((jO (v:=.int .u8 (bits .andNot .u8 (x17.toNat:Int) 128)) W_ W_ rfl).castp (v':=.int .u8 ((u8 (bits .andNot .u8 (x17.toNat:Int) 128)).toNat:Int)) (by exact congrArg _ (gx (uz _ _ _))))<|rP (cK (v:=.int .u64 (IntKind.u64.wrap ((u8 (bits .andNot .u8 (x17.toNat:Int) 128)).toNat:Int))) W_ (cL bG) (cB bd) rfl)<|rP Y<|en k15<|bE h fun q18 h hk19=>bx (fun s=>lN a0 au aY x17=some q5∧s=lit [(0,.sl 1 (List.map ag a0)),(5,.int .u64 au),(6,.int .i64 aY),(7,.int .u64 (IntKind.u64.wrap ((u8 (bits .andNot .u8 (x17.toNat:Int) 128)).toNat:Int)))] [] [] X) ?_ ?_
  ·skip
   refine sr fun _ k20=>rP mv<|rP bi<|rP mv<|li 26 h (fun c21 h=>?_) fun c21 h=>?_
   ·refine rP mv<|rP bi<|rP pc<|en k20<|wi 29 h (fun c22 h=>?_) fun c22 h=>?_
    ·refine sr fun _ k23=>rP Y<|rP Y<|rP Y<|en k23<|ac<|tk (ah h hk19) fun h=>by cases ah h hq6;exact rk
    ·refine aq<|tk (aI h hk19) fun h=>?_
     exact⟨_,ra [],h,rfl⟩
   ·refine rS<|rS<|rP pc<|en k20<|fB D_ rfl<|aq<|tk (aI h hk19) fun h=>?_
    exact⟨_,ra [],h,rfl⟩
  ·rintro s ⟨h,rfl⟩
   refine sr fun _ k24=>rP mv<|rP mv<|rP mv<|rP bi<|gE h fun g25 h=>rP (jO (v:=.int .u64 (IntKind.u64.wrap ((IntKind.u64.wrap ((u8 (bits .andNot .u8 (x17.toNat:Int) 128)).toNat:Int))*2 ^ (min (Int.toNat (IntKind.i64.wrap (7*aY))) (IntKind.bits .u64))))) W_ W_ (xJ g25))<|rP bi<|rP Y<|en k24<|ax<|bE h fun q26 h hk27=>bx (fun s=>∃(ud:Bool),pV a0 au aY x17 ud=some q5∧s=lit [(0,.sl 1 (List.map ag a0)),(5,.int .u64 (bits .or .u64 au (IntKind.u64.wrap ((IntKind.u64.wrap ((u8 (bits .andNot .u8 (x17.toNat:Int) 128)).toNat:Int))*2 ^ (min (Int.toNat (IntKind.i64.wrap (7*aY))) (IntKind.bits .u64)))))),(6,.int .i64 aY),(36,.bool ud)] [] [] X) ?_ ?_
   ·skip
    refine aB<|rP mv<|rP mv<|gE h fun g28 h=>bE h fun x29 y29 h=>rP (ia aH bG g28 y29)<|rX (ld bG)<|rP bi<|rP mv<|li 42 h (fun c30 h=>?_) fun c30 h=>?_
    ·refine rP mv<|rP bi<|rP pc<|rP Y<|aM<|?_
     obtain rfl:=Option.some.inj h
     have h:=hk27
     exact⟨_,ra [],(decide ((0:Int)<aY)),h,rfl⟩
    ·refine rS<|rS<|rP pc<|rP Y<|aM<|?_
     obtain rfl:=Option.some.inj h
     have h:=hk27
     exact⟨_,ra [],false,h,rfl⟩
   ·rintro s ⟨ud,h,rfl⟩
    refine wi 36 h (fun c31 h=>?_) fun c31 h=>?_
    ·refine sr fun _ k32=>rP Y<|rP Y<|rP Y<|en k32<|ac<|by cases ah h hq6;exact rk
    ·refine sr fun _ k33=>rP mv<|rP mv<|gE h fun g34 h=>bE h fun x35 y35 h=>rP (ia aH bG g34 y35)<|rX (ld bG)<|rP bi<|rP Y<|en k33<|wi 46 h (fun c36 h=>?_) fun c36 h=>?_
     ·refine sr fun _ k37=>rP mv<|rP mv<|rP bi<|rP Y<|rP Y<|rP Y<|en k37<|ac<|by cases ah h hq6;exact rk
     ·refine aq<|k14 _<|aB<|rP mv<|rP bi<|rP Y<|aM<|bk (ra []) ⟨(bits .or .u64 au (IntKind.u64.wrap ((IntKind.u64.wrap ((u8 (bits .andNot .u8 (x17.toNat:Int) 128)).toNat:Int))*2 ^ (min (Int.toNat (IntKind.i64.wrap (7*aY))) (IntKind.bits .u64))))),(IntKind.i64.wrap (aY+1)),aI h hq6,rfl⟩
def sO (au:Int) (aY:Int) (x25:UInt8):Option ((Int×Int)⊕(Int×Int×Bool)):=
 some (Sum.inr ((bits .or .u64 au (IntKind.u64.wrap ((IntKind.u64.wrap ((u8 (bits .and .u8 (x25.toNat:Int) 127)).toNat:Int))*2 ^ (min (Int.toNat (IntKind.u64.wrap (IntKind.i64.wrap (7*aY)))) (IntKind.bits .u64))))),(IntKind.i64.wrap (aY+1)),true))
def n5 (a0:List UInt8) (au:Int) (aY:Int):Option ((Int×Int)⊕(Int×Int×Bool)):=
 gd (0≤aY) (Option.bind (a0[(Int.toNat aY)]?) (fun(x25:UInt8)=>gd (¬(IntKind.u64.wrap (IntKind.i64.wrap (7*aY)))<0) (gd (0≤aY) (Option.bind (a0[(Int.toNat aY)]?) (fun(x29:UInt8)=>if(decide ((x29.toNat:Int)<128))=true then(Option.bind (if(decide ((0:Int)<aY))=true then(gd (0≤aY) (Option.bind (a0[(Int.toNat aY)]?) (fun(x36:UInt8)=>if((x36.toNat:Int) == 0)=true then(some (Sum.inr (Sum.inr (0,0,false))))else(some (Sum.inl ())))))else(some (Sum.inl ()))) (Sum.elim (fun(s:Unit)=>sO au aY x25) some))else(some (Sum.inl ((bits .or .u64 au (IntKind.u64.wrap ((IntKind.u64.wrap ((u8 (bits .and .u8 (x25.toNat:Int) 127)).toNat:Int))*2 ^ (min (Int.toNat (IntKind.u64.wrap (IntKind.i64.wrap (7*aY)))) (IntKind.bits .u64))))),(IntKind.i64.wrap (aY+1))))))))))
def pY (a0:List UInt8) (au:Int) (aY:Int):Option ((Int×Int)⊕(Int×Int×Bool)):=
 Option.bind (if(aY == 9)=true then(gd (0≤aY) (Option.bind (a0[(Int.toNat aY)]?) (fun(x20:UInt8)=>if(decide ((1:Int)<(x20.toNat:Int)))=true then(some (Sum.inr (Sum.inr (0,0,false))))else(some (Sum.inl ())))))else(some (Sum.inl ()))) (Sum.elim (fun(s:Unit)=>n5 a0 au aY) some)
def kU (a0:List UInt8) (au:Int) (aY:Int):Option ((Int×Int)⊕(Int×Int×Bool)):=
 Option.bind (if(decide (aY<(List.length a0:Int)))=true then(if(decide (aY<10))=true then(some (Sum.inl ()))else(some (Sum.inr (Sum.inr (0,0,false)))))else(some (Sum.inr (Sum.inr (0,0,false))))) (Sum.elim (fun(s:Unit)=>pY a0 au aY) some)
def sP (a0:List UInt8):Option (Int×Int×Bool):=
 am (fun(s:Int×Int)=>kU a0 s.1 s.2) Fu (0,0)
theorem F0 (a0:List UInt8) {r:Int×Int×Bool} (h:sP a0=some r):Ok Tryz.prog 120 [.sl 1 (List.map ag a0)] [] [] (.tup [.int .u64 r.1,.int .i64 r.2.1,.bool r.2.2]) [] []:=by
 unfold sP at h
 refine oK Tryz.func120 rfl fun X=>sr fun _ k1=>rP Y<|rP Y<|rP Y<|en k1<|sr fun _ k2=>rP Y<|en k2<|ai fun _ k3=>sr fun _ k4=>rP Y<|en k4<|ax<|bv (fun m s=>∃(au:Int),∃(aY:Int),am (fun(s:Int×Int)=>kU a0 s.1 s.2) m (au,aY)=some r∧s=lit [(0,.sl 1 (List.map ag a0)),(5,.int .u64 au),(6,.int .i64 aY)] [] [] X) Fu
  ⟨_,ra [],0,0,h,rfl⟩ ?_
 rintro m s ⟨au,aY,h,rfl⟩
 obtain⟨m0,q5,rfl,h,hq6⟩:=bu h
 replace h:kU a0 au aY=some q5:=h
 refine bE h fun q7 h hk8=>bx (fun s=>pY a0 au aY=some q5∧s=lit [(0,.sl 1 (List.map ag a0)),(5,.int .u64 au),(6,.int .i64 aY)] [] [] X) ?_ ?_
 ·skip
  refine sr fun _ k9=>rP mv<|rP mv<|rP (zl aH)<|rP bi<|rP mv<|li 11 h (fun c10 h=>?_) fun c10 h=>?_
  ·refine rP mv<|rP bi<|rP pc<|en k9<|wi 14 h (fun c11 h=>?_) fun c11 h=>?_
   ·refine aq<|tk (aI h hk8) fun h=>?_
    exact⟨_,ra [],h,rfl⟩
   ·refine bc<|tk (ah h hk8) fun h=>tk (ah h hq6) fun h=>k3 _<|sr fun _ k12=>rP Y<|rP Y<|rP Y<|en k12<|ac<|by cases h;exact rk
  ·refine rS<|rS<|rP pc<|en k9<|fB D_ rfl<|bc<|tk (ah h hk8) fun h=>tk (ah h hq6) fun h=>k3 _<|sr fun _ k13=>rP Y<|rP Y<|rP Y<|en k13<|ac<|by cases h;exact rk
 ·rintro s ⟨h,rfl⟩
  refine ai fun _ k14=>ax<|bE h fun q15 h hk16=>bx (fun s=>n5 a0 au aY=some q5∧s=lit [(0,.sl 1 (List.map ag a0)),(5,.int .u64 au),(6,.int .i64 aY)] [] [] X) ?_ ?_
  ·skip
   refine sr fun _ k17=>rP mv<|rP bi<|rP mv<|li 19 h (fun c18 h=>?_) fun c18 h=>?_
   ·refine rP mv<|rP mv<|gE h fun g19 h=>bE h fun x20 y20 h=>rP (ia aH bG g19 y20)<|rX (ld bG)<|rP bi<|rP pc<|en k17<|wi 25 h (fun c21 h=>?_) fun c21 h=>?_
    ·refine sr fun _ k22=>rP Y<|rP Y<|rP Y<|en k22<|ac<|tk (ah h hk16) fun h=>by cases ah h hq6;exact rk
    ·refine aq<|tk (aI h hk16) fun h=>?_
     exact⟨_,ra [],h,rfl⟩
   ·refine rS<|rS<|rS<|rS<|rS<|rP pc<|en k17<|fB D_ rfl<|aq<|tk (aI h hk16) fun h=>?_
    exact⟨_,ra [],h,rfl⟩
  ·rintro s ⟨h,rfl⟩
   refine sr fun _ k23=>rP mv<|rP mv<|rP mv<|gE h fun g24 h=>bE h fun x25 y25 h=>rP (ia aH bG g24 y25)<|rX (ld bG)<|rP ((jO (v:=.int .u8 (bits .and .u8 (x25.toNat:Int) 127)) W_ W_ rfl).castp (v':=.int .u8 ((u8 (bits .and .u8 (x25.toNat:Int) 127)).toNat:Int)) (by exact congrArg _ (gx (uz _ _ _))))<|rP (cK (v:=.int .u64 (IntKind.u64.wrap ((u8 (bits .and .u8 (x25.toNat:Int) 127)).toNat:Int))) W_ (cL bG) (cB bd) rfl)<|rP mv<|rP bi<|rP (cK (v:=.int .u64 (IntKind.u64.wrap (IntKind.i64.wrap (7*aY)))) W_ (cL ae) (cB Ni) rfl)<|gE h fun g26 h=>rP (jO (v:=.int .u64 (IntKind.u64.wrap ((IntKind.u64.wrap ((u8 (bits .and .u8 (x25.toNat:Int) 127)).toNat:Int))*2 ^ (min (Int.toNat (IntKind.u64.wrap (IntKind.i64.wrap (7*aY)))) (IntKind.bits .u64))))) W_ W_ (xJ g26))<|rP bi<|rP Y<|en k23<|sr fun _ k27=>rP mv<|rP mv<|gE h fun g28 h=>bE h fun x29 y29 h=>rP (ia aH bG g28 y29)<|rX (ld bG)<|rP bi<|en k27<|wi 42 h (fun c30 h=>?_) fun c30 h=>?_
   ·refine bE h fun q31 h hk32=>bx (fun s=>sO au aY x25=some q5∧s=lit [(5,.int .u64 (bits .or .u64 au (IntKind.u64.wrap ((IntKind.u64.wrap ((u8 (bits .and .u8 (x25.toNat:Int) 127)).toNat:Int))*2 ^ (min (Int.toNat (IntKind.u64.wrap (IntKind.i64.wrap (7*aY)))) (IntKind.bits .u64)))))),(6,.int .i64 aY)] [] [] X) ?_ ?_
    ·skip
     refine sr fun _ k33=>rP mv<|rP bi<|rP mv<|li 45 h (fun c34 h=>?_) fun c34 h=>?_
     ·refine rP mv<|rP mv<|gE h fun g35 h=>bE h fun x36 y36 h=>rP (ia aH bG g35 y36)<|rX (ld bG)<|rP bi<|rP pc<|en k33<|wi 51 h (fun c37 h=>?_) fun c37 h=>?_
      ·refine sr fun _ k38=>rP Y<|rP Y<|rP Y<|en k38<|ac<|tk (ah h hk32) fun h=>by cases ah h hq6;exact rk
      ·refine aq<|tk (aI h hk32) fun h=>?_
       exact⟨_,ra [],h,rfl⟩
     ·refine rS<|rS<|rS<|rS<|rS<|rP pc<|en k33<|fB D_ rfl<|aq<|tk (aI h hk32) fun h=>?_
      exact⟨_,ra [],h,rfl⟩
    ·rintro s ⟨h,rfl⟩
     unfold sO at h
     refine sr fun _ k39=>rP mv<|rP mv<|rP bi<|rP Y<|rP Y<|rP Y<|en k39<|ac<|by cases ah h hq6;exact rk
   ·refine aq<|k14 _<|aB<|rP mv<|rP bi<|rP Y<|aM<|bk (ra []) ⟨(bits .or .u64 au (IntKind.u64.wrap ((IntKind.u64.wrap ((u8 (bits .and .u8 (x25.toNat:Int) 127)).toNat:Int))*2 ^ (min (Int.toNat (IntKind.u64.wrap (IntKind.i64.wrap (7*aY)))) (IntKind.bits .u64))))),(IntKind.i64.wrap (aY+1)),aI h hq6,rfl⟩
def p8 (fg:List UInt8) (fw:Int):Option ((List UInt8×Int)⊕(List UInt8×Int)):=
 if(decide ((127:Int)<fw))=true then(gd ((List.length (fg++[(u8 (bits .or .u8 ((u8 (IntKind.u8.wrap (bits .and .u64 fw 127))).toNat:Int) 128))]))*1≤140737488355328∧(List.length (fg++[(u8 (bits .or .u8 ((u8 (IntKind.u8.wrap (bits .and .u64 fw 127))).toNat:Int) 128))]))≤140737488355328) (some (Sum.inl ((fg++[(u8 (bits .or .u8 ((u8 (IntKind.u8.wrap (bits .and .u64 fw 127))).toNat:Int) 128))]),(Int.fdiv fw (2 ^ (min (Int.toNat 7) (IntKind.bits .u64))))))))else(some (Sum.inr (fg,fw)))
def z7 (cA:List UInt8) (kd:Int):Option (List UInt8):=
 gd ((List.length (cA++[(u8 (IntKind.u8.wrap kd))]))*1≤140737488355328∧(List.length (cA++[(u8 (IntKind.u8.wrap kd))]))≤140737488355328) (some (cA++[(u8 (IntKind.u8.wrap kd))]))
def dm (a0:List UInt8) (a1:Int):Option (List UInt8):=
 Option.bind (am (fun(s:List UInt8×Int)=>p8 s.1 s.2) Fu (a0,a1)) (fun(s:List UInt8×Int)=>z7 s.1 s.2)
theorem d7 (a0:List UInt8) (a1:Int) {r:List UInt8} (h:dm a0 a1=some r):Ok Tryz.prog 64 [.own 1 0,.int .u64 a1] [] [(5,1,List.map ag a0)] (.own 2 0) [] [(5,1,List.map ag r)]:=by
 refine oK Tryz.func64 rfl fun X=>sr fun _ k1=>rP Y<|en k1<|bE h fun q2 h hk3=>bx (fun s=>∃(cA:List UInt8),∃(kd:Int),z7 cA kd=some r∧s=lit [(0,.own 1 0),(1,.int .u64 kd)] [((1,0),.arr 5 1 false (List.map ag cA))] [(1,1)] X) ?_ ?_
 ·skip
  refine ax<|bv (fun m s=>∃(fg:List UInt8),∃(fw:Int),am (fun(s:List UInt8×Int)=>p8 s.1 s.2) m (fg,fw)=some q2∧s=lit [(0,.own 1 0),(1,.int .u64 fw)] [((1,0),.arr 5 1 false (List.map ag fg))] [(1,1)] X) Fu
   ⟨_,ra [(1,0)],a0,a1,h,rfl⟩ ?_
  rintro m s ⟨fg,fw,h,rfl⟩
  obtain⟨m1,q4,rfl,h,hq5⟩:=bu h
  replace h:p8 fg fw=some q4:=h
  refine ai fun _ k6=>sr fun _ k7=>rP mv<|rP bi<|en k7<|wi 6 h (fun c8 h=>?_) fun c8 h=>?_
  ·refine aq<|k6 _<|ax<|sr fun _ k9=>rP mv<|rP mv<|rP bi<|rP ((cK (v:=.int .u8 (IntKind.u8.wrap (bits .and .u64 fw 127))) W_ (cL bd) (cB bG) rfl).castp (v':=.int .u8 ((u8 (IntKind.u8.wrap (bits .and .u64 fw 127))).toNat:Int)) (by exact congrArg _ (gx (iW _))))<|rP ((jO (v:=.int .u8 (bits .or .u8 ((u8 (IntKind.u8.wrap (bits .and .u64 fw 127))).toNat:Int) 128)) W_ W_ rfl).castp (v':=.int .u8 ((u8 (bits .or .u8 ((u8 (IntKind.u8.wrap (bits .and .u64 fw 127))).toNat:Int) 128)).toNat:Int)) (by exact congrArg _ (gx (uz _ _ _))))<|rD (bs (List.map ag [(u8 (bits .or .u8 ((u8 (IntKind.u8.wrap (bits .and .u64 fw 127))).toNat:Int) 128))]) aH bG rfl)<|gE h fun g10 h=>rD (dw (v:=List.map ag (fg++[(u8 (bits .or .u8 ((u8 (IntKind.u8.wrap (bits .and .u64 fw 127))).toNat:Int) 128))])) W_ W_ aH bG rfl rfl W_ (by first | exact .inl rfl | exact .inr ⟨rfl,rfl⟩) W_ (by first | exact .inr rfl | exact .inl rfl) (dL _ _) (dv g10))<|rP Y<|en k9<|aB<|rP mv<|rP bi<|rP Y<|aM<|bk (ra [(13,0)]) ⟨(fg++[(u8 (bits .or .u8 ((u8 (IntKind.u8.wrap (bits .and .u64 fw 127))).toNat:Int) 128))]),(Int.fdiv fw (2 ^ (min (Int.toNat 7) (IntKind.bits .u64)))),aI h hq5,rfl⟩
  ·refine bc<|tk (ah h hq5) fun h=>?_
   obtain rfl:=Option.some.inj h
   have h:=hk3
   exact⟨_,ra [(1,0)],fg,fw,h,rfl⟩
 ·rintro s ⟨cA,kd,h,rfl⟩
  refine sr fun _ k11=>rP mv<|rP mv<|rP ((cK (v:=.int .u8 (IntKind.u8.wrap kd)) W_ (cL bd) (cB bG) rfl).castp (v':=.int .u8 ((u8 (IntKind.u8.wrap kd)).toNat:Int)) (by exact congrArg _ (gx (iW _))))<|rD (bs (List.map ag [(u8 (IntKind.u8.wrap kd))]) aH bG rfl)<|gE h fun g12 h=>rD (dw (v:=List.map ag (cA++[(u8 (IntKind.u8.wrap kd))])) W_ W_ aH bG rfl rfl W_ (by first | exact .inl rfl | exact .inr ⟨rfl,rfl⟩) W_ (by first | exact .inr rfl | exact .inl rfl) (dL _ _) (dv g12))<|rP Y<|en k11<|ac<|by cases h;exact rB [(20,0)]
end Go.Proofs.YtjklegmimpehlaaGreat.Ab
namespace Go.Proofs.YtjklegmimpehlaaGreat.Ab
open Go Go.RowKit
set_option linter.unusedVariables false
set_option linter.unusedSimpArgs false
set_option maxRecDepth 100000
set_option maxHeartbeats 8000000
structure aE where
  B:List UInt8
  deriving DecidableEq
def mL (x:ByteArray):PV:=.str x
def cH (x:Int):PV:=.int .i64 x
def lO (x:Int):PV:=.int .u64 x
structure Z where
  B:List UInt8
  Bad:Bool
  deriving DecidableEq
theorem aN:bm Tryz.prog 4=some ⟨.bool,1,1,[.bool false]⟩:=by kernel_rfl
theorem ap:bm Tryz.prog 9=some ⟨.str,1,16,[.str ByteArray.empty]⟩:=by kernel_rfl
theorem il:bm Tryz.prog 75=some ⟨.struct [(0,35)],1,24,[.nil]⟩:=by kernel_rfl
theorem cQ:bm Tryz.prog 89=some ⟨.struct [(0,35),(1,4)],2,32,[.nil,.bool false]⟩:=by kernel_rfl
theorem cY:bm Tryz.prog 99=some ⟨.struct [(0,35),(1,4)],2,32,[.nil,.bool false]⟩:=by kernel_rfl
theorem da:bm Tryz.prog 117=some ⟨.slice 3,1,24,[.nil]⟩:=by kernel_rfl
theorem n6:bm Tryz.prog 135=some ⟨.slice 60,1,24,[.nil]⟩:=by kernel_rfl
theorem mM:bm Tryz.prog 184=some ⟨.slice 9,1,24,[.nil]⟩:=by kernel_rfl
theorem F1:(Tryz.prog.info? 5).bind (·.zero)=some (.int .u8 0):=by kernel_rfl
theorem eW:aF Tryz.prog 26:=eN Tryz.func26
theorem sQ:aF Tryz.prog 29:=eN Tryz.func29
theorem jg:aF Tryz.prog 47:=eN Tryz.func47
theorem d8:aF Tryz.prog 64:=eN Tryz.func64
theorem eK:aF Tryz.prog 91:=eN Tryz.func91
theorem z8:aF Tryz.prog 93:=eN Tryz.func93
theorem kV:aF Tryz.prog 94:=eN Tryz.func94
theorem F3:aF Tryz.prog 120:=eN Tryz.func120
theorem Nk:aF Tryz.prog 121:=eN Tryz.func121
theorem lP:aF Tryz.prog 147:=eN Tryz.func147
theorem Nl:aF Tryz.prog 167:=eN Tryz.func167
def p9 (dX:List UInt8) (dH:Int):Option ((List UInt8×Int)⊕(List UInt8×Int)):=
 if(decide ((128:Int)≤dH))=true then(gd ((List.length (dX++[(u8 (bits .or .u8 ((u8 (IntKind.u8.wrap dH)).toNat:Int) 128))]))*1≤140737488355328∧(List.length (dX++[(u8 (bits .or .u8 ((u8 (IntKind.u8.wrap dH)).toNat:Int) 128))]))≤140737488355328) (some (Sum.inl ((dX++[(u8 (bits .or .u8 ((u8 (IntKind.u8.wrap dH)).toNat:Int) 128))]),(Int.fdiv dH (2 ^ (min (Int.toNat 7) (IntKind.bits .u64))))))))else(some (Sum.inr (dX,dH)))
def z9 (aS:Int) (dj:List UInt8) (bg:Int):Option ((List UInt8×Int)⊕aE):=
 gd ((List.length (dj++[(u8 (IntKind.u8.wrap bg))]))*1≤140737488355328∧(List.length (dj++[(u8 (IntKind.u8.wrap bg))]))≤140737488355328) (some (Sum.inl ((dj++[(u8 (IntKind.u8.wrap bg))]),(IntKind.i64.wrap (aS+1)))))
def sR (a1:List Int) (cf:List UInt8) (aS:Int):Option ((List UInt8×Int)⊕aE):=
 if(decide (aS<(List.length a1:Int)))=true then(gd (0≤aS) (Option.bind (a1[(Int.toNat aS)]?) (fun(x10:Int)=>Option.bind (am (fun(s:List UInt8×Int)=>p9 s.1 s.2) Fu (cf,x10)) (fun(s:List UInt8×Int)=>z9 aS s.1 s.2))))else(some (Sum.inr (aE.mk cf)))
def mN (a0:aE) (a1:List Int):Option aE:=
 am (fun(s:List UInt8×Int)=>sR a1 s.1 s.2) Fu (a0.B,0)
theorem sS (a0:aE) (a1:List Int) {r:aE} (h:mN a0 a1=some r):Ok Tryz.prog 29 [.ptr 0 0 0,.sl 1 (List.map lO a1)] [[.own 1 0]] [(5,1,List.map ag a0.B)] (.tup []) [[.own 2 0]] [(5,1,List.map ag r.B)]:=by
 unfold mN at h
 refine oK Tryz.func29 rfl fun X=>sr fun _ k1=>rP mv<|rP (zl n6)<|rP mv<|en k1<|ax<|bv (fun m s=>∃(cf:List UInt8),∃(aS:Int),am (fun(s:List UInt8×Int)=>sR a1 s.1 s.2) m (cf,aS)=some r∧s=lit [(0,.ptr 0 0 0),(6,.sl 1 (List.map lO a1)),(7,.int .i64 (List.length a1:Int)),(8,.int .i64 aS)] [((0,0),.box [.own 1 0]),((1,0),.arr 5 1 false (List.map ag cf))] [(0,1),(1,1)] X) Fu
  ⟨_,ra [(0,0),(1,0)],a0.B,0,h,rfl⟩ ?_
 rintro m s ⟨cf,aS,h,rfl⟩
 obtain⟨m0,q2,rfl,h,hq3⟩:=bu h
 replace h:sR a1 cf aS=some q2:=h
 refine sr fun _ k4=>rP bi<|en k4<|ai fun _ k5=>wi 9 h (fun c6 h=>?_) fun c6 h=>?_
 ·refine aq<|k5 _<|ai fun _ k7=>ax<|sr fun _ k8=>gE h fun g9 h=>bE h fun x10 y10 h=>rP (ia n6 bd g9 y10)<|rX (ld bd)<|rP Y<|en k8<|bE h fun q11 h hk12=>bx (fun s=>∃(dj:List UInt8),∃(bg:Int),z9 aS dj bg=some q2∧s=lit [(0,.ptr 0 0 0),(5,.int .u64 bg),(6,.sl 1 (List.map lO a1)),(7,.int .i64 (List.length a1:Int)),(8,.int .i64 aS)] [((0,0),.box [.own 1 0]),((1,0),.arr 5 1 false (List.map ag dj))] [(0,1),(1,1)] X) ?_ ?_
  ·skip
   refine ax<|bv (fun m s=>∃(dX:List UInt8),∃(dH:Int),am (fun(s:List UInt8×Int)=>p9 s.1 s.2) m (dX,dH)=some q11∧s=lit [(0,.ptr 0 0 0),(5,.int .u64 dH),(6,.sl 1 (List.map lO a1)),(7,.int .i64 (List.length a1:Int)),(8,.int .i64 aS)] [((0,0),.box [.own 1 0]),((1,0),.arr 5 1 false (List.map ag dX))] [(0,1),(1,1)] X) Fu
    ⟨_,ra [(0,0),(1,0)],cf,x10,h,rfl⟩ ?_
   rintro m s ⟨dX,dH,h,rfl⟩
   obtain⟨m2,q13,rfl,h,hq14⟩:=bu h
   replace h:p9 dX dH=some q13:=h
   refine ai fun _ k15=>sr fun _ k16=>rP mv<|rP bi<|en k16<|wi 13 h (fun c17 h=>?_) fun c17 h=>?_
   ·refine aq<|k15 _<|ai fun _ k18=>ax<|aB<|rP mv<|rP mv<|rP nk<|rP (fa il aH)<|rX (ld aH)<|rP mv<|rP ((cK (v:=.int .u8 (IntKind.u8.wrap dH)) W_ (cL bd) (cB bG) rfl).castp (v':=.int .u8 ((u8 (IntKind.u8.wrap dH)).toNat:Int)) (by exact congrArg _ (gx (iW _))))<|rP ((jO (v:=.int .u8 (bits .or .u8 ((u8 (IntKind.u8.wrap dH)).toNat:Int) 128)) W_ W_ rfl).castp (v':=.int .u8 ((u8 (bits .or .u8 ((u8 (IntKind.u8.wrap dH)).toNat:Int) 128)).toNat:Int)) (by exact congrArg _ (gx (uz _ _ _))))<|rD (bs (List.map ag [(u8 (bits .or .u8 ((u8 (IntKind.u8.wrap dH)).toNat:Int) 128))]) aH bG rfl)<|gE h fun g19 h=>rD (dw (v:=List.map ag (dX++[(u8 (bits .or .u8 ((u8 (IntKind.u8.wrap dH)).toNat:Int) 128))])) W_ W_ aH bG rfl rfl W_ (by first | exact .inl rfl | exact .inr ⟨rfl,rfl⟩) W_ (by first | exact .inr rfl | exact .inl rfl) (dL _ _) (dv g19))<|rP nk<|rP (fa il aH)<|pZ (aA [.own 25 0] aH)<|en k18<|aB<|rP mv<|rP bi<|rP Y<|aM<|bk (ra [(0,0),(25,0)]) ⟨(dX++[(u8 (bits .or .u8 ((u8 (IntKind.u8.wrap dH)).toNat:Int) 128))]),(Int.fdiv dH (2 ^ (min (Int.toNat 7) (IntKind.bits .u64)))),aI h hq14,rfl⟩
   ·refine bc<|tk (ah h hq14) fun h=>?_
    obtain rfl:=Option.some.inj h
    have h:=hk12
    exact⟨_,ra [(0,0),(1,0)],dX,dH,h,rfl⟩
  ·rintro s ⟨dj,bg,h,rfl⟩
   refine aB<|rP mv<|rP mv<|rP nk<|rP (fa il aH)<|rX (ld aH)<|rP mv<|rP ((cK (v:=.int .u8 (IntKind.u8.wrap bg)) W_ (cL bd) (cB bG) rfl).castp (v':=.int .u8 ((u8 (IntKind.u8.wrap bg)).toNat:Int)) (by exact congrArg _ (gx (iW _))))<|rD (bs (List.map ag [(u8 (IntKind.u8.wrap bg))]) aH bG rfl)<|gE h fun g20 h=>rD (dw (v:=List.map ag (dj++[(u8 (IntKind.u8.wrap bg))])) W_ W_ aH bG rfl rfl W_ (by first | exact .inl rfl | exact .inr ⟨rfl,rfl⟩) W_ (by first | exact .inr rfl | exact .inl rfl) (dL _ _) (dv g20))<|rP nk<|rP (fa il aH)<|pZ (aA [.own 36 0] aH)<|en k7<|aB<|rP bi<|rP mv<|aM<|bk (ra [(0,0),(36,0)]) ⟨(dj++[(u8 (IntKind.u8.wrap bg))]),(IntKind.i64.wrap (aS+1)),aI h hq3,rfl⟩
 ·refine bc<|by cases ah h hq3;exact rB [(1,0)]
def sT (a1:List Int) (cf:List UInt8) (aS:Int):Option ((List UInt8×Int)⊕aE):=
 if(decide (aS<(List.length a1:Int)))=true then(gd (0≤aS) (Option.bind (a1[(Int.toNat aS)]?) (fun(x10:Int)=>Option.bind (mN (aE.mk cf) [(IntKind.u64.wrap x10)]) (fun(x11:aE)=>some (Sum.inl (x11.B,(IntKind.i64.wrap (aS+1))))))))else(some (Sum.inr (aE.mk cf)))
def em (a0:aE) (a1:List Int):Option aE:=
 am (fun(s:List UInt8×Int)=>sT a1 s.1 s.2) Fu (a0.B,0)
theorem eX (a0:aE) (a1:List Int) {r:aE} (h:em a0 a1=some r):Ok Tryz.prog 26 [.ptr 0 0 0,.sl 1 (List.map cH a1)] [[.own 1 0]] [(5,1,List.map ag a0.B)] (.tup []) [[.own 2 0]] [(5,1,List.map ag r.B)]:=by
 unfold em at h
 refine oK Tryz.func26 rfl fun X=>sr fun _ k1=>rP mv<|rP (zl da)<|rP mv<|en k1<|ax<|bv (fun m s=>∃(cf:List UInt8),∃(aS:Int),am (fun(s:List UInt8×Int)=>sT a1 s.1 s.2) m (cf,aS)=some r∧s=lit [(0,.ptr 0 0 0),(6,.sl 1 (List.map cH a1)),(7,.int .i64 (List.length a1:Int)),(8,.int .i64 aS)] [((0,0),.box [.own 1 0]),((1,0),.arr 5 1 false (List.map ag cf))] [(0,1),(1,1)] X) Fu
  ⟨_,ra [(0,0),(1,0)],a0.B,0,h,rfl⟩ ?_
 rintro m s ⟨cf,aS,h,rfl⟩
 obtain⟨m0,q2,rfl,h,hq3⟩:=bu h
 replace h:sT a1 cf aS=some q2:=h
 refine sr fun _ k4=>rP bi<|en k4<|ai fun _ k5=>wi 9 h (fun c6 h=>?_) fun c6 h=>?_
 ·refine aq<|k5 _<|ai fun _ k7=>ax<|sr fun _ k8=>gE h fun g9 h=>bE h fun x10 y10 h=>rP (ia da ae g9 y10)<|rX (ld ae)<|rP Y<|en k8<|aB<|rP mv<|rP mv<|rP (cK (v:=.int .u64 (IntKind.u64.wrap x10)) W_ (cL ae) (cB bd) rfl)<|rD (bs (List.map lO [(IntKind.u64.wrap x10)]) n6 bd rfl)<|bE h fun x11 y11 h=>rD (db (d:=15) (n:=0) W_ (cG [(0,0)] [(1,0)] [(15,0)] (sS (aE.mk cf) [(IntKind.u64.wrap x10)] y11) sQ (.inl ⟨⟨_,_,_,rfl⟩,trivial⟩)))<|en k7<|aB<|rP bi<|rP mv<|aM<|bk (ra [(0,0),(16,0)]) ⟨x11.B,(IntKind.i64.wrap (aS+1)),aI h hq3,rfl⟩
 ·refine bc<|by cases ah h hq3;exact rB [(1,0)]
def sU (a1:List ByteArray) (cf:List UInt8) (aS:Int):Option ((List UInt8×Int)⊕aE):=
 if(decide (aS<(List.length a1:Int)))=true then(gd (0≤aS) (Option.bind (a1[(Int.toNat aS)]?) (fun(x10:ByteArray)=>Option.bind (em (aE.mk cf) [(ByteArray.size x10:Int)]) (fun(x12:aE)=>gd ((List.length (x12.B++(eG x10)))≤140737488355328) (some (Sum.inl ((x12.B++(eG x10)),(IntKind.i64.wrap (aS+1)))))))))else(some (Sum.inr (aE.mk cf)))
def lQ (a0:aE) (a1:List ByteArray):Option aE:=
 am (fun(s:List UInt8×Int)=>sU a1 s.1 s.2) Fu (a0.B,0)
theorem qa (a0:aE) (a1:List ByteArray) {r:aE} (h:lQ a0 a1=some r):Ok Tryz.prog 87 [.ptr 0 0 0,.sl 1 (List.map mL a1)] [[.own 1 0]] [(5,1,List.map ag a0.B)] (.tup []) [[.own 2 0]] [(5,1,List.map ag r.B)]:=by
 unfold lQ at h
 refine oK Tryz.func87 rfl fun X=>sr fun _ k1=>rP mv<|rP (zl mM)<|rP mv<|en k1<|ax<|bv (fun m s=>∃(cf:List UInt8),∃(aS:Int),am (fun(s:List UInt8×Int)=>sU a1 s.1 s.2) m (cf,aS)=some r∧s=lit [(0,.ptr 0 0 0),(6,.sl 1 (List.map mL a1)),(7,.int .i64 (List.length a1:Int)),(8,.int .i64 aS)] [((0,0),.box [.own 1 0]),((1,0),.arr 5 1 false (List.map ag cf))] [(0,1),(1,1)] X) Fu
  ⟨_,ra [(0,0),(1,0)],a0.B,0,h,rfl⟩ ?_
 rintro m s ⟨cf,aS,h,rfl⟩
 obtain⟨m0,q2,rfl,h,hq3⟩:=bu h
 replace h:sU a1 cf aS=some q2:=h
 refine sr fun _ k4=>rP bi<|en k4<|ai fun _ k5=>wi 9 h (fun c6 h=>?_) fun c6 h=>?_
 ·refine aq<|k5 _<|ai fun _ k7=>ax<|sr fun _ k8=>gE h fun g9 h=>bE h fun x10 y10 h=>rP (ia mM ap g9 y10)<|rX (ld ap)<|rP Y<|en k8<|sr fun _ k11=>rP mv<|rP mv<|rP (eh W_ ap)<|rD (bs (List.map cH [(ByteArray.size x10:Int)]) da ae rfl)<|bE h fun x12 y12 h=>rD (db (d:=15) (n:=0) W_ (cG [(0,0)] [(1,0)] [(15,0)] (eX (aE.mk cf) [(ByteArray.size x10:Int)] y12) eW (.inl ⟨⟨_,_,_,rfl⟩,trivial⟩)))<|en k11<|aB<|rP mv<|rP mv<|rP nk<|rP (fa il aH)<|rX (ld aH)<|rP mv<|gE h fun g13 h=>rD (Cu (l:=x12.B) (f:=ag) W_ W_ aH bG F1 (jQ ap) W_ (by first | exact .inl rfl | exact .inr ⟨rfl,rfl⟩) (fun _=>rfl) (g13))<|rP nk<|rP (fa il aH)<|pZ (aA [.own 23 0] aH)<|en k7<|aB<|rP bi<|rP mv<|aM<|bk (ra [(0,0),(23,0)]) ⟨(x12.B++(eG x10)),(IntKind.i64.wrap (aS+1)),aI h hq3,rfl⟩
 ·refine bc<|by cases ah h hq3;exact rB [(1,0)]
def wm (a0:aE) (dG:Int):Option aE:=
 Option.bind (em a0 [dG]) (fun(x6:aE)=>some x6)
def qb (a0:aE) (a1:Bool):Option aE:=
 Option.bind (if a1=true then(some 1)else(some 0)) (fun(s:Int)=>wm a0 s)
theorem Aa (a0:aE) (a1:Bool) {r:aE} (h:qb a0 a1=some r):Ok Tryz.prog 30 [.ptr 0 0 0,.bool a1] [[.own 1 0]] [(5,1,List.map ag a0.B)] (.tup []) [[.own 2 0]] [(5,1,List.map ag r.B)]:=by
 refine oK Tryz.func30 rfl fun X=>sr fun _ k1=>rP Y<|en k1<|bE h fun q2 h hk3=>bx (fun s=>∃(dG:Int),wm a0 dG=some r∧s=lit [(0,.ptr 0 0 0),(4,.int .i64 dG)] [((0,0),.box [.own 1 0]),((1,0),.arr 5 1 false (List.map ag a0.B))] [(0,1),(1,1)] X) ?_ ?_
 ·skip
  refine sr fun _ k4=>rP mv<|en k4<|wi 5 h (fun c5 h=>?_) fun c5 h=>?_
  ·refine aB<|rP Y<|aM<|?_
   obtain rfl:=Option.some.inj h
   have h:=hk3
   exact⟨_,ra [(0,0),(1,0)],1,h,rfl⟩
  ·refine aq ?_
   obtain rfl:=Option.some.inj h
   have h:=hk3
   exact⟨_,ra [(0,0),(1,0)],0,h,rfl⟩
 ·rintro s ⟨dG,h,rfl⟩
  refine aB<|rP mv<|rP mv<|rD (bs (List.map cH [dG]) da ae rfl)<|bE h fun x6 y6 h=>rD (db (d:=8) (n:=0) W_ (cG [(0,0)] [(1,0)] [(8,0)] (eX a0 [dG] y6) eW (.inl ⟨⟨_,_,_,rfl⟩,trivial⟩)))<|aM<|by cases h;exact rB [(9,0)]
def qc (gc:Bool):Option (Unit⊕(Int×Z)):=
 if gc=true then(some (Sum.inr (0,(Z.mk [] true))))else(some (Sum.inl ()))
def Ac (a0:Z) (x3:Int×Int×Bool):Option (Int×Z):=
 gd (0≤x3.2.1) (gd (x3.2.1≤(List.length a0.B:Int)) (some (x3.1,(Z.mk (List.drop (Int.toNat x3.2.1) a0.B) a0.Bad))))
def fF (a0:Z):Option (Int×Z):=
 Option.bind (wl a0.B) (fun(x3:Int×Int×Bool)=>Option.bind (Option.bind (if a0.Bad=true then(some true)else(some (!x3.2.2))) (fun(s:Bool)=>qc s)) (Sum.elim (fun(s:Unit)=>Ac a0 x3) some))
theorem lR (a0:Z) {r:Int×Z} (h:fF a0=some r):Ok Tryz.prog 147 [.ptr 0 0 0] [[.sl 1 (List.map ag a0.B),.bool a0.Bad]] [] (.int .u64 r.1) [[.sl 1 (List.map ag r.2.B),.bool r.2.Bad]] []:=by
 refine oK Tryz.func147 rfl fun X=>sr fun _ k1=>rP Y<|en k1<|sr fun _ k2=>rP mv<|rP nk<|rP (fa cQ aH)<|rX (ld aH)<|bE h fun x3 y3 h=>rD (cZ (Nj a0.B y3) Nl)<|rP mv<|rP ex<|rP ex<|rP ex<|rP Y<|rP Y<|rP Y<|en k2<|bE h fun q4 h hk5=>bx (fun s=>Ac a0 x3=some r∧s=lit [(0,.ptr 0 0 0),(3,.int .u64 x3.1),(4,.int .i64 x3.2.1)] [((0,0),.box [.sl 1 (List.map ag a0.B),.bool a0.Bad])] [(0,1)] X) ?_ ?_
 ·skip
  refine bE h fun q6 h hk7=>bx (fun s=>∃(gc:Bool),qc gc=some q4∧s=lit [(0,.ptr 0 0 0),(3,.int .u64 x3.1),(4,.int .i64 x3.2.1),(22,.bool gc)] [((0,0),.box [.sl 1 (List.map ag a0.B),.bool a0.Bad])] [(0,1)] X) ?_ ?_
  ·skip
   refine aB<|rP mv<|rP nk<|rP (fa cQ aN)<|rX (ld aN)<|rP mv<|li 19 h (fun c8 h=>?_) fun c8 h=>?_
   ·refine rS<|rS<|rP pc<|aM<|?_
    obtain rfl:=Option.some.inj h
    have h:=hk7
    exact⟨_,ra [(0,0)],true,h,rfl⟩
   ·refine rP mv<|rP un<|rP pc<|aM<|?_
    obtain rfl:=Option.some.inj h
    have h:=hk7
    exact⟨_,ra [(0,0)],(!x3.2.2),h,rfl⟩
  ·rintro s ⟨gc,h,rfl⟩
   refine wi 22 h (fun c9 h=>?_) fun c9 h=>?_
   ·refine sr fun _ k10=>rP mv<|rP mv<|rP nk<|rP (fa cQ aH)<|pZ (aA [.nil,.bool a0.Bad] aH)<|rP nk<|rP (fa cQ aN)<|pZ (aA [.nil,.bool true] aN)<|en k10<|sr fun _ k11=>rP Y<|en k11<|de (dy (tl':=[(2,.int .u64 0)]) (ol':=[((0,0),.box [.sl 1 (List.map ag []),.bool true])]) (ra (tl:=[(2,.int .u64 0)]) (ol:=[((0,0),.box [.nil,.bool true])]) (nx:=[(0,1)]) [(0,0)]) ⟨rfl,ao _,trivial⟩ ⟨rfl,(.box ⟨ba _,ao _,trivial⟩),trivial⟩)<|ac<|by cases ah h hk5;exact rB []
   ·refine aq<|tk (aI h hk5) fun h=>?_
    exact⟨_,ra [(0,0)],h,rfl⟩
 ·rintro s ⟨h,rfl⟩
  refine sr fun _ k12=>rP mv<|rP mv<|rP nk<|rP (fa cQ aH)<|rX (ld aH)<|rP mv<|gE h fun g13 h=>gE h fun g14 h=>rP (gk (l:=(Int.toNat x3.2.1)) W_ aH bG (fV W_ (by exact(gh g13))) gz (by (try simp only[List.length_map]);omega) (by (try simp only[List.length_map]);omega) (by exact mh _ _))<|rP nk<|rP (fa cQ aH)<|pZ (aA [.sl 1 (List.map ag (List.drop (Int.toNat x3.2.1) a0.B)),.bool a0.Bad] aH)<|en k12<|sr fun _ k15=>rP mv<|rP Y<|en k15<|ac<|by cases h;exact rB []
def dZ (a0:Z):Option (Int×Z):=
 Option.bind (fF a0) (fun(x3:Int×Z)=>if(decide ((IntKind.u64.wrap (List.length x3.2.B:Int))<x3.1))=true then(some (0,(Z.mk [] true)))else(some ((IntKind.i64.wrap x3.1),x3.2)))
theorem kW (a0:Z) {r:Int×Z} (h:dZ a0=some r):Ok Tryz.prog 94 [.ptr 0 0 0] [[.sl 1 (List.map ag a0.B),.bool a0.Bad]] [] (.int .i64 r.1) [[.sl 1 (List.map ag r.2.B),.bool r.2.Bad]] []:=by
 refine oK Tryz.func94 rfl fun X=>sr fun _ k1=>rP Y<|en k1<|sr fun _ k2=>rP mv<|bE h fun x3 y3 h=>rD (cG [(0,0)] [] [] (lR a0 y3) lP (.inl trivial))<|rP Y<|en k2<|ai fun _ k4=>sr fun _ k5=>rP mv<|rP mv<|rP nk<|rP (fa cQ aH)<|rX (ld aH)<|rP (zl aH)<|rP (cK (v:=.int .u64 (IntKind.u64.wrap (List.length x3.2.B:Int))) W_ (cL ae) (cB bd) rfl)<|rP bi<|en k5<|wi 13 h (fun c6 h=>?_) fun c6 h=>?_
 ·refine sr fun _ k7=>rP mv<|rP mv<|rP nk<|rP (fa cQ aH)<|pZ (aA [.nil,.bool x3.2.Bad] aH)<|rP nk<|rP (fa cQ aN)<|pZ (aA [.nil,.bool true] aN)<|en k7<|sr fun _ k8=>rP Y<|en k8<|de (dy (tl':=[(2,.int .i64 0)]) (ol':=[((0,0),.box [.sl 1 (List.map ag []),.bool true])]) (ra (tl:=[(2,.int .i64 0)]) (ol:=[((0,0),.box [.nil,.bool true])]) (nx:=[(0,1)]) [(0,0)]) ⟨rfl,ao _,trivial⟩ ⟨rfl,(.box ⟨ba _,ao _,trivial⟩),trivial⟩)<|ac<|by cases h;exact rB []
 ·refine aq<|k4 _<|sr fun _ k9=>rP mv<|rP (cK (v:=.int .i64 (IntKind.i64.wrap x3.1)) W_ (cL bd) (cB ae) rfl)<|rP Y<|en k9<|ac<|by cases h;exact rB []
def n7 (ue:Bool):Option (Unit⊕(List UInt8×Z)):=
 if ue=true then(some (Sum.inr ([],(Z.mk [] true))))else(some (Sum.inl ()))
def Ad (a0:Z) (a1:Int):Option (List UInt8×Z):=
 gd (0≤a1) (gd (a1≤(List.length a0.B:Int)) (gd (0≤a1) (gd (a1≤(List.length a0.B:Int)) (some ((List.take (Int.toNat a1) a0.B),(Z.mk (List.drop (Int.toNat a1) a0.B) a0.Bad))))))
def gu (a0:Z) (a1:Int):Option (List UInt8×Z):=
 Option.bind (Option.bind (if a0.Bad=true then(some true)else(some (decide ((List.length a0.B:Int)<a1)))) (fun(s:Bool)=>n7 s)) (Sum.elim (fun(s:Unit)=>Ad a0 a1) some)
theorem Ae (a0:Z) (a1:Int) {r:List UInt8×Z} (h:gu a0 a1=some r):Ok Tryz.prog 93 [.ptr 0 0 0,.int .i64 a1] [[.sl 1 (List.map ag a0.B),.bool a0.Bad]] [] (.sl 1 (List.map ag r.1)) [[.sl 1 (List.map ag r.2.B),.bool r.2.Bad]] []:=by
 refine oK Tryz.func93 rfl fun X=>sr fun _ k1=>rP Y<|en k1<|bE h fun q2 h hk3=>bx (fun s=>Ad a0 a1=some r∧s=lit [(0,.ptr 0 0 0),(1,.int .i64 a1)] [((0,0),.box [.sl 1 (List.map ag a0.B),.bool a0.Bad])] [(0,1)] X) ?_ ?_
 ·skip
  refine bE h fun q4 h hk5=>bx (fun s=>∃(ue:Bool),n7 ue=some q2∧s=lit [(0,.ptr 0 0 0),(1,.int .i64 a1),(18,.bool ue)] [((0,0),.box [.sl 1 (List.map ag a0.B),.bool a0.Bad])] [(0,1)] X) ?_ ?_
  ·skip
   refine aB<|rP mv<|rP nk<|rP (fa cQ aN)<|rX (ld aN)<|rP mv<|li 10 h (fun c6 h=>?_) fun c6 h=>?_
   ·refine rS<|rS<|rS<|rS<|rS<|rS<|rS<|rP pc<|aM<|?_
    obtain rfl:=Option.some.inj h
    have h:=hk5
    exact⟨_,ra [(0,0)],true,h,rfl⟩
   ·refine rP mv<|rP mv<|rP nk<|rP (fa cQ aH)<|rX (ld aH)<|rP (zl aH)<|rP bi<|rP pc<|aM<|?_
    obtain rfl:=Option.some.inj h
    have h:=hk5
    exact⟨_,ra [(0,0)],(decide ((List.length a0.B:Int)<a1)),h,rfl⟩
  ·rintro s ⟨ue,h,rfl⟩
   refine wi 18 h (fun c7 h=>?_) fun c7 h=>?_
   ·refine sr fun _ k8=>rP mv<|rP mv<|rP nk<|rP (fa cQ aH)<|pZ (aA [.nil,.bool a0.Bad] aH)<|rP nk<|rP (fa cQ aN)<|pZ (aA [.nil,.bool true] aN)<|en k8<|sr fun _ k9=>rP Y<|en k9<|de (dy (tl':=[(4,.sl 1 (List.map ag []))]) (ol':=[((0,0),.box [.sl 1 (List.map ag []),.bool true])]) (ra (tl:=[(4,.nil)]) (ol:=[((0,0),.box [.nil,.bool true])]) (nx:=[(0,1)]) [(0,0)]) ⟨rfl,(ba _),trivial⟩ ⟨rfl,(.box ⟨ba _,ao _,trivial⟩),trivial⟩)<|ac<|by cases ah h hk3;exact rB []
   ·refine aq<|tk (aI h hk3) fun h=>?_
    exact⟨_,ra [(0,0)],h,rfl⟩
 ·rintro s ⟨h,rfl⟩
  refine sr fun _ k10=>rP mv<|rP nk<|rP (fa cQ aH)<|rX (ld aH)<|rP mv<|gE h fun g11 h=>gE h fun g12 h=>rP (gk (l:=0) (k:=(Int.toNat a1)) W_ aH bG gz (fV W_ (by exact(gh (by omega)))) (by (try simp only[List.length_map]);omega) (by (try simp only[List.length_map]);omega) (by exact nc _ _))<|rP Y<|en k10<|sr fun _ k13=>rP mv<|rP mv<|rP nk<|rP (fa cQ aH)<|rX (ld aH)<|rP mv<|gE h fun g14 h=>gE h fun g15 h=>rP (gk (l:=(Int.toNat a1)) W_ aH bG (fV W_ (by exact(gh g14))) gz (by (try simp only[List.length_map]);omega) (by (try simp only[List.length_map]);omega) (by exact mh _ _))<|rP nk<|rP (fa cQ aH)<|pZ (aA [.sl 1 (List.map ag (List.drop (Int.toNat a1) a0.B)),.bool a0.Bad] aH)<|en k13<|sr fun _ k16=>rP mv<|rP Y<|en k16<|ac<|by cases h;exact rB []
def ew (a0:Z):Option (ByteArray×Z):=
 Option.bind (dZ a0) (fun(x3:Int×Z)=>Option.bind (gu x3.2 x3.1) (fun(x4:List UInt8×Z)=>some ((aa x4.1),x4.2)))
theorem jh (a0:Z) {r:ByteArray×Z} (h:ew a0=some r):Ok Tryz.prog 150 [.ptr 0 0 0] [[.sl 1 (List.map ag a0.B),.bool a0.Bad]] [] (.str r.1) [[.sl 1 (List.map ag r.2.B),.bool r.2.Bad]] []:=by
 refine oK Tryz.func150 rfl fun X=>sr fun _ k1=>rP Y<|en k1<|sr fun _ k2=>rP mv<|rP mv<|bE h fun x3 y3 h=>rD (cG [(0,0)] [] [] (kW a0 y3) kV (.inl trivial))<|bE h fun x4 y4 h=>rD (cG [(0,0)] [] [] (Ae x3.2 x3.1 y4) z8 (.inl trivial))<|rX (mi (l:=x4.1) (f:=ag) W_ W_ (Nat.le_refl 1) (eA aH) (cB bG) (jQ ap) (fun _=>rfl))<|rP Y<|en k2<|ac<|by cases h;exact rB []
def cE (a0:Z) (a1:Int):Option (Int×Z):=
 Option.bind (fF a0) (fun(x3:Int×Z)=>if(decide ((IntKind.u64.wrap a1)<x3.1))=true then(some (0,(Z.mk [] true)))else(some ((IntKind.i64.wrap x3.1),x3.2)))
theorem eL (a0:Z) (a1:Int) {r:Int×Z} (h:cE a0 a1=some r):Ok Tryz.prog 91 [.ptr 0 0 0,.int .i64 a1] [[.sl 1 (List.map ag a0.B),.bool a0.Bad]] [] (.int .i64 r.1) [[.sl 1 (List.map ag r.2.B),.bool r.2.Bad]] []:=by
 refine oK Tryz.func91 rfl fun X=>sr fun _ k1=>rP Y<|en k1<|sr fun _ k2=>rP mv<|bE h fun x3 y3 h=>rD (cG [(0,0)] [] [] (lR a0 y3) lP (.inl trivial))<|rP Y<|en k2<|ai fun _ k4=>sr fun _ k5=>rP mv<|rP mv<|rP (cK (v:=.int .u64 (IntKind.u64.wrap a1)) W_ (cL ae) (cB bd) rfl)<|rP bi<|en k5<|wi 11 h (fun c6 h=>?_) fun c6 h=>?_
 ·refine sr fun _ k7=>rP mv<|rP mv<|rP nk<|rP (fa cQ aH)<|pZ (aA [.nil,.bool x3.2.Bad] aH)<|rP nk<|rP (fa cQ aN)<|pZ (aA [.nil,.bool true] aN)<|en k7<|sr fun _ k8=>rP Y<|en k8<|de (dy (tl':=[(4,.int .i64 0)]) (ol':=[((0,0),.box [.sl 1 (List.map ag []),.bool true])]) (ra (tl:=[(4,.int .i64 0)]) (ol:=[((0,0),.box [.nil,.bool true])]) (nx:=[(0,1)]) [(0,0)]) ⟨rfl,ao _,trivial⟩ ⟨rfl,(.box ⟨ba _,ao _,trivial⟩),trivial⟩)<|ac<|by cases h;exact rB []
 ·refine aq<|k4 _<|sr fun _ k9=>rP mv<|rP (cK (v:=.int .i64 (IntKind.i64.wrap x3.1)) W_ (cL bd) (cB ae) rfl)<|rP Y<|en k9<|ac<|by cases h;exact rB []
def ji (a0:Z):Option (Bool×Z):=
 Option.bind (cE a0 1) (fun(x3:Int×Z)=>some ((x3.1 == 1),x3.2))
theorem Af (a0:Z) {r:Bool×Z} (h:ji a0=some r):Ok Tryz.prog 102 [.ptr 0 0 0] [[.sl 1 (List.map ag a0.B),.bool a0.Bad]] [] (.bool r.1) [[.sl 1 (List.map ag r.2.B),.bool r.2.Bad]] []:=by
 refine oK Tryz.func102 rfl fun X=>sr fun _ k1=>rP Y<|en k1<|sr fun _ k2=>rP mv<|bE h fun x3 y3 h=>rD (cG [(0,0)] [] [] (eL a0 1 y3) eK (.inl trivial))<|rP bi<|rP Y<|en k2<|ac<|by cases h;exact rB []
def ga (a0:List UInt8) (a1:ByteArray):Option (List UInt8):=
 Option.bind (dm a0 (IntKind.u64.wrap (ByteArray.size a1:Int))) (fun(x3:List UInt8)=>gd ((List.length (x3++(eG a1)))≤140737488355328) (some (x3++(eG a1))))
theorem jj (a0:List UInt8) (a1:ByteArray) {r:List UInt8} (h:ga a0 a1=some r):Ok Tryz.prog 67 [.own 1 0,.str a1] [] [(5,1,List.map ag a0)] (.own 2 0) [] [(5,1,List.map ag r)]:=by
 refine oK Tryz.func67 rfl fun X=>sr fun _ k1=>rP Y<|en k1<|sr fun _ k2=>rP mv<|rP mv<|rP (eh W_ ap)<|rP (cK (v:=.int .u64 (IntKind.u64.wrap (ByteArray.size a1:Int))) W_ (cL ae) (cB bd) rfl)<|bE h fun x3 y3 h=>rD (cG [] [(1,0)] [] (d7 a0 (IntKind.u64.wrap (ByteArray.size a1:Int)) y3) d8 (.inr ⟨rfl,rfl,⟨cr (fun _=>rfl),trivial⟩⟩))<|rP mv<|gE h fun g4 h=>rD (Cu (l:=x3) (f:=ag) W_ W_ aH bG F1 (jQ ap) W_ (by first | exact .inl rfl | exact .inr ⟨rfl,rfl⟩) (fun _=>rfl) (g4))<|rP Y<|en k2<|ac<|by cases h;exact rB [(11,0)]
def F4 (a0:List UInt8) (x3:Int×Int×Bool):Option (ByteArray×Int×Bool):=
 gd (0≤x3.2.1) (gd (x3.2.1≤(IntKind.i64.wrap (x3.2.1+(IntKind.i64.wrap x3.1)))) (gd ((IntKind.i64.wrap (x3.2.1+(IntKind.i64.wrap x3.1)))≤(List.length a0:Int)) (some ((aa (List.drop (Int.toNat x3.2.1) (List.take (Int.toNat (IntKind.i64.wrap (x3.2.1+(IntKind.i64.wrap x3.1)))) a0))),(IntKind.i64.wrap (x3.2.1+(IntKind.i64.wrap x3.1))),true))))
def Ag (a0:List UInt8):Option (ByteArray×Int×Bool):=
 Option.bind (sP a0) (fun(x3:Int×Int×Bool)=>Option.bind (if(!x3.2.2)=true then(some (Sum.inr ((aa []),0,false)))else(if(decide ((IntKind.u64.wrap (IntKind.i64.wrap ((List.length a0:Int)-x3.2.1)))<x3.1))=true then(some (Sum.inr ((aa []),0,false)))else(some (Sum.inl ())))) (Sum.elim (fun(s:Unit)=>F4 a0 x3) some))
theorem Nn (a0:List UInt8) {r:ByteArray×Int×Bool} (h:Ag a0=some r):Ok Tryz.prog 121 [.sl 1 (List.map ag a0)] [] [] (.tup [.str r.1,.int .i64 r.2.1,.bool r.2.2]) [] []:=by
 refine oK Tryz.func121 rfl fun X=>sr fun _ k1=>rP Y<|rP Y<|rP Y<|en k1<|sr fun _ k2=>rP mv<|bE h fun x3 y3 h=>rD (cZ (F0 a0 y3) F3)<|rP mv<|rP ex<|rP ex<|rP ex<|rP Y<|rP Y<|rP Y<|en k2<|bE h fun q4 h hk5=>bx (fun s=>F4 a0 x3=some r∧s=lit [(0,.sl 1 (List.map ag a0)),(5,.int .u64 x3.1),(6,.int .i64 x3.2.1)] [] [] X) ?_ ?_
 ·skip
  refine sr fun _ k6=>rP mv<|rP un<|rP mv<|li 16 h (fun c7 h=>?_) fun c7 h=>?_
  ·refine rS<|rS<|rS<|rS<|rS<|rS<|rS<|rP pc<|en k6<|bM D_ rfl<|sr fun _ k8=>rP Y<|rP Y<|rP Y<|en k8<|ac<|by cases ah h hk5;exact rk
  ·refine rP mv<|rP mv<|rP (zl aH)<|rP mv<|rP bi<|rP (cK (v:=.int .u64 (IntKind.u64.wrap (IntKind.i64.wrap ((List.length a0:Int)-x3.2.1)))) W_ (cL ae) (cB bd) rfl)<|rP bi<|rP pc<|en k6<|wi 24 h (fun c9 h=>?_) fun c9 h=>?_
   ·refine sr fun _ k10=>rP Y<|rP Y<|rP Y<|en k10<|ac<|by cases ah h hk5;exact rk
   ·refine aq<|tk (aI h hk5) fun h=>?_
    exact⟨_,ra [],h,rfl⟩
 ·rintro s ⟨h,rfl⟩
  refine sr fun _ k11=>rP mv<|rP mv<|rP mv<|rP mv<|rP (cK (v:=.int .i64 (IntKind.i64.wrap x3.1)) W_ (cL bd) (cB ae) rfl)<|rP bi<|gE h fun g12 h=>gE h fun g13 h=>gE h fun g14 h=>rP (gk (l:=(Int.toNat x3.2.1)) (k:=(Int.toNat (IntKind.i64.wrap (x3.2.1+(IntKind.i64.wrap x3.1))))) W_ aH bG (fV W_ (by exact(gh g12))) (fV W_ (by exact(gh (by omega)))) (by (try simp only[List.length_map]);omega) (by (try simp only[List.length_map]);omega) (by exact G6 _ _ _))<|rX (mi (l:=(List.drop (Int.toNat x3.2.1) (List.take (Int.toNat (IntKind.i64.wrap (x3.2.1+(IntKind.i64.wrap x3.1)))) a0))) (f:=ag) W_ W_ (Nat.le_refl 1) (eA aH) (cB bG) (jQ ap) (fun _=>rfl))<|rP mv<|rP mv<|rP (cK (v:=.int .i64 (IntKind.i64.wrap x3.1)) W_ (cL bd) (cB ae) rfl)<|rP bi<|rP Y<|rP Y<|rP Y<|en k11<|ac<|by cases h;exact rk
def sV (a0:Z) (gc:Bool):Option (Unit⊕(ByteArray×Z)):=
 if gc=true then(some (Sum.inr ((aa []),(Z.mk a0.B true))))else(some (Sum.inl ()))
def Ah (a0:Z) (x3:ByteArray×Int×Bool):Option (ByteArray×Z):=
 gd (0≤x3.2.1) (gd (x3.2.1≤(List.length a0.B:Int)) (some (x3.1,(Z.mk (List.drop (Int.toNat x3.2.1) a0.B) a0.Bad))))
def eo (a0:Z):Option (ByteArray×Z):=
 Option.bind (Ag a0.B) (fun(x3:ByteArray×Int×Bool)=>Option.bind (Option.bind (if a0.Bad=true then(some true)else(some (!x3.2.2))) (fun(s:Bool)=>sV a0 s)) (Sum.elim (fun(s:Unit)=>Ah a0 x3) some))
theorem jk (a0:Z) {r:ByteArray×Z} (h:eo a0=some r):Ok Tryz.prog 48 [.ptr 0 0 0] [[.sl 1 (List.map ag a0.B),.bool a0.Bad]] [] (.str r.1) [[.sl 1 (List.map ag r.2.B),.bool r.2.Bad]] []:=by
 refine oK Tryz.func48 rfl fun X=>sr fun _ k1=>rP Y<|en k1<|sr fun _ k2=>rP mv<|rP nk<|rP (fa cY aH)<|rX (ld aH)<|bE h fun x3 y3 h=>rD (cZ (Nn a0.B y3) Nk)<|rP mv<|rP ex<|rP ex<|rP ex<|rP Y<|rP Y<|rP Y<|en k2<|bE h fun q4 h hk5=>bx (fun s=>Ah a0 x3=some r∧s=lit [(0,.ptr 0 0 0),(3,.str x3.1),(4,.int .i64 x3.2.1)] [((0,0),.box [.sl 1 (List.map ag a0.B),.bool a0.Bad])] [(0,1)] X) ?_ ?_
 ·skip
  refine bE h fun q6 h hk7=>bx (fun s=>∃(gc:Bool),sV a0 gc=some q4∧s=lit [(0,.ptr 0 0 0),(3,.str x3.1),(4,.int .i64 x3.2.1),(22,.bool gc)] [((0,0),.box [.sl 1 (List.map ag a0.B),.bool a0.Bad])] [(0,1)] X) ?_ ?_
  ·skip
   refine aB<|rP mv<|rP nk<|rP (fa cY aN)<|rX (ld aN)<|rP mv<|li 19 h (fun c8 h=>?_) fun c8 h=>?_
   ·refine rS<|rS<|rP pc<|aM<|?_
    obtain rfl:=Option.some.inj h
    have h:=hk7
    exact⟨_,ra [(0,0)],true,h,rfl⟩
   ·refine rP mv<|rP un<|rP pc<|aM<|?_
    obtain rfl:=Option.some.inj h
    have h:=hk7
    exact⟨_,ra [(0,0)],(!x3.2.2),h,rfl⟩
  ·rintro s ⟨gc,h,rfl⟩
   refine wi 22 h (fun c9 h=>?_) fun c9 h=>?_
   ·refine sr fun _ k10=>rP mv<|rP nk<|rP (fa cY aN)<|pZ (aA [.sl 1 (List.map ag a0.B),.bool true] aN)<|en k10<|sr fun _ k11=>rP Y<|en k11<|ac<|by cases ah h hk5;exact rB []
   ·refine aq<|tk (aI h hk5) fun h=>?_
    exact⟨_,ra [(0,0)],h,rfl⟩
 ·rintro s ⟨h,rfl⟩
  refine sr fun _ k12=>rP mv<|rP mv<|rP nk<|rP (fa cY aH)<|rX (ld aH)<|rP mv<|gE h fun g13 h=>gE h fun g14 h=>rP (gk (l:=(Int.toNat x3.2.1)) W_ aH bG (fV W_ (by exact(gh g13))) gz (by (try simp only[List.length_map]);omega) (by (try simp only[List.length_map]);omega) (by exact mh _ _))<|rP nk<|rP (fa cY aH)<|pZ (aA [.sl 1 (List.map ag (List.drop (Int.toNat x3.2.1) a0.B)),.bool a0.Bad] aH)<|en k12<|sr fun _ k15=>rP mv<|rP Y<|en k15<|ac<|by cases h;exact rB []
def sW (a0:Z) (gc:Bool):Option (Unit⊕(Int×Z)):=
 if gc=true then(some (Sum.inr (0,(Z.mk a0.B true))))else(some (Sum.inl ()))
def Ai (a0:Z) (x3:Int×Int×Bool):Option (Int×Z):=
 gd (0≤x3.2.1) (gd (x3.2.1≤(List.length a0.B:Int)) (some (x3.1,(Z.mk (List.drop (Int.toNat x3.2.1) a0.B) a0.Bad))))
def eM (a0:Z):Option (Int×Z):=
 Option.bind (sP a0.B) (fun(x3:Int×Int×Bool)=>Option.bind (Option.bind (if a0.Bad=true then(some true)else(some (!x3.2.2))) (fun(s:Bool)=>sW a0 s)) (Sum.elim (fun(s:Unit)=>Ai a0 x3) some))
theorem jl (a0:Z) {r:Int×Z} (h:eM a0=some r):Ok Tryz.prog 47 [.ptr 0 0 0] [[.sl 1 (List.map ag a0.B),.bool a0.Bad]] [] (.int .u64 r.1) [[.sl 1 (List.map ag r.2.B),.bool r.2.Bad]] []:=by
 refine oK Tryz.func47 rfl fun X=>sr fun _ k1=>rP Y<|en k1<|sr fun _ k2=>rP mv<|rP nk<|rP (fa cY aH)<|rX (ld aH)<|bE h fun x3 y3 h=>rD (cZ (F0 a0.B y3) F3)<|rP mv<|rP ex<|rP ex<|rP ex<|rP Y<|rP Y<|rP Y<|en k2<|bE h fun q4 h hk5=>bx (fun s=>Ai a0 x3=some r∧s=lit [(0,.ptr 0 0 0),(3,.int .u64 x3.1),(4,.int .i64 x3.2.1)] [((0,0),.box [.sl 1 (List.map ag a0.B),.bool a0.Bad])] [(0,1)] X) ?_ ?_
 ·skip
  refine bE h fun q6 h hk7=>bx (fun s=>∃(gc:Bool),sW a0 gc=some q4∧s=lit [(0,.ptr 0 0 0),(3,.int .u64 x3.1),(4,.int .i64 x3.2.1),(22,.bool gc)] [((0,0),.box [.sl 1 (List.map ag a0.B),.bool a0.Bad])] [(0,1)] X) ?_ ?_
  ·skip
   refine aB<|rP mv<|rP nk<|rP (fa cY aN)<|rX (ld aN)<|rP mv<|li 19 h (fun c8 h=>?_) fun c8 h=>?_
   ·refine rS<|rS<|rP pc<|aM<|?_
    obtain rfl:=Option.some.inj h
    have h:=hk7
    exact⟨_,ra [(0,0)],true,h,rfl⟩
   ·refine rP mv<|rP un<|rP pc<|aM<|?_
    obtain rfl:=Option.some.inj h
    have h:=hk7
    exact⟨_,ra [(0,0)],(!x3.2.2),h,rfl⟩
  ·rintro s ⟨gc,h,rfl⟩
   refine wi 22 h (fun c9 h=>?_) fun c9 h=>?_
   ·refine sr fun _ k10=>rP mv<|rP nk<|rP (fa cY aN)<|pZ (aA [.sl 1 (List.map ag a0.B),.bool true] aN)<|en k10<|sr fun _ k11=>rP Y<|en k11<|ac<|by cases ah h hk5;exact rB []
   ·refine aq<|tk (aI h hk5) fun h=>?_
    exact⟨_,ra [(0,0)],h,rfl⟩
 ·rintro s ⟨h,rfl⟩
  refine sr fun _ k12=>rP mv<|rP mv<|rP nk<|rP (fa cY aH)<|rX (ld aH)<|rP mv<|gE h fun g13 h=>gE h fun g14 h=>rP (gk (l:=(Int.toNat x3.2.1)) W_ aH bG (fV W_ (by exact(gh g13))) gz (by (try simp only[List.length_map]);omega) (by (try simp only[List.length_map]);omega) (by exact mh _ _))<|rP nk<|rP (fa cY aH)<|pZ (aA [.sl 1 (List.map ag (List.drop (Int.toNat x3.2.1) a0.B)),.bool a0.Bad] aH)<|en k12<|sr fun _ k15=>rP mv<|rP Y<|en k15<|ac<|by cases h;exact rB []
def bR (a0:Z) (a1:Int):Option (Int×Z):=
 Option.bind (eM a0) (fun(x3:Int×Z)=>if(decide ((IntKind.u64.wrap a1)<x3.1))=true then(some (0,(Z.mk x3.2.B true)))else(some ((IntKind.i64.wrap x3.1),x3.2)))
theorem dE (a0:Z) (a1:Int) {r:Int×Z} (h:bR a0 a1=some r):Ok Tryz.prog 44 [.ptr 0 0 0,.int .i64 a1] [[.sl 1 (List.map ag a0.B),.bool a0.Bad]] [] (.int .i64 r.1) [[.sl 1 (List.map ag r.2.B),.bool r.2.Bad]] []:=by
 refine oK Tryz.func44 rfl fun X=>sr fun _ k1=>rP Y<|en k1<|sr fun _ k2=>rP mv<|bE h fun x3 y3 h=>rD (cG [(0,0)] [] [] (jl a0 y3) jg (.inl trivial))<|rP Y<|en k2<|ai fun _ k4=>sr fun _ k5=>rP mv<|rP mv<|rP (cK (v:=.int .u64 (IntKind.u64.wrap a1)) W_ (cL ae) (cB bd) rfl)<|rP bi<|en k5<|wi 11 h (fun c6 h=>?_) fun c6 h=>?_
 ·refine sr fun _ k7=>rP mv<|rP nk<|rP (fa cY aN)<|pZ (aA [.sl 1 (List.map ag x3.2.B),.bool true] aN)<|en k7<|sr fun _ k8=>rP Y<|en k8<|ac<|by cases h;exact rB []
 ·refine aq<|k4 _<|sr fun _ k9=>rP mv<|rP (cK (v:=.int .i64 (IntKind.i64.wrap x3.1)) W_ (cL bd) (cB ae) rfl)<|rP Y<|en k9<|ac<|by cases h;exact rB []
end Go.Proofs.YtjklegmimpehlaaGreat.Ab
