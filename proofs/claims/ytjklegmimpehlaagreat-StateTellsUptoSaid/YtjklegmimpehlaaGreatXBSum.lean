/- The sum of bytes. -/
import Derived.Test.YtjklegmimpehlaaGreatXSpan2
import Derived.Test.YtjklegmimpehlaaGreatProg
namespace Go.Proofs.YtjklegmimpehlaaGreat.Ab
open Go Go.RowKit
set_option linter.unusedVariables false
set_option linter.unusedSimpArgs false
set_option maxRecDepth 100000
set_option maxHeartbeats 8000000
theorem mI:bm Tryz.prog 138=some ⟨.int .u32,1,4,[.int .u32 0]⟩:=by kernel_rfl
theorem Mn:aF Tryz.prog 88:=eN Tryz.func88
theorem Fw:aF Tryz.prog 89:=eN Tryz.func89
theorem Mo:aF Tryz.prog 90:=eN Tryz.func90
theorem Fy:aF Tryz.prog 116:=eN Tryz.func116
theorem Fz:aF Tryz.prog 117:=eN Tryz.func117
theorem Mp:aF Tryz.prog 146:=eN Tryz.func146
theorem Mq:aF Tryz.prog 152:=eN Tryz.func152
def sk (gN:Int) (bg:Int) (mU:Int):Option ((Int×Int)⊕((Int×Int)⊕Int)):=
 if(decide (mU<8))=true then(some (Sum.inl ((bits .xor .u32 (Int.fdiv bg (2 ^ (min (Int.toNat 1) (IntKind.bits .u32)))) (IntKind.u32.wrap (3988292384*(bits .and .u32 bg 1)))),(IntKind.i64.wrap (mU+1)))))else(some (Sum.inr (Sum.inl (bg,(IntKind.i64.wrap (gN+1))))))
def sm (a1:List UInt8) (au:Int) (gN:Int):Option ((Int×Int)⊕Int):=
 if(decide (gN<(List.length a1:Int)))=true then(gd (0≤gN) (Option.bind (a1[(Int.toNat gN)]?) (fun(x13:UInt8)=>am (fun(s:Int×Int)=>sk gN s.1 s.2) Fu ((bits .xor .u32 au (IntKind.u32.wrap (x13.toNat:Int))),0))))else(some (Sum.inr (bits .xor .u32 (if IntKind.signed .u32 then -1 else IntKind.max .u32) au)))
def sn (a0:Int) (a1:List UInt8):Option Int:=
 am (fun(s:Int×Int)=>sm a1 s.1 s.2) Fu ((bits .xor .u32 (if IntKind.signed .u32 then -1 else IntKind.max .u32) a0),0)
theorem Mr (a0:Int) (a1:List UInt8) {r:Int} (h:sn a0 a1=some r):Ok Tryz.prog 146 [.int .u32 a0,.sl 1 (List.map ag a1)] [] [] (.int .u32 r) [] []:=by
 unfold sn at h
 refine oK Tryz.func146 rfl fun X=>sr fun _ k1=>rP Y<|en k1<|sr fun _ k2=>rP mv<|rP un<|rP Y<|en k2<|ai fun _ k3=>sr fun _ k4=>rP mv<|rP (zl aH)<|rP mv<|en k4<|ax<|bv (fun m s=>∃(au:Int),∃(gN:Int),am (fun(s:Int×Int)=>sm a1 s.1 s.2) m (au,gN)=some r∧s=lit [(5,.int .u32 au),(10,.sl 1 (List.map ag a1)),(11,.int .i64 (List.length a1:Int)),(12,.int .i64 gN)] [] [] X) Fu
  ⟨_,ra [],(bits .xor .u32 (if IntKind.signed .u32 then -1 else IntKind.max .u32) a0),0,h,rfl⟩ ?_
 rintro m s ⟨au,gN,h,rfl⟩
 obtain⟨m0,q5,rfl,h,hq6⟩:=bu h
 replace h:sm a1 au gN=some q5:=h
 refine sr fun _ k7=>rP bi<|en k7<|ai fun _ k8=>wi 13 h (fun c9 h=>?_) fun c9 h=>?_
 ·refine aq<|k8 _<|ai fun _ k10=>ax<|sr fun _ k11=>gE h fun g12 h=>bE h fun x13 y13 h=>rP (ia aH bG g12 y13)<|rX (ld bG)<|rP Y<|en k11<|sr fun _ k14=>rP mv<|rP mv<|rP (cK (v:=.int .u32 (IntKind.u32.wrap (x13.toNat:Int))) W_ (cL bG) (cB mI) rfl)<|rP bi<|rP Y<|en k14<|sr fun _ k15=>rP mv<|en k15<|ax<|bv (fun m s=>∃(bg:Int),∃(mU:Int),am (fun(s:Int×Int)=>sk gN s.1 s.2) m (bg,mU)=some q5∧s=lit [(5,.int .u32 bg),(10,.sl 1 (List.map ag a1)),(11,.int .i64 (List.length a1:Int)),(12,.int .i64 gN),(20,.int .i64 mU)] [] [] X) Fu
   ⟨_,ra [],(bits .xor .u32 au (IntKind.u32.wrap (x13.toNat:Int))),0,h,rfl⟩ ?_
  rintro m s ⟨bg,mU,h,rfl⟩
  obtain⟨m1,q16,rfl,h,hq17⟩:=bu h
  replace h:sk gN bg mU=some q16:=h
  refine sr fun _ k18=>rP bi<|en k18<|ai fun _ k19=>wi 21 h (fun c20 h=>?_) fun c20 h=>?_
  ·refine aq<|k19 _<|ai fun _ k21=>ax<|aB<|rP mv<|rP bi<|rP mv<|rP bi<|rP bi<|rP bi<|rP Y<|en k21<|aB<|rP bi<|rP mv<|aM<|bk (ra []) ⟨(bits .xor .u32 (Int.fdiv bg (2 ^ (min (Int.toNat 1) (IntKind.bits .u32)))) (IntKind.u32.wrap (3988292384*(bits .and .u32 bg 1)))),(IntKind.i64.wrap (mU+1)),aI h hq17,rfl⟩
  ·refine bc<|tk (ah h hq17) fun h=>k10 _<|aB<|rP bi<|rP mv<|aM<|bk (ra []) ⟨bg,(IntKind.i64.wrap (gN+1)),aI h hq6,rfl⟩
 ·refine bc<|tk (ah h hq6) fun h=>k3 _<|sr fun _ k22=>rP mv<|rP un<|rP Y<|en k22<|ac<|by cases h;exact rk
def so (a0:List UInt8):Option Int:=
 Option.bind (sn 0 a0) (fun(x3:Int)=>some x3)
theorem FA (a0:List UInt8) {r:Int} (h:so a0=some r):Ok Tryz.prog 89 [.sl 1 (List.map ag a0)] [] [] (.int .u32 r) [] []:=by
 refine oK Tryz.func89 rfl fun X=>sr fun _ k1=>rP Y<|en k1<|sr fun _ k2=>rP mv<|bE h fun x3 y3 h=>rD (cZ (Mr 0 a0 y3) Mp)<|rP Y<|en k2<|ac<|by cases h;exact rk
def ss (a1:Int) (cA:List UInt8) (aY:Int):Option ((List UInt8×Int)⊕(List UInt8)):=
 if(decide (aY<4))=true then(gd (¬(IntKind.i64.wrap (8*aY))<0) (gd ((List.length (cA++[(u8 (IntKind.u8.wrap (Int.fdiv a1 (2 ^ (min (Int.toNat (IntKind.i64.wrap (8*aY))) (IntKind.bits .u32))))))]))*1≤140737488355328∧(List.length (cA++[(u8 (IntKind.u8.wrap (Int.fdiv a1 (2 ^ (min (Int.toNat (IntKind.i64.wrap (8*aY))) (IntKind.bits .u32))))))]))≤140737488355328) (some (Sum.inl ((cA++[(u8 (IntKind.u8.wrap (Int.fdiv a1 (2 ^ (min (Int.toNat (IntKind.i64.wrap (8*aY))) (IntKind.bits .u32))))))]),(IntKind.i64.wrap (aY+1)))))))else(some (Sum.inr cA))
def su (a0:List UInt8) (a1:Int):Option (List UInt8):=
 am (fun(s:List UInt8×Int)=>ss a1 s.1 s.2) Fu (a0,0)
theorem Ms (a0:List UInt8) (a1:Int) {r:List UInt8} (h:su a0 a1=some r):Ok Tryz.prog 88 [.own 1 0,.int .u32 a1] [] [(5,1,List.map ag a0)] (.own 2 0) [] [(5,1,List.map ag r)]:=by
 unfold su at h
 refine oK Tryz.func88 rfl fun X=>sr fun _ k1=>rP Y<|en k1<|ai fun _ k2=>sr fun _ k3=>rP mv<|en k3<|ax<|bv (fun m s=>∃(cA:List UInt8),∃(aY:Int),am (fun(s:List UInt8×Int)=>ss a1 s.1 s.2) m (cA,aY)=some r∧s=lit [(0,.own 1 0),(1,.int .u32 a1),(6,.int .i64 aY)] [((1,0),.arr 5 1 false (List.map ag cA))] [(1,1)] X) Fu
  ⟨_,ra [(1,0)],a0,0,h,rfl⟩ ?_
 rintro m s ⟨cA,aY,h,rfl⟩
 obtain⟨m0,q4,rfl,h,hq5⟩:=bu h
 replace h:ss a1 cA aY=some q4:=h
 refine sr fun _ k6=>rP bi<|en k6<|ai fun _ k7=>wi 7 h (fun c8 h=>?_) fun c8 h=>?_
 ·refine aq<|k7 _<|ai fun _ k9=>ax<|sr fun _ k10=>rP mv<|rP Y<|en k10<|aB<|rP mv<|rP mv<|rP mv<|rP bi<|gE h fun g11 h=>rP (jO (v:=.int .u32 (Int.fdiv a1 (2 ^ (min (Int.toNat (IntKind.i64.wrap (8*aY))) (IntKind.bits .u32))))) W_ W_ (G7 g11))<|rP ((cK (v:=.int .u8 (IntKind.u8.wrap (Int.fdiv a1 (2 ^ (min (Int.toNat (IntKind.i64.wrap (8*aY))) (IntKind.bits .u32)))))) W_ (cL mI) (cB bG) rfl).castp (v':=.int .u8 ((u8 (IntKind.u8.wrap (Int.fdiv a1 (2 ^ (min (Int.toNat (IntKind.i64.wrap (8*aY))) (IntKind.bits .u32)))))).toNat:Int)) (by exact congrArg _ (gx (iW _))))<|rD (bs (List.map ag [(u8 (IntKind.u8.wrap (Int.fdiv a1 (2 ^ (min (Int.toNat (IntKind.i64.wrap (8*aY))) (IntKind.bits .u32))))))]) aH bG rfl)<|gE h fun g12 h=>rD (dw (v:=List.map ag (cA++[(u8 (IntKind.u8.wrap (Int.fdiv a1 (2 ^ (min (Int.toNat (IntKind.i64.wrap (8*aY))) (IntKind.bits .u32))))))])) W_ W_ aH bG rfl rfl W_ (by first | exact .inl rfl | exact .inr ⟨rfl,rfl⟩) W_ (by first | exact .inr rfl | exact .inl rfl) (dL _ _) (dv g12))<|rP Y<|en k9<|aB<|rP bi<|rP mv<|aM<|bk (ra [(16,0)]) ⟨(cA++[(u8 (IntKind.u8.wrap (Int.fdiv a1 (2 ^ (min (Int.toNat (IntKind.i64.wrap (8*aY))) (IntKind.bits .u32))))))]),(IntKind.i64.wrap (aY+1)),aI h hq5,rfl⟩
 ·refine bc<|tk (ah h hq5) fun h=>k2 _<|sr fun _ k13=>rP mv<|rP Y<|en k13<|ac<|by cases h;exact rB [(1,0)]
def vO (a0:List UInt8):Option (List UInt8):=
 gd ((List.length a0)*1≤140737488355328∧(List.length a0)≤140737488355328) (Option.bind (so a0) (fun(x4:Int)=>Option.bind (su a0 x4) (fun(x5:List UInt8)=>some x5)))
theorem Mt (a0:List UInt8) {r:List UInt8} (h:vO a0=some r):Ok Tryz.prog 33 [.sl 1 (List.map ag a0)] [] [] (.own 2 0) [] [(5,1,List.map ag r)]:=by
 refine oK Tryz.func33 rfl fun X=>sr fun _ k1=>rP Y<|en k1<|sr fun _ k2=>rP mv<|gE h fun g3 h=>rD (dw (v:=List.map ag a0) W_ W_ aH bG rfl rfl W_ (by first | exact .inl rfl | exact .inr ⟨rfl,rfl⟩) W_ (by first | exact .inr rfl | exact .inl rfl) (List.nil_append _) (dv g3))<|rP mv<|bE h fun x4 y4 h=>rD (cZ (FA a0 y4) Fw)<|bE h fun x5 y5 h=>rD (cG [] [(4,0)] [] (Ms a0 x4 y5) Mn (.inr ⟨rfl,rfl,⟨cr (fun _=>rfl),trivial⟩⟩))<|rP Y<|en k2<|ac<|by cases h;exact rB [(7,0)]
def sw (a0:List UInt8) (dG:Int) (bW:Int):Option ((Int×Int)⊕(Int×Bool)):=
 if(decide (bW<4))=true then(gd (0≤bW) (Option.bind (a0[(Int.toNat bW)]?) (fun(x17:UInt8)=>gd (¬(IntKind.i64.wrap (8*bW))<0) (some (Sum.inl ((bits .or .u32 dG (IntKind.u32.wrap ((IntKind.u32.wrap (x17.toNat:Int))*2 ^ (min (Int.toNat (IntKind.i64.wrap (8*bW))) (IntKind.bits .u32))))),(IntKind.i64.wrap (bW+1))))))))else(some (Sum.inr (dG,true)))
def vP (a0:List UInt8):Option (Int×Bool):=
 if(decide ((List.length a0:Int)<4))=true then(some (0,false))else(am (fun(s:Int×Int)=>sw a0 s.1 s.2) Fu (0,0))
theorem Mu (a0:List UInt8) {r:Int×Bool} (h:vP a0=some r):Ok Tryz.prog 90 [.sl 1 (List.map ag a0)] [] [] (.tup [.int .u32 r.1,.bool r.2]) [] []:=by
 refine oK Tryz.func90 rfl fun X=>sr fun _ k1=>rP Y<|rP Y<|en k1<|ai fun _ k2=>sr fun _ k3=>rP mv<|rP (zl aH)<|rP bi<|en k3<|wi 8 h (fun c4 h=>?_) fun c4 h=>?_
 ·refine sr fun _ k5=>rP Y<|rP Y<|en k5<|ac<|by cases h;exact rk
 ·refine aq<|k2 _<|sr fun _ k6=>rP Y<|en k6<|ai fun _ k7=>sr fun _ k8=>rP mv<|en k8<|ax<|bv (fun m s=>∃(dG:Int),∃(bW:Int),am (fun(s:Int×Int)=>sw a0 s.1 s.2) m (dG,bW)=some r∧s=lit [(0,.sl 1 (List.map ag a0)),(4,.int .u32 dG),(9,.int .i64 bW)] [] [] X) Fu
   ⟨_,ra [],0,0,h,rfl⟩ ?_
  rintro m s ⟨dG,bW,h,rfl⟩
  obtain⟨m0,q9,rfl,h,hq10⟩:=bu h
  replace h:sw a0 dG bW=some q9:=h
  refine sr fun _ k11=>rP bi<|en k11<|ai fun _ k12=>wi 10 h (fun c13 h=>?_) fun c13 h=>?_
  ·refine aq<|k12 _<|ai fun _ k14=>ax<|sr fun _ k15=>rP mv<|rP Y<|en k15<|aB<|rP mv<|rP mv<|rP mv<|gE h fun g16 h=>bE h fun x17 y17 h=>rP (ia aH bG g16 y17)<|rX (ld bG)<|rP (cK (v:=.int .u32 (IntKind.u32.wrap (x17.toNat:Int))) W_ (cL bG) (cB mI) rfl)<|rP mv<|rP bi<|gE h fun g18 h=>rP (jO (v:=.int .u32 (IntKind.u32.wrap ((IntKind.u32.wrap (x17.toNat:Int))*2 ^ (min (Int.toNat (IntKind.i64.wrap (8*bW))) (IntKind.bits .u32))))) W_ W_ (xJ g18))<|rP bi<|rP Y<|en k14<|aB<|rP bi<|rP mv<|aM<|bk (ra []) ⟨(bits .or .u32 dG (IntKind.u32.wrap ((IntKind.u32.wrap (x17.toNat:Int))*2 ^ (min (Int.toNat (IntKind.i64.wrap (8*bW))) (IntKind.bits .u32))))),(IntKind.i64.wrap (bW+1)),aI h hq10,rfl⟩
  ·refine bc<|tk (ah h hq10) fun h=>k7 _<|sr fun _ k19=>rP mv<|rP Y<|rP Y<|en k19<|ac<|by cases h;exact rk
def nO (a0:List UInt8):Option (List UInt8×Bool):=
 if(decide ((IntKind.i64.wrap ((List.length a0:Int)-4))<0))=true then(some ([],false))else(gd (0≤(IntKind.i64.wrap ((List.length a0:Int)-4))) (gd ((IntKind.i64.wrap ((List.length a0:Int)-4))≤(List.length a0:Int)) (Option.bind (vP (List.drop (Int.toNat (IntKind.i64.wrap ((List.length a0:Int)-4))) a0)) (fun(x10:Int×Bool)=>gd (0≤(IntKind.i64.wrap ((List.length a0:Int)-4))) (gd ((IntKind.i64.wrap ((List.length a0:Int)-4))≤(List.length a0:Int)) (if x10.2=true then(gd (0≤(IntKind.i64.wrap ((List.length a0:Int)-4))) (gd ((IntKind.i64.wrap ((List.length a0:Int)-4))≤(List.length a0:Int)) (Option.bind (so (List.take (Int.toNat (IntKind.i64.wrap ((List.length a0:Int)-4))) a0)) (fun(x17:Int)=>some ((List.take (Int.toNat (IntKind.i64.wrap ((List.length a0:Int)-4))) a0),(x10.1 == x17))))))else(some ((List.take (Int.toNat (IntKind.i64.wrap ((List.length a0:Int)-4))) a0),false))))))))
theorem Mw (a0:List UInt8) {r:List UInt8×Bool} (h:nO a0=some r):Ok Tryz.prog 34 [.sl 1 (List.map ag a0)] [] [] (.tup [.sl 1 (List.map ag r.1),.bool r.2]) [] []:=by
 refine oK Tryz.func34 rfl fun X=>sr fun _ k1=>rP Y<|rP Y<|en k1<|sr fun _ k2=>rP mv<|rP (zl aH)<|rP bi<|rP Y<|en k2<|ai fun _ k3=>sr fun _ k4=>rP mv<|rP bi<|en k4<|wi 11 h (fun c5 h=>?_) fun c5 h=>?_
 ·refine sr fun _ k6=>rP Y<|rP Y<|en k6<|de (dy (tl':=[(2,.sl 1 (List.map ag [])),(3,.bool false)]) (ol':=[]) (ra (tl:=[(2,.nil),(3,.bool false)]) (ol:=[]) (nx:=[]) []) ⟨rfl,(ba _),rfl,ao _,trivial⟩ trivial)<|ac<|by cases h;exact rk
 ·refine aq<|k3 _<|sr fun _ k7=>rP mv<|rP mv<|gE h fun g8 h=>gE h fun g9 h=>rP (gk (l:=(Int.toNat (IntKind.i64.wrap ((List.length a0:Int)-4)))) W_ aH bG (fV W_ (by exact(gh g8))) gz (by (try simp only[List.length_map]);omega) (by (try simp only[List.length_map]);omega) (by exact mh _ _))<|bE h fun x10 y10 h=>rD (cZ (Mu (List.drop (Int.toNat (IntKind.i64.wrap ((List.length a0:Int)-4))) a0) y10) Mo)<|rP mv<|rP ex<|rP ex<|rP Y<|rP Y<|en k7<|ai fun _ k11=>cD (by kernel_rfl) (by decide +kernel)<|tP mv<|tP mv<|gE h fun g12 h=>gE h fun g13 h=>tP (gk (l:=0) (k:=(Int.toNat (IntKind.i64.wrap ((List.length a0:Int)-4)))) W_ aH bG gz (fV W_ (by exact(gh (by omega)))) (by (try simp only[List.length_map]);omega) (by (try simp only[List.length_map]);omega) (by exact nc _ _))<|tP mv<|tP mv<|fT (c:=x10.2) 23 rfl (fun c14=>?_) (fun c14=>?_)
  ·have h:=fy c14 h
   refine tP mv<|tP mv<|tP mv<|gE h fun g15 h=>gE h fun g16 h=>tP (gk (l:=0) (k:=(Int.toNat (IntKind.i64.wrap ((List.length a0:Int)-4)))) W_ aH bG gz (fV W_ (by exact(gh (by omega)))) (by (try simp only[List.length_map]);omega) (by (try simp only[List.length_map]);omega) (by exact nc _ _))<|bE h fun x17 y17 h=>tD (cZ (FA (List.take (Int.toNat (IntKind.i64.wrap ((List.length a0:Int)-4))) a0) y17) Fw)<|tP bi<|tP pc<|tP Y<|tP Y<|cc (by kernel_rfl)<|k11 _<|ac<|by cases h;exact rk
  ·have h:=fA c14 h
   refine tS<|tS<|tS<|tS<|tS<|tS<|tP pc<|tP Y<|tP Y<|cc (by kernel_rfl)<|k11 _<|ac<|by cases h;exact rk
def sx (aY:Int) (bg:Int) (ep:Int):Option ((Int×Int)⊕((Int×Int)⊕Int)):=
 if(decide (ep<8))=true then(if((bits .and .u32 bg 1) == 1)=true then(some (Sum.inl ((bits .xor .u32 (Int.fdiv bg (2 ^ (min (Int.toNat 1) (IntKind.bits .u32)))) 3988292384),(IntKind.i64.wrap (ep+1)))))else(some (Sum.inl ((Int.fdiv bg (2 ^ (min (Int.toNat 1) (IntKind.bits .u32)))),(IntKind.i64.wrap (ep+1))))))else(some (Sum.inr (Sum.inl (bg,(IntKind.i64.wrap (aY+1))))))
def sy (a1:List UInt8) (au:Int) (aY:Int):Option ((Int×Int)⊕Int):=
 if(decide (aY<(List.length a1:Int)))=true then(gd (0≤aY) (Option.bind (a1[(Int.toNat aY)]?) (fun(x13:UInt8)=>am (fun(s:Int×Int)=>sx aY s.1 s.2) Fu ((bits .xor .u32 au (IntKind.u32.wrap (x13.toNat:Int))),0))))else(some (Sum.inr (bits .xor .u32 (if IntKind.signed .u32 then -1 else IntKind.max .u32) au)))
def sA (a0:Int) (a1:List UInt8):Option Int:=
 am (fun(s:Int×Int)=>sy a1 s.1 s.2) Fu ((bits .xor .u32 (if IntKind.signed .u32 then -1 else IntKind.max .u32) a0),0)
theorem Mx (a0:Int) (a1:List UInt8) {r:Int} (h:sA a0 a1=some r):Ok Tryz.prog 152 [.int .u32 a0,.sl 1 (List.map ag a1)] [] [] (.int .u32 r) [] []:=by
 unfold sA at h
 refine oK Tryz.func152 rfl fun X=>sr fun _ k1=>rP Y<|en k1<|sr fun _ k2=>rP mv<|rP un<|rP Y<|en k2<|ai fun _ k3=>sr fun _ k4=>rP Y<|en k4<|ax<|bv (fun m s=>∃(au:Int),∃(aY:Int),am (fun(s:Int×Int)=>sy a1 s.1 s.2) m (au,aY)=some r∧s=lit [(1,.sl 1 (List.map ag a1)),(5,.int .u32 au),(6,.int .i64 aY)] [] [] X) Fu
  ⟨_,ra [],(bits .xor .u32 (if IntKind.signed .u32 then -1 else IntKind.max .u32) a0),0,h,rfl⟩ ?_
 rintro m s ⟨au,aY,h,rfl⟩
 obtain⟨m0,q5,rfl,h,hq6⟩:=bu h
 replace h:sy a1 au aY=some q5:=h
 refine ai fun _ k7=>sr fun _ k8=>rP mv<|rP mv<|rP (zl aH)<|rP bi<|en k8<|wi 13 h (fun c9 h=>?_) fun c9 h=>?_
 ·refine aq<|k7 _<|ai fun _ k10=>ax<|sr fun _ k11=>rP mv<|rP mv<|rP mv<|gE h fun g12 h=>bE h fun x13 y13 h=>rP (ia aH bG g12 y13)<|rX (ld bG)<|rP (cK (v:=.int .u32 (IntKind.u32.wrap (x13.toNat:Int))) W_ (cL bG) (cB mI) rfl)<|rP bi<|rP Y<|en k11<|sr fun _ k14=>rP Y<|en k14<|ax<|bv (fun m s=>∃(bg:Int),∃(ep:Int),am (fun(s:Int×Int)=>sx aY s.1 s.2) m (bg,ep)=some q5∧s=lit [(1,.sl 1 (List.map ag a1)),(5,.int .u32 bg),(6,.int .i64 aY),(7,.int .i64 ep)] [] [] X) Fu
   ⟨_,ra [],(bits .xor .u32 au (IntKind.u32.wrap (x13.toNat:Int))),0,h,rfl⟩ ?_
  rintro m s ⟨bg,ep,h,rfl⟩
  obtain⟨m1,q15,rfl,h,hq16⟩:=bu h
  replace h:sx aY bg ep=some q15:=h
  refine ai fun _ k17=>sr fun _ k18=>rP mv<|rP bi<|en k18<|wi 24 h (fun c19 h=>?_) fun c19 h=>?_
  ·refine aq<|k17 _<|ai fun _ k20=>ax<|sr fun _ k21=>rP mv<|rP bi<|rP bi<|en k21<|wi 29 h (fun c22 h=>?_) fun c22 h=>?_
   ·refine aB<|rP mv<|rP bi<|rP bi<|rP Y<|en k20<|aB<|rP mv<|rP bi<|rP Y<|aM<|bk (ra []) ⟨(bits .xor .u32 (Int.fdiv bg (2 ^ (min (Int.toNat 1) (IntKind.bits .u32)))) 3988292384),(IntKind.i64.wrap (ep+1)),aI h hq16,rfl⟩
   ·refine aB<|rP mv<|rP bi<|rP Y<|en k20<|aB<|rP mv<|rP bi<|rP Y<|aM<|bk (ra []) ⟨(Int.fdiv bg (2 ^ (min (Int.toNat 1) (IntKind.bits .u32)))),(IntKind.i64.wrap (ep+1)),aI h hq16,rfl⟩
  ·refine bc<|tk (ah h hq16) fun h=>k10 _<|aB<|rP mv<|rP bi<|rP Y<|aM<|bk (ra []) ⟨bg,(IntKind.i64.wrap (aY+1)),aI h hq6,rfl⟩
 ·refine bc<|tk (ah h hq6) fun h=>k3 _<|sr fun _ k23=>rP mv<|rP un<|rP Y<|en k23<|ac<|by cases h;exact rk
def sB (a0:List UInt8):Option Int:=
 Option.bind (sA 0 a0) (fun(x3:Int)=>some x3)
theorem FB (a0:List UInt8) {r:Int} (h:sB a0=some r):Ok Tryz.prog 117 [.sl 1 (List.map ag a0)] [] [] (.int .u32 r) [] []:=by
 refine oK Tryz.func117 rfl fun X=>sr fun _ k1=>rP Y<|en k1<|sr fun _ k2=>rP mv<|bE h fun x3 y3 h=>rD (cZ (Mx 0 a0 y3) Mq)<|rP Y<|en k2<|ac<|by cases h;exact rk
def pE (a0:Int):Option (List UInt8):=
 some [(u8 (IntKind.u8.wrap (bits .and .u32 a0 255))),(u8 (IntKind.u8.wrap (bits .and .u32 (Int.fdiv a0 (2 ^ (min (Int.toNat 8) (IntKind.bits .u32)))) 255))),(u8 (IntKind.u8.wrap (bits .and .u32 (Int.fdiv a0 (2 ^ (min (Int.toNat 16) (IntKind.bits .u32)))) 255))),(u8 (IntKind.u8.wrap (Int.fdiv a0 (2 ^ (min (Int.toNat 24) (IntKind.bits .u32))))))]
theorem FC (a0:Int) {r:List UInt8} (h:pE a0=some r):Ok Tryz.prog 116 [.int .u32 a0] [] [] (.own 2 0) [] [(5,1,List.map ag r)]:=by
 unfold pE at h
 refine oK Tryz.func116 rfl fun X=>sr fun _ k1=>rP Y<|en k1<|sr fun _ k2=>rP mv<|rP bi<|rP ((cK (v:=.int .u8 (IntKind.u8.wrap (bits .and .u32 a0 255))) W_ (cL mI) (cB bG) rfl).castp (v':=.int .u8 ((u8 (IntKind.u8.wrap (bits .and .u32 a0 255))).toNat:Int)) (by exact congrArg _ (gx (iW _))))<|rP mv<|rP bi<|rP bi<|rP ((cK (v:=.int .u8 (IntKind.u8.wrap (bits .and .u32 (Int.fdiv a0 (2 ^ (min (Int.toNat 8) (IntKind.bits .u32)))) 255))) W_ (cL mI) (cB bG) rfl).castp (v':=.int .u8 ((u8 (IntKind.u8.wrap (bits .and .u32 (Int.fdiv a0 (2 ^ (min (Int.toNat 8) (IntKind.bits .u32)))) 255))).toNat:Int)) (by exact congrArg _ (gx (iW _))))<|rP mv<|rP bi<|rP bi<|rP ((cK (v:=.int .u8 (IntKind.u8.wrap (bits .and .u32 (Int.fdiv a0 (2 ^ (min (Int.toNat 16) (IntKind.bits .u32)))) 255))) W_ (cL mI) (cB bG) rfl).castp (v':=.int .u8 ((u8 (IntKind.u8.wrap (bits .and .u32 (Int.fdiv a0 (2 ^ (min (Int.toNat 16) (IntKind.bits .u32)))) 255))).toNat:Int)) (by exact congrArg _ (gx (iW _))))<|rP mv<|rP bi<|rP ((cK (v:=.int .u8 (IntKind.u8.wrap (Int.fdiv a0 (2 ^ (min (Int.toNat 24) (IntKind.bits .u32)))))) W_ (cL mI) (cB bG) rfl).castp (v':=.int .u8 ((u8 (IntKind.u8.wrap (Int.fdiv a0 (2 ^ (min (Int.toNat 24) (IntKind.bits .u32)))))).toNat:Int)) (by exact congrArg _ (gx (iW _))))<|rD (bs (List.map ag [(u8 (IntKind.u8.wrap (bits .and .u32 a0 255))),(u8 (IntKind.u8.wrap (bits .and .u32 (Int.fdiv a0 (2 ^ (min (Int.toNat 8) (IntKind.bits .u32)))) 255))),(u8 (IntKind.u8.wrap (bits .and .u32 (Int.fdiv a0 (2 ^ (min (Int.toNat 16) (IntKind.bits .u32)))) 255))),(u8 (IntKind.u8.wrap (Int.fdiv a0 (2 ^ (min (Int.toNat 24) (IntKind.bits .u32))))))]) aH bG rfl)<|rP Y<|en k2<|ac<|by cases h;exact rB [(17,0)]
def vQ (a0:List UInt8):Option (List UInt8):=
 gd ((List.length a0)*1≤140737488355328∧(List.length a0)≤140737488355328) (Option.bind (sB a0) (fun(x4:Int)=>Option.bind (pE x4) (fun(x5:List UInt8)=>gd ((List.length (a0++x5))*1≤140737488355328∧(List.length (a0++x5))≤140737488355328) (some (a0++x5)))))
theorem My (a0:List UInt8) {r:List UInt8} (h:vQ a0=some r):Ok Tryz.prog 68 [.sl 1 (List.map ag a0)] [] [] (.own 2 0) [] [(5,1,List.map ag r)]:=by
 refine oK Tryz.func68 rfl fun X=>sr fun _ k1=>rP Y<|en k1<|sr fun _ k2=>rP mv<|gE h fun g3 h=>rD (dw (v:=List.map ag a0) W_ W_ aH bG rfl rfl W_ (by first | exact .inl rfl | exact .inr ⟨rfl,rfl⟩) W_ (by first | exact .inr rfl | exact .inl rfl) (List.nil_append _) (dv g3))<|rP mv<|bE h fun x4 y4 h=>rD (cZ (FB a0 y4) Fz)<|bE h fun x5 y5 h=>rD (cZ (FC x4 y5) Fy)<|gE h fun g6 h=>rD (dw (v:=List.map ag (a0++x5)) W_ W_ aH bG rfl rfl W_ (by first | exact .inl rfl | exact .inr ⟨rfl,rfl⟩) W_ (by first | exact .inr rfl | exact .inl rfl) (dL _ _) (dv g6))<|rP Y<|en k2<|ac<|by cases h;exact rB [(8,0)]
def zu (a0:List UInt8):Option (List UInt8×Bool):=
 gd (0≤(IntKind.i64.wrap ((List.length a0:Int)-4))) (gd ((IntKind.i64.wrap ((List.length a0:Int)-4))≤(List.length a0:Int)) (some ((List.take (Int.toNat (IntKind.i64.wrap ((List.length a0:Int)-4))) a0),true)))
def pF (a0:List UInt8):Option (List UInt8×Bool):=
 Option.bind (if(decide ((IntKind.i64.wrap ((List.length a0:Int)-4))<0))=true then(some (Sum.inr ([],false)))else(gd (0≤(IntKind.i64.wrap ((List.length a0:Int)-4))) (gd ((IntKind.i64.wrap ((List.length a0:Int)-4))≤(List.length a0:Int)) (Option.bind (sB (List.take (Int.toNat (IntKind.i64.wrap ((List.length a0:Int)-4))) a0)) (fun(x10:Int)=>Option.bind (pE x10) (fun(x11:List UInt8)=>gd (0≤(IntKind.i64.wrap ((List.length a0:Int)-4))) (gd ((IntKind.i64.wrap ((List.length a0:Int)-4))≤(List.length a0:Int)) (if(!(ByteArray.toList (aa x11) == ByteArray.toList (aa (List.drop (Int.toNat (IntKind.i64.wrap ((List.length a0:Int)-4))) a0))))=true then(some (Sum.inr ([],false)))else(some (Sum.inl ())))))))))) (Sum.elim (fun(s:Unit)=>zu a0) some)
theorem Mz (a0:List UInt8) {r:List UInt8×Bool} (h:pF a0=some r):Ok Tryz.prog 43 [.sl 1 (List.map ag a0)] [] [] (.tup [.sl 1 (List.map ag r.1),.bool r.2]) [] []:=by
 refine oK Tryz.func43 rfl fun X=>sr fun _ k1=>rP Y<|rP Y<|en k1<|sr fun _ k2=>rP mv<|rP (zl aH)<|rP bi<|rP Y<|en k2<|bE h fun q3 h hk4=>bx (fun s=>zu a0=some r∧s=lit [(0,.sl 1 (List.map ag a0)),(4,.int .i64 (IntKind.i64.wrap ((List.length a0:Int)-4)))] [] [] X) ?_ ?_
 ·skip
  refine ai fun _ k5=>cD (by kernel_rfl) (by decide +kernel)<|tP mv<|tP bi<|tP mv<|fT (c:=(decide ((IntKind.i64.wrap ((List.length a0:Int)-4))<0))) 10 rfl (fun c6=>?_) (fun c6=>?_)
  ·have h:=fy c6 h
   refine tS<|tS<|tS<|tS<|tS<|tS<|tS<|tS<|tS<|tS<|tS<|tP pc<|cc (by kernel_rfl)<|k5 _<|bM D_ rfl<|sr fun _ k7=>rP Y<|rP Y<|en k7<|de (dy (tl':=[(2,.sl 1 (List.map ag [])),(3,.bool false)]) (ol':=[]) (ra (tl:=[(2,.nil),(3,.bool false)]) (ol:=[]) (nx:=[]) []) ⟨rfl,(ba _),rfl,ao _,trivial⟩ trivial)<|ac<|by cases ah h hk4;exact rk
  ·have h:=fA c6 h
   refine tP mv<|tP mv<|gE h fun g8 h=>gE h fun g9 h=>tP (gk (l:=0) (k:=(Int.toNat (IntKind.i64.wrap ((List.length a0:Int)-4)))) W_ aH bG gz (fV W_ (by exact(gh (by omega)))) (by (try simp only[List.length_map]);omega) (by (try simp only[List.length_map]);omega) (by exact nc _ _))<|bE h fun x10 y10 h=>tD (cZ (FB (List.take (Int.toNat (IntKind.i64.wrap ((List.length a0:Int)-4))) a0) y10) Fz)<|bE h fun x11 y11 h=>tD (cZ (FC x10 y11) Fy)<|tR (mi (l:=x11) (f:=ag) W_ W_ (Nat.le_refl 1) (eA aH) (cB bG) (jQ ap) (fun _=>rfl))<|tP mv<|tP mv<|gE h fun g12 h=>gE h fun g13 h=>tP (gk (l:=(Int.toNat (IntKind.i64.wrap ((List.length a0:Int)-4)))) W_ aH bG (fV W_ (by exact(gh g12))) gz (by (try simp only[List.length_map]);omega) (by (try simp only[List.length_map]);omega) (by exact mh _ _))<|tR (mi (l:=(List.drop (Int.toNat (IntKind.i64.wrap ((List.length a0:Int)-4))) a0)) (f:=ag) W_ W_ (Nat.le_refl 1) (eA aH) (cB bG) (jQ ap) (fun _=>rfl))<|tP bi<|tP pc<|cc (by kernel_rfl)<|k5 _<|wi 22 h (fun c14 h=>?_) fun c14 h=>?_
   ·refine sr fun _ k15=>rP Y<|rP Y<|en k15<|de (dy (tl':=[(2,.sl 1 (List.map ag [])),(3,.bool false)]) (ol':=[]) (ra (tl:=[(2,.nil),(3,.bool false)]) (ol:=[]) (nx:=[]) []) ⟨rfl,(ba _),rfl,ao _,trivial⟩ trivial)<|ac<|by cases ah h hk4;exact rk
   ·refine aq<|tk (aI h hk4) fun h=>?_
    exact⟨_,ra [],h,rfl⟩
 ·rintro s ⟨h,rfl⟩
  refine sr fun _ k16=>rP mv<|rP mv<|gE h fun g17 h=>gE h fun g18 h=>rP (gk (l:=0) (k:=(Int.toNat (IntKind.i64.wrap ((List.length a0:Int)-4)))) W_ aH bG gz (fV W_ (by exact(gh (by omega)))) (by (try simp only[List.length_map]);omega) (by (try simp only[List.length_map]);omega) (by exact nc _ _))<|rP Y<|rP Y<|en k16<|ac<|by cases h;exact rk
end Go.Proofs.YtjklegmimpehlaaGreat.Ab
