/- Policies: the same, and the document. -/
import Derived.Test.YtjklegmimpehlaaGreatXBSum
import Derived.Test.YtjklegmimpehlaaGreatProg
namespace Go.Proofs.YtjklegmimpehlaaGreat.Ab
open Go Go.RowKit
set_option linter.unusedVariables false
set_option linter.unusedSimpArgs false
set_option maxRecDepth 100000
set_option maxHeartbeats 8000000
structure af where
  Kind:Int
  N:Int
  Key:ByteArray
  Value:ByteArray
  Kids:List af
  deriving Inhabited
mutual
def aj:af→PV
  | .mk y0 y1 y2 y3 y4=>.agg [.int .i64 y0,.int .i64 y1,.str y2,.str y3,.sl 5 (sG y4)]
def sG:List af→List PV
  | []=>[]
  | x :: r=>aj x :: sG r
end
theorem FF:∀l:List af,sG l=List.map aj l
  | []=>by rw[sG];rfl
  | x :: r=>by rw[sG,FF r];rfl
theorem iI:∀x:af,aj x = .agg [.int .i64 x.Kind,.int .i64 x.N,.str x.Key,.str x.Value,.sl 5 (List.map aj x.Kids)]
  | .mk y0 y1 y2 y3 y4=>by rw[aj,FF]
theorem br:bm Tryz.prog 22=some ⟨.slice 24,1,24,[.nil]⟩:=by kernel_rfl
theorem ar:bm Tryz.prog 24=some ⟨.struct [(0,3),(1,3),(2,9),(3,9),(4,22)],5,72,[.int .i64 0,.int .i64 0,.str ByteArray.empty,.str ByteArray.empty,.nil]⟩:=by kernel_rfl
theorem FG:aF Tryz.prog 78:=eN Tryz.func78
theorem FH:aF Tryz.prog 80:=eN Tryz.func80
theorem FI:aF Tryz.prog 81:=eN Tryz.func81
theorem FJ:aF Tryz.prog 124:=eN Tryz.func124
theorem MM:aF Tryz.prog 144:=eN Tryz.func144
theorem MN:aF Tryz.prog 155:=eN Tryz.func155
theorem zy:aF Tryz.prog 169:=eN Tryz.func169
def zz (K:af→Int→Option Int) (a0:af) (a1:Int) (bg:Int) (fq:Int):Option ((Int×Int)⊕Int):=
 gd (0≤fq) (Option.bind (a0.Kids[(Int.toNat fq)]?) (fun(x25:af)=>Option.bind (K x25 (IntKind.i64.wrap (a1+1))) (fun(x26:Int)=>some (Sum.inl ((IntKind.i64.wrap (bg+x26)),(IntKind.i64.wrap (fq+1)))))))
def nU (K:af→Int→Option Int) (a0:af) (a1:Int) (bg:Int) (fq:Int):Option ((Int×Int)⊕Int):=
 Option.bind (if(decide (fq<(List.length a0.Kids:Int)))=true then(if(decide (bg<1000))=true then(some (Sum.inl ()))else(some (Sum.inr (Sum.inr bg))))else(some (Sum.inr (Sum.inr bg)))) (Sum.elim (fun(s:Unit)=>zz K a0 a1 bg fq) some)
def vW (K:af→Int→Option Int) (a0:af) (a1:Int):Option Int:=
 am (fun(s:Int×Int)=>nU K a0 a1 s.1 s.2) Fu (1,0)
def vX (K:af→Int→Option Int) (a0:af) (a1:Int):Option Int:=
 Option.bind (if(decide ((30:Int)<a1))=true then(some (Sum.inr 1000))else(if(decide ((100:Int)<(ByteArray.size a0.Key:Int)))=true then(some (Sum.inr 1000))else(if(decide ((100:Int)<(ByteArray.size a0.Value:Int)))=true then(some (Sum.inr 1000))else(some (Sum.inl ()))))) (Sum.elim (fun(s:Unit)=>vW K a0 a1) some)
theorem MO (K:af→Int→Option Int) (hK:∀(a0:af) (a1:Int) {r:Int},K a0 a1=some r→Ok Tryz.prog 78 [.agg [.int .i64 a0.Kind,.int .i64 a0.N,.str a0.Key,.str a0.Value,.sl 5 (List.map aj a0.Kids)],.int .i64 a1] [] [] (.int .i64 r) [] []) (a0:af) (a1:Int) {r:Int} (h:vX K a0 a1=some r):Ok Tryz.prog 78 [.agg [.int .i64 a0.Kind,.int .i64 a0.N,.str a0.Key,.str a0.Value,.sl 5 (List.map aj a0.Kids)],.int .i64 a1] [] [] (.int .i64 r) [] []:=by
 refine oK Tryz.func78 rfl fun X=>sr fun _ k1=>rD (bY W_ rfl rfl)<|rP Y<|en k1<|bE h fun q2 h hk3=>bx (fun s=>vW K a0 a1=some r∧s=lit [(1,.int .i64 a1),(2,.ptr 2 0 0)] [((2,0),.box [.int .i64 a0.Kind,.int .i64 a0.N,.str a0.Key,.str a0.Value,.sl 5 (List.map aj a0.Kids)])] [(2,1)] X) ?_ ?_
 ·skip
  refine sr fun _ k4=>rP mv<|rP bi<|rP mv<|li 9 h (fun c5 h=>?_) fun c5 h=>?_
  ·refine rS<|rS<|rS<|rS<|rP pc<|rP mv<|rS<|rS<|rS<|rS<|rP pc<|en k4<|bM D_ rfl<|sr fun _ k6=>rP Y<|en k6<|ac<|by cases ah h hk3;exact rk
  ·refine rP (fa ar ap)<|rX (ld ap)<|rP (eh W_ ap)<|rP bi<|rP pc<|rP mv<|li 15 h (fun c7 h=>?_) fun c7 h=>?_
   ·refine rS<|rS<|rS<|rS<|rP pc<|en k4<|bM D_ rfl<|sr fun _ k8=>rP Y<|en k8<|ac<|by cases ah h hk3;exact rk
   ·refine rP (fa ar ap)<|rX (ld ap)<|rP (eh W_ ap)<|rP bi<|rP pc<|en k4<|wi 20 h (fun c9 h=>?_) fun c9 h=>?_
    ·refine sr fun _ k10=>rP Y<|en k10<|ac<|by cases ah h hk3;exact rk
    ·refine aq<|tk (aI h hk3) fun h=>?_
     exact⟨_,ra [(2,0)],h,rfl⟩
 ·rintro s ⟨h,rfl⟩
  unfold vW at h
  refine sr fun _ k11=>rP Y<|en k11<|ai fun _ k12=>sr fun _ k13=>rP Y<|en k13<|ax<|bv (fun m s=>∃(bg:Int),∃(fq:Int),am (fun(s:Int×Int)=>nU K a0 a1 s.1 s.2) m (bg,fq)=some r∧s=lit [(1,.int .i64 a1),(2,.ptr 2 0 0),(5,.int .i64 bg),(6,.int .i64 fq)] [((2,0),.box [.int .i64 a0.Kind,.int .i64 a0.N,.str a0.Key,.str a0.Value,.sl 5 (List.map aj a0.Kids)])] [(2,1)] X) Fu
   ⟨_,ra [(2,0)],1,0,h,rfl⟩ ?_
  rintro m s ⟨bg,fq,h,rfl⟩
  obtain⟨m1,q14,rfl,h,hq15⟩:=bu h
  replace h:nU K a0 a1 bg fq=some q14:=h
  refine bE h fun q16 h hk17=>bx (fun s=>zz K a0 a1 bg fq=some q14∧s=lit [(1,.int .i64 a1),(2,.ptr 2 0 0),(5,.int .i64 bg),(6,.int .i64 fq)] [((2,0),.box [.int .i64 a0.Kind,.int .i64 a0.N,.str a0.Key,.str a0.Value,.sl 5 (List.map aj a0.Kids)])] [(2,1)] X) ?_ ?_
  ·skip
   refine sr fun _ k18=>rP mv<|rP (fa ar br)<|rX (ld br)<|rP (zl br)<|rP bi<|rP mv<|li 26 h (fun c19 h=>?_) fun c19 h=>?_
   ·refine rP mv<|rP bi<|rP pc<|en k18<|wi 29 h (fun c20 h=>?_) fun c20 h=>?_
    ·refine aq<|tk (aI h hk17) fun h=>?_
     exact⟨_,ra [(2,0)],h,rfl⟩
    ·refine bc<|tk (ah h hk17) fun h=>tk (ah h hq15) fun h=>k12 _<|sr fun _ k21=>rP mv<|rP Y<|en k21<|ac<|by cases h;exact rk
   ·refine rS<|rS<|rP pc<|en k18<|fB D_ rfl<|bc<|tk (ah h hk17) fun h=>tk (ah h hq15) fun h=>k12 _<|sr fun _ k22=>rP mv<|rP Y<|en k22<|ac<|by cases h;exact rk
  ·rintro s ⟨h,rfl⟩
   refine ai fun _ k23=>ax<|aB<|rP mv<|rP (fa ar br)<|rX (ld br)<|rP mv<|gE h fun g24 h=>bE h fun x25 y25 h=>rP (i1 (el:=.agg [.int .i64 x25.Kind,.int .i64 x25.N,.str x25.Key,.str x25.Value,.sl 5 (List.map aj x25.Kids)]) W_ W_ br ar g24 (by exact kB (iI _) y25))<|pl 37 (.agg [.int .i64 x25.Kind,.int .i64 x25.N,.str x25.Key,.str x25.Value,.sl 5 (List.map aj x25.Kids)]) ar<|rP mv<|rP bi<|bE h fun x26 y26 h=>rD (cZ (hK x25 (IntKind.i64.wrap (a1+1)) y26) FG)<|rP bi<|rP Y<|en k23<|aB<|rP mv<|rP bi<|rP Y<|aM<|bk (ra [(2,0)]) ⟨(IntKind.i64.wrap (bg+x26)),(IntKind.i64.wrap (fq+1)),aI h hq15,rfl⟩
def lK:Nat→af→Int→Option Int
 | 0,_,_=>none
 | n+1,a0,a1=>vX (lK n) a0 a1
theorem FK:∀(n:Nat) (a0:af) (a1:Int) {r:Int},lK n a0 a1=some r→Ok Tryz.prog 78 [.agg [.int .i64 a0.Kind,.int .i64 a0.N,.str a0.Key,.str a0.Value,.sl 5 (List.map aj a0.Kids)],.int .i64 a1] [] [] (.int .i64 r) [] []
 | 0,_,_,_,h=>by simp[lK]at h
 | n+1,a0,a1,_,h=>MO (lK n) (FK n) a0 a1 h
def zA (a0:af) (a1:Int):Option Int:=lK Fu a0 a1
theorem MP (a0:af) (a1:Int) {r:Int} (h:zA a0 a1=some r):Ok Tryz.prog 78 [.agg [.int .i64 a0.Kind,.int .i64 a0.N,.str a0.Key,.str a0.Value,.sl 5 (List.map aj a0.Kids)],.int .i64 a1] [] [] (.int .i64 r) [] []:=FK Fu a0 a1 h
def vY (a0:af):Option Bool:=
 Option.bind (zA a0 0) (fun(x3:Int)=>some (decide (x3≤100)))
theorem MQ (a0:af) {r:Bool} (h:vY a0=some r):Ok Tryz.prog 18 [.agg [.int .i64 a0.Kind,.int .i64 a0.N,.str a0.Key,.str a0.Value,.sl 5 (List.map aj a0.Kids)]] [] [] (.bool r) [] []:=by
 refine oK Tryz.func18 rfl fun X=>sr fun _ k1=>rD (bY W_ rfl rfl)<|rP Y<|en k1<|sr fun _ k2=>pl 3 (.agg [.int .i64 a0.Kind,.int .i64 a0.N,.str a0.Key,.str a0.Value,.sl 5 (List.map aj a0.Kids)]) ar<|bE h fun x3 y3 h=>rD (cZ (MP a0 0 y3) FG)<|rP bi<|rP Y<|en k2<|ac<|by cases h;exact rk
inductive af.wf:af→Prop
 | mk {y0:Int} {y1:Int} {y2:ByteArray} {y3:ByteArray} {y4:List af}:(cX .i64 y0)→(cX .i64 y1)→((ByteArray.size y2)≤maxLen)→((ByteArray.size y3)≤maxLen)→List.length y4≤maxLen→(∀y∈y4,af.wf y)→af.wf (.mk y0 y1 y2 y3 y4)
theorem MR:∀(m:Nat) (cs:List PV),bL Tryz.prog m 24 cs→∃a:af,cs=[.int .i64 a.Kind,.int .i64 a.N,.str a.Key,.str a.Value,.sl 5 (List.map aj a.Kids)]∧(af.wf a):=fun m=>Nat.strongRecOn m fun m ih cs=>by
 intro h
 obtain⟨hl,m',hm,hf⟩:=HZ h Tryz.underlying24
 have f0:=hf 0 _ rfl
 obtain⟨a0,e0,w0⟩:=d9 _ _ f0
 rw[show Tryz.prog.cellsOf _=1 by kernel_rfl]at e0
 have f1:=hf 1 _ rfl
 obtain⟨a1,e1,w1⟩:=d9 _ _ f1
 rw[show Tryz.prog.cellsOf _=1 by kernel_rfl]at e1
 have f2:=hf 2 _ rfl
 obtain⟨a2,e2,w2⟩:=jm _ _ f2
 rw[show Tryz.prog.cellsOf _=1 by kernel_rfl]at e2
 have f3:=hf 3 _ rfl
 obtain⟨a3,e3,w3⟩:=jm _ _ f3
 rw[show Tryz.prog.cellsOf _=1 by kernel_rfl]at e3
 have f4:=hf 4 _ rfl
 obtain⟨a4,e4,w4,v4⟩:=H0 (f:=aj) (Q:=af.wf) f4 Tryz.underlying22 (fun k hk ps hs=>by
  obtain⟨a,rfl,hw⟩:=ih k (by omega) ps hs
  exact⟨a,by rw[show aggT Tryz.prog 24=true by kernel_rfl];exact(iI a).symm,hw⟩)
 rw[show Tryz.prog.cellsOf 24=5 by kernel_rfl]at e4
 rw[show Tryz.prog.cellsOf _=1 by kernel_rfl]at e4
 exact⟨⟨a0,a1,a2,a3,a4⟩,iy (l:=[(1,[.int .i64 a0]),(1,[.int .i64 a1]),(1,[.str a2]),(1,[.str a3]),(1,[.sl 5 (List.map aj a4)])]) ⟨e0,e1,e2,e3,e4,trivial⟩ hl (by kernel_rfl),.mk w0 w1 w2 w3 w4 v4⟩
def pK (a0:Int) (aY:Bool):Option Int:=
 if aY=true then(some 1000)else(if(a0 == 9)=true then(some 1000000)else(some (-1)))
def pL (a0:Int):Option Int:=
 if(a0 == 4)=true then(some 1073741824)else(Option.bind (if(a0 == 7)=true then(some true)else(some (a0 == 8))) (fun(s:Bool)=>pK a0 s))
theorem zB (a0:Int) {r:Int} (h:pL a0=some r):Ok Tryz.prog 169 [.int .i64 a0] [] [] (.int .i64 r) [] []:=by
 refine oK Tryz.func169 rfl fun X=>sr fun _ k1=>rP Y<|en k1<|ai fun _ k2=>sr fun _ k3=>rP mv<|en k3<|ax<|sr fun _ k4=>rP bi<|rP Y<|en k4<|wi 4 h (fun c5 h=>?_) fun c5 h=>?_
 ·refine sr fun _ k6=>rP Y<|en k6<|ac<|by cases h;exact rk
 ·refine bE h fun q7 h hk8=>bx (fun s=>∃(aY:Bool),pK a0 aY=some r∧s=lit [(3,.int .i64 a0),(6,.bool aY)] [] [] X) ?_ ?_
  ·skip
   refine sr fun _ k9=>rP bi<|rP Y<|en k9<|wi 6 h (fun c10 h=>?_) fun c10 h=>?_
   ·refine aq ?_
    obtain rfl:=Option.some.inj h
    have h:=hk8
    exact⟨_,ra [],true,h,rfl⟩
   ·refine aB<|rP bi<|rP Y<|aM<|?_
    obtain rfl:=Option.some.inj h
    have h:=hk8
    exact⟨_,ra [],(a0 == 8),h,rfl⟩
  ·rintro s ⟨aY,h,rfl⟩
   refine wi 6 h (fun c11 h=>?_) fun c11 h=>?_
   ·refine sr fun _ k12=>rP Y<|en k12<|ac<|by cases h;exact rk
   ·refine sr fun _ k13=>rP bi<|rP Y<|en k13<|wi 9 h (fun c14 h=>?_) fun c14 h=>?_
    ·refine sr fun _ k15=>rP Y<|en k15<|ac<|by cases h;exact rk
    ·refine aq<|k2 _<|sr fun _ k16=>rP Y<|en k16<|ac<|by cases h;exact rk
def sH (a0:af) (cd:Bool) (tZ:Bool):Option (Unit⊕Bool):=
 if tZ=true then(if(a0.N == 0)=true then(some (Sum.inr cd))else(some (Sum.inr false)))else(if(a0.Kind == 3)=true then(if(a0.N == 0)=true then(if cd=true then(some (Sum.inr ((List.length a0.Kids:Int) == 1)))else(some (Sum.inr false)))else(some (Sum.inr false)))else(if(a0.Kind == 5)=true then(if(a0.N == 0)=true then(if cd=true then(some (Sum.inr ((List.length a0.Kids:Int) == 0)))else(some (Sum.inr false)))else(some (Sum.inr false)))else(if(a0.Kind == 6)=true then(if(a0.N == 0)=true then(Option.bind (gL a0.Key) (fun(x29:Bool)=>if x29=true then(if(decide ((ByteArray.size a0.Value:Int)≤16))=true then(some (Sum.inr ((List.length a0.Kids:Int) == 0)))else(some (Sum.inr false)))else(some (Sum.inr false))))else(some (Sum.inr false)))else(some (Sum.inl ())))))
def vZ (a0:af) (cd:Bool):Option Bool:=
 if cd=true then(if(decide ((0:Int)≤a0.N))=true then(Option.bind (pL a0.Kind) (fun(x35:Int)=>if(decide (a0.N≤x35))=true then(some ((List.length a0.Kids:Int) == 0))else(some false)))else(some false))else(some false)
def zC (a0:af) (cd:Bool):Option Bool:=
 Option.bind (Option.bind (if(a0.Kind == 1)=true then(some true)else(some (a0.Kind == 2))) (fun(s:Bool)=>sH a0 cd s)) (Sum.elim (fun(s:Unit)=>vZ a0 cd) some)
def v8 (a0:af):Option Bool:=
 Option.bind (if(ByteArray.toList a0.Key == ByteArray.toList (aa []))=true then(some (ByteArray.toList a0.Value == ByteArray.toList (aa [])))else(some false)) (fun(s:Bool)=>zC a0 s)
theorem MS (a0:af) {r:Bool} (h:v8 a0=some r):Ok Tryz.prog 155 [.agg [.int .i64 a0.Kind,.int .i64 a0.N,.str a0.Key,.str a0.Value,.sl 5 (List.map aj a0.Kids)]] [] [] (.bool r) [] []:=by
 refine oK Tryz.func155 rfl fun X=>sr fun _ k1=>rD (bY W_ rfl rfl)<|rP Y<|en k1<|bE h fun q2 h hk3=>bx (fun s=>∃(cd:Bool),zC a0 cd=some r∧s=lit [(1,.ptr 1 0 0),(3,.bool cd)] [((1,0),.box [.int .i64 a0.Kind,.int .i64 a0.N,.str a0.Key,.str a0.Value,.sl 5 (List.map aj a0.Kids)])] [(1,1)] X) ?_ ?_
 ·skip
  refine aB<|rP (fa ar ap)<|rX (ld ap)<|rP bi<|rP mv<|li 7 h (fun c4 h=>?_) fun c4 h=>?_
  ·refine rP (fa ar ap)<|rX (ld ap)<|rP bi<|rP pc<|rP Y<|aM<|?_
   obtain rfl:=Option.some.inj h
   have h:=hk3
   exact⟨_,ra [(1,0)],(ByteArray.toList a0.Value == ByteArray.toList (aa [])),h,rfl⟩
  ·refine rS<|rS<|rS<|rP pc<|rP Y<|aM<|?_
   obtain rfl:=Option.some.inj h
   have h:=hk3
   exact⟨_,ra [(1,0)],false,h,rfl⟩
 ·rintro s ⟨cd,h,rfl⟩
  refine bE h fun q5 h hk6=>bx (fun s=>vZ a0 cd=some r∧s=lit [(1,.ptr 1 0 0),(3,.bool cd)] [((1,0),.box [.int .i64 a0.Kind,.int .i64 a0.N,.str a0.Key,.str a0.Value,.sl 5 (List.map aj a0.Kids)])] [(1,1)] X) ?_ ?_
  ·skip
   refine sr fun _ k7=>rP (fa ar ae)<|rX (ld ae)<|en k7<|ax<|bE h fun q8 h hk9=>bx (fun s=>∃(tZ:Bool),sH a0 cd tZ=some q5∧s=lit [(1,.ptr 1 0 0),(3,.bool cd),(13,.int .i64 a0.Kind),(14,.bool tZ)] [((1,0),.box [.int .i64 a0.Kind,.int .i64 a0.N,.str a0.Key,.str a0.Value,.sl 5 (List.map aj a0.Kids)])] [(1,1)] X) ?_ ?_
   ·skip
    refine sr fun _ k10=>rP bi<|rP Y<|en k10<|wi 14 h (fun c11 h=>?_) fun c11 h=>?_
    ·refine aq ?_
     obtain rfl:=Option.some.inj h
     have h:=hk9
     exact⟨_,ra [(1,0)],true,h,rfl⟩
    ·refine aB<|rP bi<|rP Y<|aM<|?_
     obtain rfl:=Option.some.inj h
     have h:=hk9
     exact⟨_,ra [(1,0)],(a0.Kind == 2),h,rfl⟩
   ·rintro s ⟨tZ,h,rfl⟩
    refine wi 14 h (fun c12 h=>?_) fun c12 h=>?_
    ·refine sr fun _ k13=>rP (fa ar ae)<|rX (ld ae)<|rP bi<|rP mv<|li 20 h (fun c14 h=>?_) fun c14 h=>?_
     ·refine rP mv<|rP pc<|rP Y<|en k13<|ac<|by cases ah h hk6;exact rk
     ·refine rS<|rP pc<|rP Y<|en k13<|ac<|by cases ah h hk6;exact rk
    ·refine sr fun _ k15=>rP bi<|rP Y<|en k15<|wi 23 h (fun c16 h=>?_) fun c16 h=>?_
     ·refine sr fun _ k17=>rP (fa ar ae)<|rX (ld ae)<|rP bi<|rP mv<|li 28 h (fun c18 h=>?_) fun c18 h=>?_
      ·refine rP mv<|rP pc<|rP mv<|li 31 h (fun c19 h=>?_) fun c19 h=>?_
       ·refine rP (fa ar br)<|rX (ld br)<|rP (zl br)<|rP bi<|rP pc<|rP Y<|en k17<|ac<|by cases ah h hk6;exact rk
       ·refine rS<|rS<|rS<|rS<|rP pc<|rP Y<|en k17<|ac<|by cases ah h hk6;exact rk
      ·refine rS<|rP pc<|rP mv<|rS<|rS<|rS<|rS<|rP pc<|rP Y<|en k17<|ac<|by cases ah h hk6;exact rk
     ·refine sr fun _ k20=>rP bi<|rP Y<|en k20<|wi 37 h (fun c21 h=>?_) fun c21 h=>?_
      ·refine sr fun _ k22=>rP (fa ar ae)<|rX (ld ae)<|rP bi<|rP mv<|li 42 h (fun c23 h=>?_) fun c23 h=>?_
       ·refine rP mv<|rP pc<|rP mv<|li 45 h (fun c24 h=>?_) fun c24 h=>?_
        ·refine rP (fa ar br)<|rX (ld br)<|rP (zl br)<|rP bi<|rP pc<|rP Y<|en k22<|ac<|by cases ah h hk6;exact rk
        ·refine rS<|rS<|rS<|rS<|rP pc<|rP Y<|en k22<|ac<|by cases ah h hk6;exact rk
       ·refine rS<|rP pc<|rP mv<|rS<|rS<|rS<|rS<|rP pc<|rP Y<|en k22<|ac<|by cases ah h hk6;exact rk
      ·refine sr fun _ k25=>rP bi<|rP Y<|en k25<|wi 51 h (fun c26 h=>?_) fun c26 h=>?_
       ·refine sr fun _ k27=>rP (fa ar ae)<|rX (ld ae)<|rP bi<|rP mv<|li 56 h (fun c28 h=>?_) fun c28 h=>?_
        ·refine rP (fa ar ap)<|rX (ld ap)<|bE h fun x29 y29 h=>rD (cz (.bool x29) (kY a0.Key y29) kX)<|rP pc<|rP mv<|li 61 h (fun c30 h=>?_) fun c30 h=>?_
         ·refine rP (fa ar ap)<|rX (ld ap)<|rP (eh W_ ap)<|rP bi<|rP pc<|rP mv<|li 67 h (fun c31 h=>?_) fun c31 h=>?_
          ·refine rP (fa ar br)<|rX (ld br)<|rP (zl br)<|rP bi<|rP pc<|rP Y<|en k27<|ac<|by cases ah h hk6;exact rk
          ·refine rS<|rS<|rS<|rS<|rP pc<|rP Y<|en k27<|ac<|by cases ah h hk6;exact rk
         ·refine rS<|rS<|rS<|rS<|rP pc<|rP mv<|rS<|rS<|rS<|rS<|rP pc<|rP Y<|en k27<|ac<|by cases ah h hk6;exact rk
        ·refine rS<|rS<|rS<|rP pc<|rP mv<|rS<|rS<|rS<|rS<|rP pc<|rP mv<|rS<|rS<|rS<|rS<|rP pc<|rP Y<|en k27<|ac<|by cases ah h hk6;exact rk
       ·refine aq<|tk (aI h hk6) fun h=>?_
        exact⟨_,ra [(1,0)],h,rfl⟩
  ·rintro s ⟨h,rfl⟩
   unfold vZ at h
   refine ai fun _ k32=>cD (by kernel_rfl) (by decide +kernel)<|tP mv<|tP mv<|fT (c:=cd) 74 rfl (fun c33=>?_) (fun c33=>?_)
   ·have h:=fy c33 h
    refine tP (fa ar ae)<|tR (ld ae)<|tP bi<|tP pc<|tP mv<|fT (c:=(decide ((0:Int)≤a0.N))) 79 rfl (fun c34=>?_) (fun c34=>?_)
    ·have h:=fy c34 h
     refine tP (fa ar ae)<|tR (ld ae)<|tP (fa ar ae)<|tR (ld ae)<|bE h fun x35 y35 h=>tD (cz (.int .i64 x35) (zB a0.Kind y35) zy)<|tP bi<|tP pc<|tP mv<|fT (c:=(decide (a0.N≤x35))) 87 rfl (fun c36=>?_) (fun c36=>?_)
     ·have h:=fy c36 h
      refine tP (fa ar br)<|tR (ld br)<|tP (zl br)<|tP bi<|tP pc<|tP Y<|cc (by kernel_rfl)<|k32 _<|ac<|by cases h;exact rk
     ·have h:=fA c36 h
      refine tS<|tS<|tS<|tS<|tP pc<|tP Y<|cc (by kernel_rfl)<|k32 _<|ac<|by cases h;exact rk
    ·have h:=fA c34 h
     refine tS<|tS<|tS<|tS<|tS<|tS<|tP pc<|tP mv<|tS<|tS<|tS<|tS<|tP pc<|tP Y<|cc (by kernel_rfl)<|k32 _<|ac<|by cases h;exact rk
   ·have h:=fA c33 h
    refine tS<|tS<|tS<|tP pc<|tP mv<|tS<|tS<|tS<|tS<|tS<|tS<|tP pc<|tP mv<|tS<|tS<|tS<|tS<|tP pc<|tP Y<|cc (by kernel_rfl)<|k32 _<|ac<|by cases h;exact rk
def pM (K:af→Int→Int→Option (Int×Bool)) (a0:af) (a1:Int) (a2:Int) (lc:Int) (lf:Int):Option ((Int×Int)⊕(Int×Bool)):=
 if(decide (lf<(List.length a0.Kids:Int)))=true then(gd (0≤lf) (Option.bind (a0.Kids[(Int.toNat lf)]?) (fun(x23:af)=>Option.bind (K x23 (IntKind.i64.wrap (a1-1)) (IntKind.i64.wrap (a2-lc))) (fun(x25:Int×Bool)=>if(!x25.2)=true then(some (Sum.inr (0,false)))else(some (Sum.inl ((IntKind.i64.wrap (lc+x25.1)),(IntKind.i64.wrap (lf+1)))))))))else(some (Sum.inr (lc,true)))
def v9 (K:af→Int→Int→Option (Int×Bool)) (a0:af) (a1:Int) (a2:Int):Option (Int×Bool):=
 am (fun(s:Int×Int)=>pM K a0 a1 a2 s.1 s.2) Fu (1,0)
def wa (K:af→Int→Int→Option (Int×Bool)) (a0:af) (a1:Int) (a2:Int):Option (Int×Bool):=
 Option.bind (if(decide (a1<1))=true then(some (Sum.inr (0,false)))else(if(decide (a2<1))=true then(some (Sum.inr (0,false)))else(Option.bind (v8 a0) (fun(x9:Bool)=>if(!x9)=true then(some (Sum.inr (0,false)))else(some (Sum.inl ())))))) (Sum.elim (fun(s:Unit)=>v9 K a0 a1 a2) some)
theorem MT (K:af→Int→Int→Option (Int×Bool)) (hK:∀(a0:af) (a1:Int) (a2:Int) {r:Int×Bool},K a0 a1 a2=some r→Ok Tryz.prog 124 [.agg [.int .i64 a0.Kind,.int .i64 a0.N,.str a0.Key,.str a0.Value,.sl 5 (List.map aj a0.Kids)],.int .i64 a1,.int .i64 a2] [] [] (.tup [.int .i64 r.1,.bool r.2]) [] []) (a0:af) (a1:Int) (a2:Int) {r:Int×Bool} (h:wa K a0 a1 a2=some r):Ok Tryz.prog 124 [.agg [.int .i64 a0.Kind,.int .i64 a0.N,.str a0.Key,.str a0.Value,.sl 5 (List.map aj a0.Kids)],.int .i64 a1,.int .i64 a2] [] [] (.tup [.int .i64 r.1,.bool r.2]) [] []:=by
 refine oK Tryz.func124 rfl fun X=>sr fun _ k1=>rD (bY W_ rfl rfl)<|rP Y<|rP Y<|en k1<|bE h fun q2 h hk3=>bx (fun s=>v9 K a0 a1 a2=some r∧s=lit [(1,.int .i64 a1),(2,.int .i64 a2),(3,.ptr 3 0 0)] [((3,0),.box [.int .i64 a0.Kind,.int .i64 a0.N,.str a0.Key,.str a0.Value,.sl 5 (List.map aj a0.Kids)])] [(3,1)] X) ?_ ?_
 ·skip
  refine sr fun _ k4=>rP mv<|rP bi<|rP mv<|li 15 h (fun c5 h=>?_) fun c5 h=>?_
  ·refine rS<|rS<|rP pc<|rP mv<|rS<|rS<|rS<|rP pc<|en k4<|bM D_ rfl<|sr fun _ k6=>rP Y<|rP Y<|en k6<|ac<|by cases ah h hk3;exact rk
  ·refine rP mv<|rP bi<|rP pc<|rP mv<|li 19 h (fun c7 h=>?_) fun c7 h=>?_
   ·refine rS<|rS<|rS<|rP pc<|en k4<|bM D_ rfl<|sr fun _ k8=>rP Y<|rP Y<|en k8<|ac<|by cases ah h hk3;exact rk
   ·refine pl 20 (.agg [.int .i64 a0.Kind,.int .i64 a0.N,.str a0.Key,.str a0.Value,.sl 5 (List.map aj a0.Kids)]) ar<|bE h fun x9 y9 h=>rD (cZ (MS a0 y9) MN)<|rP un<|rP pc<|en k4<|wi 23 h (fun c10 h=>?_) fun c10 h=>?_
    ·refine sr fun _ k11=>rP Y<|rP Y<|en k11<|ac<|by cases ah h hk3;exact rk
    ·refine aq<|tk (aI h hk3) fun h=>?_
     exact⟨_,ra [(3,0)],h,rfl⟩
 ·rintro s ⟨h,rfl⟩
  unfold v9 at h
  refine sr fun _ k12=>rP Y<|en k12<|ai fun _ k13=>sr fun _ k14=>rP (fa ar br)<|rX (ld br)<|rP (zl br)<|rP mv<|en k14<|ax<|bv (fun m s=>∃(lc:Int),∃(lf:Int),am (fun(s:Int×Int)=>pM K a0 a1 a2 s.1 s.2) m (lc,lf)=some r∧s=lit [(1,.int .i64 a1),(2,.int .i64 a2),(8,.int .i64 lc),(25,.sl 5 (List.map aj a0.Kids)),(26,.int .i64 (List.length a0.Kids:Int)),(27,.int .i64 lf)] [] [] X) Fu
   ⟨_,ra [],1,0,h,rfl⟩ ?_
  rintro m s ⟨lc,lf,h,rfl⟩
  obtain⟨m1,q15,rfl,h,hq16⟩:=bu h
  replace h:pM K a0 a1 a2 lc lf=some q15:=h
  refine sr fun _ k17=>rP bi<|en k17<|ai fun _ k18=>wi 28 h (fun c19 h=>?_) fun c19 h=>?_
  ·refine aq<|k18 _<|ai fun _ k20=>ax<|sr fun _ k21=>gE h fun g22 h=>bE h fun x23 y23 h=>rP (i1 (el:=.agg [.int .i64 x23.Kind,.int .i64 x23.N,.str x23.Key,.str x23.Value,.sl 5 (List.map aj x23.Kids)]) W_ W_ br ar g22 (by exact kB (iI _) y23))<|pl 30 (.agg [.int .i64 x23.Kind,.int .i64 x23.N,.str x23.Key,.str x23.Value,.sl 5 (List.map aj x23.Kids)]) ar<|rD (nw ar)<|pZ (aA [.int .i64 x23.Kind,.int .i64 x23.N,.str x23.Key,.str x23.Value,.sl 5 (List.map aj x23.Kids)] ar)<|en k21<|sr fun _ k24=>pl 32 (.agg [.int .i64 x23.Kind,.int .i64 x23.N,.str x23.Key,.str x23.Value,.sl 5 (List.map aj x23.Kids)]) ar<|rP mv<|rP bi<|rP mv<|rP mv<|rP bi<|bE h fun x25 y25 h=>rD (cZ (hK x23 (IntKind.i64.wrap (a1-1)) (IntKind.i64.wrap (a2-lc)) y25) FJ)<|rP mv<|rP ex<|rP ex<|rP Y<|rP Y<|en k24<|ai fun _ k26=>sr fun _ k27=>rP mv<|rP un<|en k27<|wi 42 h (fun c28 h=>?_) fun c28 h=>?_
   ·refine sr fun _ k29=>rP Y<|rP Y<|en k29<|ac<|by cases ah h hq16;exact rk
   ·refine aq<|k26 _<|aB<|rP mv<|rP mv<|rP bi<|rP Y<|en k20<|aB<|rP bi<|rP mv<|aM<|bk (ra []) ⟨(IntKind.i64.wrap (lc+x25.1)),(IntKind.i64.wrap (lf+1)),aI h hq16,rfl⟩
  ·refine bc<|tk (ah h hq16) fun h=>k13 _<|sr fun _ k30=>rP mv<|rP Y<|rP Y<|en k30<|ac<|by cases h;exact rk
def mK:Nat→af→Int→Int→Option (Int×Bool)
 | 0,_,_,_=>none
 | n+1,a0,a1,a2=>wa (mK n) a0 a1 a2
theorem FL:∀(n:Nat) (a0:af) (a1:Int) (a2:Int) {r:Int×Bool},mK n a0 a1 a2=some r→Ok Tryz.prog 124 [.agg [.int .i64 a0.Kind,.int .i64 a0.N,.str a0.Key,.str a0.Value,.sl 5 (List.map aj a0.Kids)],.int .i64 a1,.int .i64 a2] [] [] (.tup [.int .i64 r.1,.bool r.2]) [] []
 | 0,_,_,_,_,h=>by simp[mK]at h
 | n+1,a0,a1,a2,_,h=>MT (mK n) (FL n) a0 a1 a2 h
def zD (a0:af) (a1:Int) (a2:Int):Option (Int×Bool):=mK Fu a0 a1 a2
theorem MU (a0:af) (a1:Int) (a2:Int) {r:Int×Bool} (h:zD a0 a1 a2=some r):Ok Tryz.prog 124 [.agg [.int .i64 a0.Kind,.int .i64 a0.N,.str a0.Key,.str a0.Value,.sl 5 (List.map aj a0.Kids)],.int .i64 a1,.int .i64 a2] [] [] (.tup [.int .i64 r.1,.bool r.2]) [] []:=FL Fu a0 a1 a2 h
def pN (a0:af):Option Bool:=
 Option.bind (zD a0 5 20) (fun(x3:Int×Bool)=>some x3.2)
theorem zE (a0:af) {r:Bool} (h:pN a0=some r):Ok Tryz.prog 50 [.agg [.int .i64 a0.Kind,.int .i64 a0.N,.str a0.Key,.str a0.Value,.sl 5 (List.map aj a0.Kids)]] [] [] (.bool r) [] []:=by
 refine oK Tryz.func50 rfl fun X=>sr fun _ k1=>rD (bY W_ rfl rfl)<|rP Y<|en k1<|sr fun _ k2=>pl 6 (.agg [.int .i64 a0.Kind,.int .i64 a0.N,.str a0.Key,.str a0.Value,.sl 5 (List.map aj a0.Kids)]) ar<|bE h fun x3 y3 h=>rD (cZ (MU a0 5 20 y3) FJ)<|rP mv<|rP ex<|rP ex<|rP Y<|rP Y<|en k2<|sr fun _ k4=>rP mv<|rP Y<|en k4<|ac<|by cases h;exact rk
def zF (K:af→Int→Option Int) (a0:af) (a1:Int) (au:Int) (aY:Int):Option ((Int×Int)⊕Int):=
 gd (0≤aY) (Option.bind (a0.Kids[(Int.toNat aY)]?) (fun(x20:af)=>Option.bind (K x20 (IntKind.i64.wrap (a1-1))) (fun(x21:Int)=>some (Sum.inl ((IntKind.i64.wrap (au+x21)),(IntKind.i64.wrap (aY+1)))))))
def nV (K:af→Int→Option Int) (a0:af) (a1:Int) (au:Int) (aY:Int):Option ((Int×Int)⊕Int):=
 Option.bind (if(decide (aY<(List.length a0.Kids:Int)))=true then(if(decide (au≤20))=true then(some (Sum.inl ()))else(some (Sum.inr (Sum.inr au))))else(some (Sum.inr (Sum.inr au)))) (Sum.elim (fun(s:Unit)=>zF K a0 a1 au aY) some)
def wb (K:af→Int→Option Int) (a0:af) (a1:Int):Option Int:=
 if(a1 == 0)=true then(some 21)else(am (fun(s:Int×Int)=>nV K a0 a1 s.1 s.2) Fu (1,0))
theorem MV (K:af→Int→Option Int) (hK:∀(a0:af) (a1:Int) {r:Int},K a0 a1=some r→Ok Tryz.prog 80 [.agg [.int .i64 a0.Kind,.int .i64 a0.N,.str a0.Key,.str a0.Value,.sl 5 (List.map aj a0.Kids)],.int .i64 a1] [] [] (.int .i64 r) [] []) (a0:af) (a1:Int) {r:Int} (h:wb K a0 a1=some r):Ok Tryz.prog 80 [.agg [.int .i64 a0.Kind,.int .i64 a0.N,.str a0.Key,.str a0.Value,.sl 5 (List.map aj a0.Kids)],.int .i64 a1] [] [] (.int .i64 r) [] []:=by
 refine oK Tryz.func80 rfl fun X=>sr fun _ k1=>rD (bY W_ rfl rfl)<|rP Y<|en k1<|ai fun _ k2=>sr fun _ k3=>rP mv<|rP bi<|en k3<|wi 8 h (fun c4 h=>?_) fun c4 h=>?_
 ·refine sr fun _ k5=>rP Y<|en k5<|ac<|by cases h;exact rk
 ·refine aq<|k2 _<|sr fun _ k6=>rP Y<|en k6<|ai fun _ k7=>sr fun _ k8=>rP Y<|en k8<|ax<|bv (fun m s=>∃(au:Int),∃(aY:Int),am (fun(s:Int×Int)=>nV K a0 a1 s.1 s.2) m (au,aY)=some r∧s=lit [(1,.int .i64 a1),(2,.ptr 2 0 0),(5,.int .i64 au),(6,.int .i64 aY)] [((2,0),.box [.int .i64 a0.Kind,.int .i64 a0.N,.str a0.Key,.str a0.Value,.sl 5 (List.map aj a0.Kids)])] [(2,1)] X) Fu
   ⟨_,ra [(2,0)],1,0,h,rfl⟩ ?_
  rintro m s ⟨au,aY,h,rfl⟩
  obtain⟨m0,q9,rfl,h,hq10⟩:=bu h
  replace h:nV K a0 a1 au aY=some q9:=h
  refine bE h fun q11 h hk12=>bx (fun s=>zF K a0 a1 au aY=some q9∧s=lit [(1,.int .i64 a1),(2,.ptr 2 0 0),(5,.int .i64 au),(6,.int .i64 aY)] [((2,0),.box [.int .i64 a0.Kind,.int .i64 a0.N,.str a0.Key,.str a0.Value,.sl 5 (List.map aj a0.Kids)])] [(2,1)] X) ?_ ?_
  ·skip
   refine sr fun _ k13=>rP mv<|rP (fa ar br)<|rX (ld br)<|rP (zl br)<|rP bi<|rP mv<|li 14 h (fun c14 h=>?_) fun c14 h=>?_
   ·refine rP mv<|rP bi<|rP pc<|en k13<|wi 17 h (fun c15 h=>?_) fun c15 h=>?_
    ·refine aq<|tk (aI h hk12) fun h=>?_
     exact⟨_,ra [(2,0)],h,rfl⟩
    ·refine bc<|tk (ah h hk12) fun h=>tk (ah h hq10) fun h=>k7 _<|sr fun _ k16=>rP mv<|rP Y<|en k16<|ac<|by cases h;exact rk
   ·refine rS<|rS<|rP pc<|en k13<|fB D_ rfl<|bc<|tk (ah h hk12) fun h=>tk (ah h hq10) fun h=>k7 _<|sr fun _ k17=>rP mv<|rP Y<|en k17<|ac<|by cases h;exact rk
  ·rintro s ⟨h,rfl⟩
   refine ai fun _ k18=>ax<|aB<|rP mv<|rP (fa ar br)<|rX (ld br)<|rP mv<|gE h fun g19 h=>bE h fun x20 y20 h=>rP (i1 (el:=.agg [.int .i64 x20.Kind,.int .i64 x20.N,.str x20.Key,.str x20.Value,.sl 5 (List.map aj x20.Kids)]) W_ W_ br ar g19 (by exact kB (iI _) y20))<|pl 25 (.agg [.int .i64 x20.Kind,.int .i64 x20.N,.str x20.Key,.str x20.Value,.sl 5 (List.map aj x20.Kids)]) ar<|rP mv<|rP bi<|bE h fun x21 y21 h=>rD (cZ (hK x20 (IntKind.i64.wrap (a1-1)) y21) FH)<|rP bi<|rP Y<|en k18<|aB<|rP mv<|rP bi<|rP Y<|aM<|bk (ra [(2,0)]) ⟨(IntKind.i64.wrap (au+x21)),(IntKind.i64.wrap (aY+1)),aI h hq10,rfl⟩
def lL:Nat→af→Int→Option Int
 | 0,_,_=>none
 | n+1,a0,a1=>wb (lL n) a0 a1
theorem FM:∀(n:Nat) (a0:af) (a1:Int) {r:Int},lL n a0 a1=some r→Ok Tryz.prog 80 [.agg [.int .i64 a0.Kind,.int .i64 a0.N,.str a0.Key,.str a0.Value,.sl 5 (List.map aj a0.Kids)],.int .i64 a1] [] [] (.int .i64 r) [] []
 | 0,_,_,_,h=>by simp[lL]at h
 | n+1,a0,a1,_,h=>MV (lL n) (FM n) a0 a1 h
def zG (a0:af) (a1:Int):Option Int:=lL Fu a0 a1
theorem MW (a0:af) (a1:Int) {r:Int} (h:zG a0 a1=some r):Ok Tryz.prog 80 [.agg [.int .i64 a0.Kind,.int .i64 a0.N,.str a0.Key,.str a0.Value,.sl 5 (List.map aj a0.Kids)],.int .i64 a1] [] [] (.int .i64 r) [] []:=FM Fu a0 a1 h
def sI (a0:af) (dP:Bool) (t5:Bool):Option Bool:=
 if t5=true then(if dP=true then(Option.bind (gb a0.N 0 1000) (fun(x45:Bool)=>some x45))else(some false))else(if(a0.Kind == 9)=true then(if dP=true then(Option.bind (gb a0.N 0 1000000) (fun(x50:Bool)=>some x50))else(some false))else(some false))
def sJ (a0:af) (cd:Bool) (dP:Bool) (t6:Bool):Option Bool:=
 if t6=true then(some cd)else(if(a0.Kind == 3)=true then(if cd=true then(some ((List.length a0.Kids:Int) == 1))else(some false))else(if(a0.Kind == 5)=true then(if cd=true then(some ((List.length a0.Kids:Int) == 0))else(some false))else(if(a0.Kind == 6)=true then(if(a0.N == 0)=true then(Option.bind (gb (ByteArray.size a0.Key:Int) 1 16) (fun(x30:Bool)=>if x30=true then(if(decide ((ByteArray.size a0.Value:Int)≤16))=true then(some ((List.length a0.Kids:Int) == 0))else(some false))else(some false)))else(some false))else(if(a0.Kind == 4)=true then(if dP=true then(Option.bind (gb a0.N 0 1073741824) (fun(x37:Bool)=>some x37))else(some false))else(Option.bind (if(a0.Kind == 7)=true then(some true)else(some (a0.Kind == 8))) (fun(s:Bool)=>sI a0 dP s))))))
def zH (a0:af) (cd:Bool) (dP:Bool):Option Bool:=
 Option.bind (if(a0.Kind == 1)=true then(some true)else(some (a0.Kind == 2))) (fun(s:Bool)=>sJ a0 cd dP s)
def zI (a0:af) (cd:Bool):Option Bool:=
 Option.bind (if(ByteArray.toList a0.Key == ByteArray.toList (aa []))=true then(if(ByteArray.toList a0.Value == ByteArray.toList (aa []))=true then(some ((List.length a0.Kids:Int) == 0))else(some false))else(some false)) (fun(s:Bool)=>zH a0 cd s)
def wc (a0:af):Option Bool:=
 Option.bind (if(a0.N == 0)=true then(if(ByteArray.toList a0.Key == ByteArray.toList (aa []))=true then(some (ByteArray.toList a0.Value == ByteArray.toList (aa [])))else(some false))else(some false)) (fun(s:Bool)=>zI a0 s)
theorem MX (a0:af) {r:Bool} (h:wc a0=some r):Ok Tryz.prog 144 [.agg [.int .i64 a0.Kind,.int .i64 a0.N,.str a0.Key,.str a0.Value,.sl 5 (List.map aj a0.Kids)]] [] [] (.bool r) [] []:=by
 refine oK Tryz.func144 rfl fun X=>sr fun _ k1=>rD (bY W_ rfl rfl)<|rP Y<|en k1<|bE h fun q2 h hk3=>bx (fun s=>∃(cd:Bool),zI a0 cd=some r∧s=lit [(1,.ptr 1 0 0),(3,.bool cd)] [((1,0),.box [.int .i64 a0.Kind,.int .i64 a0.N,.str a0.Key,.str a0.Value,.sl 5 (List.map aj a0.Kids)])] [(1,1)] X) ?_ ?_
 ·skip
  refine aB<|rP (fa ar ae)<|rX (ld ae)<|rP bi<|rP mv<|li 8 h (fun c4 h=>?_) fun c4 h=>?_
  ·refine rP (fa ar ap)<|rX (ld ap)<|rP bi<|rP pc<|rP mv<|li 13 h (fun c5 h=>?_) fun c5 h=>?_
   ·refine rP (fa ar ap)<|rX (ld ap)<|rP bi<|rP pc<|rP Y<|aM<|?_
    obtain rfl:=Option.some.inj h
    have h:=hk3
    exact⟨_,ra [(1,0)],(ByteArray.toList a0.Value == ByteArray.toList (aa [])),h,rfl⟩
   ·refine rS<|rS<|rS<|rP pc<|rP Y<|aM<|?_
    obtain rfl:=Option.some.inj h
    have h:=hk3
    exact⟨_,ra [(1,0)],false,h,rfl⟩
  ·refine rS<|rS<|rS<|rP pc<|rP mv<|rS<|rS<|rS<|rP pc<|rP Y<|aM<|?_
   obtain rfl:=Option.some.inj h
   have h:=hk3
   exact⟨_,ra [(1,0)],false,h,rfl⟩
 ·rintro s ⟨cd,h,rfl⟩
  refine bE h fun q6 h hk7=>bx (fun s=>∃(dP:Bool),zH a0 cd dP=some r∧s=lit [(1,.ptr 1 0 0),(3,.bool cd),(4,.bool dP)] [((1,0),.box [.int .i64 a0.Kind,.int .i64 a0.N,.str a0.Key,.str a0.Value,.sl 5 (List.map aj a0.Kids)])] [(1,1)] X) ?_ ?_
  ·skip
   refine aB<|rP (fa ar ap)<|rX (ld ap)<|rP bi<|rP mv<|li 21 h (fun c8 h=>?_) fun c8 h=>?_
   ·refine rP (fa ar ap)<|rX (ld ap)<|rP bi<|rP pc<|rP mv<|li 26 h (fun c9 h=>?_) fun c9 h=>?_
    ·refine rP (fa ar br)<|rX (ld br)<|rP (zl br)<|rP bi<|rP pc<|rP Y<|aM<|?_
     obtain rfl:=Option.some.inj h
     have h:=hk7
     exact⟨_,ra [(1,0)],((List.length a0.Kids:Int) == 0),h,rfl⟩
    ·refine rS<|rS<|rS<|rS<|rP pc<|rP Y<|aM<|?_
     obtain rfl:=Option.some.inj h
     have h:=hk7
     exact⟨_,ra [(1,0)],false,h,rfl⟩
   ·refine rS<|rS<|rS<|rP pc<|rP mv<|rS<|rS<|rS<|rS<|rP pc<|rP Y<|aM<|?_
    obtain rfl:=Option.some.inj h
    have h:=hk7
    exact⟨_,ra [(1,0)],false,h,rfl⟩
  ·rintro s ⟨dP,h,rfl⟩
   refine ai fun _ k10=>sr fun _ k11=>rP (fa ar ae)<|rX (ld ae)<|en k11<|ax<|bE h fun q12 h hk13=>bx (fun s=>∃(t6:Bool),sJ a0 cd dP t6=some r∧s=lit [(1,.ptr 1 0 0),(3,.bool cd),(4,.bool dP),(33,.int .i64 a0.Kind),(34,.bool t6)] [((1,0),.box [.int .i64 a0.Kind,.int .i64 a0.N,.str a0.Key,.str a0.Value,.sl 5 (List.map aj a0.Kids)])] [(1,1)] X) ?_ ?_
   ·skip
    refine sr fun _ k14=>rP bi<|rP Y<|en k14<|wi 34 h (fun c15 h=>?_) fun c15 h=>?_
    ·refine aq ?_
     obtain rfl:=Option.some.inj h
     have h:=hk13
     exact⟨_,ra [(1,0)],true,h,rfl⟩
    ·refine aB<|rP bi<|rP Y<|aM<|?_
     obtain rfl:=Option.some.inj h
     have h:=hk13
     exact⟨_,ra [(1,0)],(a0.Kind == 2),h,rfl⟩
   ·rintro s ⟨t6,h,rfl⟩
    refine wi 34 h (fun c16 h=>?_) fun c16 h=>?_
    ·refine sr fun _ k17=>rP mv<|rP Y<|en k17<|ac<|by cases h;exact rk
    ·refine sr fun _ k18=>rP bi<|rP Y<|en k18<|wi 38 h (fun c19 h=>?_) fun c19 h=>?_
     ·refine sr fun _ k20=>rP mv<|rP mv<|li 41 h (fun c21 h=>?_) fun c21 h=>?_
      ·refine rP (fa ar br)<|rX (ld br)<|rP (zl br)<|rP bi<|rP pc<|rP Y<|en k20<|ac<|by cases h;exact rk
      ·refine rS<|rS<|rS<|rS<|rP pc<|rP Y<|en k20<|ac<|by cases h;exact rk
     ·refine sr fun _ k22=>rP bi<|rP Y<|en k22<|wi 47 h (fun c23 h=>?_) fun c23 h=>?_
      ·refine sr fun _ k24=>rP mv<|rP mv<|li 50 h (fun c25 h=>?_) fun c25 h=>?_
       ·refine rP (fa ar br)<|rX (ld br)<|rP (zl br)<|rP bi<|rP pc<|rP Y<|en k24<|ac<|by cases h;exact rk
       ·refine rS<|rS<|rS<|rS<|rP pc<|rP Y<|en k24<|ac<|by cases h;exact rk
      ·refine sr fun _ k26=>rP bi<|rP Y<|en k26<|wi 56 h (fun c27 h=>?_) fun c27 h=>?_
       ·refine sr fun _ k28=>rP (fa ar ae)<|rX (ld ae)<|rP bi<|rP mv<|li 61 h (fun c29 h=>?_) fun c29 h=>?_
        ·refine rP (fa ar ap)<|rX (ld ap)<|rP (eh W_ ap)<|bE h fun x30 y30 h=>rD (cz (.bool x30) (la (ByteArray.size a0.Key:Int) 1 16 y30) kZ)<|rP pc<|rP mv<|li 67 h (fun c31 h=>?_) fun c31 h=>?_
         ·refine rP (fa ar ap)<|rX (ld ap)<|rP (eh W_ ap)<|rP bi<|rP pc<|rP mv<|li 73 h (fun c32 h=>?_) fun c32 h=>?_
          ·refine rP (fa ar br)<|rX (ld br)<|rP (zl br)<|rP bi<|rP pc<|rP Y<|en k28<|ac<|by cases h;exact rk
          ·refine rS<|rS<|rS<|rS<|rP pc<|rP Y<|en k28<|ac<|by cases h;exact rk
         ·refine rS<|rS<|rS<|rS<|rP pc<|rP mv<|rS<|rS<|rS<|rS<|rP pc<|rP Y<|en k28<|ac<|by cases h;exact rk
        ·refine rS<|rS<|rS<|rS<|rP pc<|rP mv<|rS<|rS<|rS<|rS<|rP pc<|rP mv<|rS<|rS<|rS<|rS<|rP pc<|rP Y<|en k28<|ac<|by cases h;exact rk
       ·refine sr fun _ k33=>rP bi<|rP Y<|en k33<|wi 79 h (fun c34 h=>?_) fun c34 h=>?_
        ·refine sr fun _ k35=>rP mv<|rP mv<|li 82 h (fun c36 h=>?_) fun c36 h=>?_
         ·refine rP (fa ar ae)<|rX (ld ae)<|bE h fun x37 y37 h=>rD (cZ (la a0.N 0 1073741824 y37) kZ)<|rP pc<|rP Y<|en k35<|ac<|by cases h;exact rk
         ·refine rS<|rS<|rS<|rP pc<|rP Y<|en k35<|ac<|by cases h;exact rk
        ·refine bE h fun q38 h hk39=>bx (fun s=>∃(t5:Bool),sI a0 dP t5=some r∧s=lit [(1,.ptr 1 0 0),(4,.bool dP),(33,.int .i64 a0.Kind),(87,.bool t5)] [((1,0),.box [.int .i64 a0.Kind,.int .i64 a0.N,.str a0.Key,.str a0.Value,.sl 5 (List.map aj a0.Kids)])] [(1,1)] X) ?_ ?_
         ·skip
          refine sr fun _ k40=>rP bi<|rP Y<|en k40<|wi 87 h (fun c41 h=>?_) fun c41 h=>?_
          ·refine aq ?_
           obtain rfl:=Option.some.inj h
           have h:=hk39
           exact⟨_,ra [(1,0)],true,h,rfl⟩
          ·refine aB<|rP bi<|rP Y<|aM<|?_
           obtain rfl:=Option.some.inj h
           have h:=hk39
           exact⟨_,ra [(1,0)],(a0.Kind == 8),h,rfl⟩
         ·rintro s ⟨t5,h,rfl⟩
          refine wi 87 h (fun c42 h=>?_) fun c42 h=>?_
          ·refine sr fun _ k43=>rP mv<|rP mv<|li 91 h (fun c44 h=>?_) fun c44 h=>?_
           ·refine rP (fa ar ae)<|rX (ld ae)<|bE h fun x45 y45 h=>rD (cZ (la a0.N 0 1000 y45) kZ)<|rP pc<|rP Y<|en k43<|ac<|by cases h;exact rk
           ·refine rS<|rS<|rS<|rP pc<|rP Y<|en k43<|ac<|by cases h;exact rk
          ·refine sr fun _ k46=>rP bi<|rP Y<|en k46<|wi 96 h (fun c47 h=>?_) fun c47 h=>?_
           ·refine sr fun _ k48=>rP mv<|rP mv<|li 99 h (fun c49 h=>?_) fun c49 h=>?_
            ·refine rP (fa ar ae)<|rX (ld ae)<|bE h fun x50 y50 h=>rD (cZ (la a0.N 0 1000000 y50) kZ)<|rP pc<|rP Y<|en k48<|ac<|by cases h;exact rk
            ·refine rS<|rS<|rS<|rP pc<|rP Y<|en k48<|ac<|by cases h;exact rk
           ·refine aq<|k10 _<|sr fun _ k51=>rP Y<|en k51<|ac<|by cases h;exact rk
def nW (K:af→Option Bool) (a0:af) (cd:Int):Option (Int⊕Bool):=
 if(decide (cd<(List.length a0.Kids:Int)))=true then(gd (0≤cd) (Option.bind (a0.Kids[(Int.toNat cd)]?) (fun(x17:af)=>Option.bind (K x17) (fun(x18:Bool)=>if(!x18)=true then(some (Sum.inr false))else(some (Sum.inl (IntKind.i64.wrap (cd+1))))))))else(some (Sum.inr true))
def zJ (K:af→Option Bool) (a0:af):Option Bool:=
 Option.bind (wc a0) (fun(x4:Bool)=>if(!x4)=true then(some false)else(am (fun(s:Int)=>nW K a0 s) Fu 0))
theorem MY (K:af→Option Bool) (hK:∀(a0:af) {r:Bool},K a0=some r→Ok Tryz.prog 81 [.agg [.int .i64 a0.Kind,.int .i64 a0.N,.str a0.Key,.str a0.Value,.sl 5 (List.map aj a0.Kids)]] [] [] (.bool r) [] []) (a0:af) {r:Bool} (h:zJ K a0=some r):Ok Tryz.prog 81 [.agg [.int .i64 a0.Kind,.int .i64 a0.N,.str a0.Key,.str a0.Value,.sl 5 (List.map aj a0.Kids)]] [] [] (.bool r) [] []:=by
 refine oK Tryz.func81 rfl fun X=>sr fun _ k1=>rD (bY W_ rfl rfl)<|rP Y<|en k1<|ai fun _ k2=>sr fun _ k3=>pl 4 (.agg [.int .i64 a0.Kind,.int .i64 a0.N,.str a0.Key,.str a0.Value,.sl 5 (List.map aj a0.Kids)]) ar<|bE h fun x4 y4 h=>rD (cZ (MX a0 y4) MM)<|rP un<|en k3<|wi 6 h (fun c5 h=>?_) fun c5 h=>?_
 ·refine sr fun _ k6=>rP Y<|en k6<|ac<|by cases h;exact rk
 ·refine aq<|k2 _<|ai fun _ k7=>sr fun _ k8=>rP Y<|en k8<|ax<|bv (fun m s=>∃(cd:Int),am (fun(s:Int)=>nW K a0 s) m cd=some r∧s=lit [(1,.ptr 1 0 0),(3,.int .i64 cd)] [((1,0),.box [.int .i64 a0.Kind,.int .i64 a0.N,.str a0.Key,.str a0.Value,.sl 5 (List.map aj a0.Kids)])] [(1,1)] X) Fu
   ⟨_,ra [(1,0)],0,h,rfl⟩ ?_
  rintro m s ⟨cd,h,rfl⟩
  obtain⟨m0,q9,rfl,h,hq10⟩:=bu h
  replace h:nW K a0 cd=some q9:=h
  refine ai fun _ k11=>sr fun _ k12=>rP mv<|rP (fa ar br)<|rX (ld br)<|rP (zl br)<|rP bi<|en k12<|wi 11 h (fun c13 h=>?_) fun c13 h=>?_
  ·refine aq<|k11 _<|ai fun _ k14=>ax<|sr fun _ k15=>rP (fa ar br)<|rX (ld br)<|rP mv<|gE h fun g16 h=>bE h fun x17 y17 h=>rP (i1 (el:=.agg [.int .i64 x17.Kind,.int .i64 x17.N,.str x17.Key,.str x17.Value,.sl 5 (List.map aj x17.Kids)]) W_ W_ br ar g16 (by exact kB (iI _) y17))<|pl 18 (.agg [.int .i64 x17.Kind,.int .i64 x17.N,.str x17.Key,.str x17.Value,.sl 5 (List.map aj x17.Kids)]) ar<|bE h fun x18 y18 h=>rD (cZ (hK x17 y18) FI)<|rP un<|en k15<|wi 20 h (fun c19 h=>?_) fun c19 h=>?_
   ·refine sr fun _ k20=>rP Y<|en k20<|ac<|by cases ah h hq10;exact rk
   ·refine aq<|k14 _<|aB<|rP mv<|rP bi<|rP Y<|aM<|bk (ra [(1,0)]) ⟨(IntKind.i64.wrap (cd+1)),aI h hq10,rfl⟩
  ·refine bc<|tk (ah h hq10) fun h=>k7 _<|sr fun _ k21=>rP Y<|en k21<|ac<|by cases h;exact rk
def lM:Nat→af→Option Bool
 | 0,_=>none
 | n+1,a0=>zJ (lM n) a0
theorem FN:∀(n:Nat) (a0:af) {r:Bool},lM n a0=some r→Ok Tryz.prog 81 [.agg [.int .i64 a0.Kind,.int .i64 a0.N,.str a0.Key,.str a0.Value,.sl 5 (List.map aj a0.Kids)]] [] [] (.bool r) [] []
 | 0,_,_,h=>by simp[lM]at h
 | n+1,a0,_,h=>MY (lM n) (FN n) a0 h
def zK (a0:af):Option Bool:=lM Fu a0
theorem MZ (a0:af) {r:Bool} (h:zK a0=some r):Ok Tryz.prog 81 [.agg [.int .i64 a0.Kind,.int .i64 a0.N,.str a0.Key,.str a0.Value,.sl 5 (List.map aj a0.Kids)]] [] [] (.bool r) [] []:=FN Fu a0 h
def pO (a0:af):Option Bool:=
 Option.bind (zG a0 5) (fun(x3:Int)=>if(decide (x3≤20))=true then(Option.bind (zK a0) (fun(x5:Bool)=>some x5))else(some false))
theorem zL (a0:af) {r:Bool} (h:pO a0=some r):Ok Tryz.prog 22 [.agg [.int .i64 a0.Kind,.int .i64 a0.N,.str a0.Key,.str a0.Value,.sl 5 (List.map aj a0.Kids)]] [] [] (.bool r) [] []:=by
 refine oK Tryz.func22 rfl fun X=>sr fun _ k1=>rD (bY W_ rfl rfl)<|rP Y<|en k1<|sr fun _ k2=>pl 3 (.agg [.int .i64 a0.Kind,.int .i64 a0.N,.str a0.Key,.str a0.Value,.sl 5 (List.map aj a0.Kids)]) ar<|bE h fun x3 y3 h=>rD (cZ (MW a0 5 y3) FH)<|rP bi<|rP mv<|li 6 h (fun c4 h=>?_) fun c4 h=>?_
 ·refine pl 7 (.agg [.int .i64 a0.Kind,.int .i64 a0.N,.str a0.Key,.str a0.Value,.sl 5 (List.map aj a0.Kids)]) ar<|bE h fun x5 y5 h=>rD (cZ (MZ a0 y5) FI)<|rP pc<|rP Y<|en k2<|ac<|by cases h;exact rk
 ·refine rS<|rS<|rP pc<|rP Y<|en k2<|ac<|by cases h;exact rk
end Go.Proofs.YtjklegmimpehlaaGreat.Ab
namespace Go.Proofs.YtjklegmimpehlaaGreat.Ab
open Go Go.RowKit
set_option linter.unusedVariables false
set_option linter.unusedSimpArgs false
set_option maxRecDepth 100000
set_option maxHeartbeats 8000000
theorem zM:aF Tryz.prog 50:=eN Tryz.func50
theorem FO:aF Tryz.prog 85:=eN Tryz.func85
theorem FP:aF Tryz.prog 148:=eN Tryz.func148
theorem M0:aF Tryz.prog 168:=eN Tryz.func168
def sK (K:aE→af→Option aE) (a1:af) (dj:List UInt8) (lg:Int):Option ((List UInt8×Int)⊕aE):=
 if(decide (lg<(List.length a1.Kids:Int)))=true then(gd (0≤lg) (Option.bind (a1.Kids[(Int.toNat lg)]?) (fun(x23:af)=>Option.bind (K (aE.mk dj) x23) (fun(x24:aE)=>some (Sum.inl (x24.B,(IntKind.i64.wrap (lg+1))))))))else(some (Sum.inr (aE.mk dj)))
def zN (K:aE→af→Option aE) (a0:aE) (a1:af) (fu:Bool):Option aE:=
 if fu=true then(Option.bind (em (aE.mk (a0.B++[(u8 (IntKind.u8.wrap a1.Kind))])) [(List.length a1.Kids:Int)]) (fun(x13:aE)=>am (fun(s:List UInt8×Int)=>sK K a1 s.1 s.2) Fu (x13.B,0)))else(if(a1.Kind == 6)=true then(Option.bind (lQ (aE.mk (a0.B++[(u8 (IntKind.u8.wrap a1.Kind))])) [a1.Key,a1.Value]) (fun(x27:aE)=>some x27))else(if(a1.Kind == 5)=true then(some (aE.mk (a0.B++[(u8 (IntKind.u8.wrap a1.Kind))])))else(Option.bind (em (aE.mk (a0.B++[(u8 (IntKind.u8.wrap a1.Kind))])) [a1.N]) (fun(x30:aE)=>some x30))))
def zO (K:aE→af→Option aE) (a0:aE) (a1:af):Option aE:=
 gd ((List.length (a0.B++[(u8 (IntKind.u8.wrap a1.Kind))]))*1≤140737488355328∧(List.length (a0.B++[(u8 (IntKind.u8.wrap a1.Kind))]))≤140737488355328) (Option.bind (if(a1.Kind == 1)=true then(some true)else(if(a1.Kind == 2)=true then(some true)else(some (a1.Kind == 3)))) (fun(s:Bool)=>zN K a0 a1 s))
theorem M1 (K:aE→af→Option aE) (hK:∀(a0:aE) (a1:af) {r:aE},K a0 a1=some r→Ok Tryz.prog 85 [.ptr 0 0 0,.agg [.int .i64 a1.Kind,.int .i64 a1.N,.str a1.Key,.str a1.Value,.sl 5 (List.map aj a1.Kids)]] [[.own 1 0]] [(5,1,List.map ag a0.B)] (.tup []) [[.own 2 0]] [(5,1,List.map ag r.B)]) (a0:aE) (a1:af) {r:aE} (h:zO K a0 a1=some r):Ok Tryz.prog 85 [.ptr 0 0 0,.agg [.int .i64 a1.Kind,.int .i64 a1.N,.str a1.Key,.str a1.Value,.sl 5 (List.map aj a1.Kids)]] [[.own 1 0]] [(5,1,List.map ag a0.B)] (.tup []) [[.own 2 0]] [(5,1,List.map ag r.B)]:=by
 refine oK Tryz.func85 rfl fun X=>sr fun _ k1=>rD (bY W_ rfl rfl)<|en k1<|ai fun _ k2=>cD (by kernel_rfl) (by decide +kernel)<|tP mv<|tP mv<|tP nk<|tP (fa il aH)<|tR (ld aH)<|tP (fa ar ae)<|tR (ld ae)<|tP ((cK (v:=.int .u8 (IntKind.u8.wrap a1.Kind)) W_ (cL ae) (cB bG) rfl).castp (v':=.int .u8 ((u8 (IntKind.u8.wrap a1.Kind)).toNat:Int)) (by exact congrArg _ (gx (iW _))))<|tD (bs (List.map ag [(u8 (IntKind.u8.wrap a1.Kind))]) aH bG rfl)<|gE h fun g3 h=>tD (dw (v:=List.map ag (a0.B++[(u8 (IntKind.u8.wrap a1.Kind))])) W_ W_ aH bG rfl rfl W_ (by first | exact .inl rfl | exact .inr ⟨rfl,rfl⟩) W_ (by first | exact .inr rfl | exact .inl rfl) (dL _ _) (dv g3))<|tP nk<|tP (fa il aH)<|gj none rfl rfl (gm (cs':=[.own 15 0]) W_ W_ W_ aH rfl rfl rfl R_) D_<|cc (by kernel_rfl)<|k2 _<|sr fun _ k4=>rP (fa ar ae)<|rX (ld ae)<|en k4<|ax<|bE h fun q5 h hk6=>bx (fun s=>∃(fu:Bool),zN K a0 a1 fu=some r∧s=lit [(0,.ptr 0 0 0),(3,.ptr 3 0 0),(19,.int .i64 a1.Kind),(25,.bool fu)] [((0,0),.box [.own 15 0]),((15,0),.arr 5 1 false (List.map ag (a0.B++[(u8 (IntKind.u8.wrap a1.Kind))]))),((3,0),.box [.int .i64 a1.Kind,.int .i64 a1.N,.str a1.Key,.str a1.Value,.sl 5 (List.map aj a1.Kids)])] [(0,1),(3,1),(15,1)] X) ?_ ?_
 ·skip
  refine sr fun _ k7=>rP bi<|rP Y<|en k7<|wi 25 h (fun c8 h=>?_) fun c8 h=>?_
  ·refine aq ?_
   obtain rfl:=Option.some.inj h
   have h:=hk6
   exact⟨_,ra [(0,0),(15,0),(3,0)],true,h,rfl⟩
  ·refine sr fun _ k9=>rP bi<|rP Y<|en k9<|wi 25 h (fun c10 h=>?_) fun c10 h=>?_
   ·refine aq ?_
    obtain rfl:=Option.some.inj h
    have h:=hk6
    exact⟨_,ra [(0,0),(15,0),(3,0)],true,h,rfl⟩
   ·refine aB<|rP bi<|rP Y<|aM<|?_
    obtain rfl:=Option.some.inj h
    have h:=hk6
    exact⟨_,ra [(0,0),(15,0),(3,0)],(a1.Kind == 3),h,rfl⟩
 ·rintro s ⟨fu,h,rfl⟩
  refine wi 25 h (fun c11 h=>?_) fun c11 h=>?_
  ·refine sr fun _ k12=>rP mv<|rP (fa ar br)<|rX (ld br)<|rP (zl br)<|rD (bs (List.map cH [(List.length a1.Kids:Int)]) da ae rfl)<|bE h fun x13 y13 h=>rD (db (d:=33) (n:=0) W_ (cG [(0,0)] [(15,0)] [(33,0)] (eX (aE.mk (a0.B++[(u8 (IntKind.u8.wrap a1.Kind))])) [(List.length a1.Kids:Int)] y13) eW (.inl ⟨⟨_,_,_,rfl⟩,trivial⟩)))<|en k12<|sr fun _ k14=>rP (fa ar br)<|rX (ld br)<|rP (zl br)<|rP mv<|en k14<|ax<|bv (fun m s=>∃(dj:List UInt8),∃(lg:Int),am (fun(s:List UInt8×Int)=>sK K a1 s.1 s.2) m (dj,lg)=some r∧s=lit [(0,.ptr 0 0 0),(36,.sl 5 (List.map aj a1.Kids)),(37,.int .i64 (List.length a1.Kids:Int)),(38,.int .i64 lg)] [((0,0),.box [.own 34 0]),((34,0),.arr 5 1 false (List.map ag dj))] [(0,1),(34,1)] X) Fu
    ⟨_,ra [(0,0),(34,0)],x13.B,0,h,rfl⟩ ?_
   rintro m s ⟨dj,lg,h,rfl⟩
   obtain⟨m1,q15,rfl,h,hq16⟩:=bu h
   replace h:sK K a1 dj lg=some q15:=h
   refine sr fun _ k17=>rP bi<|en k17<|ai fun _ k18=>wi 39 h (fun c19 h=>?_) fun c19 h=>?_
   ·refine aq<|k18 _<|ai fun _ k20=>ax<|sr fun _ k21=>gE h fun g22 h=>bE h fun x23 y23 h=>rP (i1 (el:=.agg [.int .i64 x23.Kind,.int .i64 x23.N,.str x23.Key,.str x23.Value,.sl 5 (List.map aj x23.Kids)]) W_ W_ br ar g22 (by exact kB (iI _) y23))<|pl 41 (.agg [.int .i64 x23.Kind,.int .i64 x23.N,.str x23.Key,.str x23.Value,.sl 5 (List.map aj x23.Kids)]) ar<|rD (nw ar)<|pZ (aA [.int .i64 x23.Kind,.int .i64 x23.N,.str x23.Key,.str x23.Value,.sl 5 (List.map aj x23.Kids)] ar)<|en k21<|aB<|rP mv<|pl 43 (.agg [.int .i64 x23.Kind,.int .i64 x23.N,.str x23.Key,.str x23.Value,.sl 5 (List.map aj x23.Kids)]) ar<|bE h fun x24 y24 h=>rD (cG [(0,0)] [(34,0)] [] (hK (aE.mk dj) x23 y24) FO (.inl trivial))<|en k20<|aB<|rP bi<|rP mv<|aM<|bk (ra [(0,0),(44,0)]) ⟨x24.B,(IntKind.i64.wrap (lg+1)),aI h hq16,rfl⟩
   ·refine bc<|by cases ah h hq16;exact rB [(34,0)]
  ·refine sr fun _ k25=>rP bi<|rP Y<|en k25<|wi 46 h (fun c26 h=>?_) fun c26 h=>?_
   ·refine aB<|rP mv<|rP (fa ar ap)<|rX (ld ap)<|rP (fa ar ap)<|rX (ld ap)<|rD (bs (List.map mL [a1.Key,a1.Value]) mM ap rfl)<|bE h fun x27 y27 h=>rD (db (d:=53) (n:=0) W_ (cG [(0,0)] [(15,0)] [(53,0)] (qa (aE.mk (a0.B++[(u8 (IntKind.u8.wrap a1.Kind))])) [a1.Key,a1.Value] y27) qh (.inl ⟨⟨_,_,_,rfl⟩,trivial⟩)))<|aM<|by cases h;exact rB [(54,0)]
   ·refine sr fun _ k28=>rP bi<|rP Y<|en k28<|wi 55 h (fun c29 h=>?_) fun c29 h=>?_
    ·refine aq<|by cases h;exact rB [(15,0)]
    ·refine aB<|rP mv<|rP (fa ar ae)<|rX (ld ae)<|rD (bs (List.map cH [a1.N]) da ae rfl)<|bE h fun x30 y30 h=>rD (db (d:=23) (n:=0) W_ (cG [(0,0)] [(15,0)] [(23,0)] (eX (aE.mk (a0.B++[(u8 (IntKind.u8.wrap a1.Kind))])) [a1.N] y30) eW (.inl ⟨⟨_,_,_,rfl⟩,trivial⟩)))<|aM<|by cases h;exact rB [(24,0)]
def nX:Nat→aE→af→Option aE
 | 0,_,_=>none
 | n+1,a0,a1=>zO (nX n) a0 a1
theorem FQ:∀(n:Nat) (a0:aE) (a1:af) {r:aE},nX n a0 a1=some r→Ok Tryz.prog 85 [.ptr 0 0 0,.agg [.int .i64 a1.Kind,.int .i64 a1.N,.str a1.Key,.str a1.Value,.sl 5 (List.map aj a1.Kids)]] [[.own 1 0]] [(5,1,List.map ag a0.B)] (.tup []) [[.own 2 0]] [(5,1,List.map ag r.B)]
 | 0,_,_,_,h=>by simp[nX]at h
 | n+1,a0,a1,_,h=>M1 (nX n) (FQ n) a0 a1 h
def zP (a0:aE) (a1:af):Option aE:=nX Fu a0 a1
theorem M3 (a0:aE) (a1:af) {r:aE} (h:zP a0 a1=some r):Ok Tryz.prog 85 [.ptr 0 0 0,.agg [.int .i64 a1.Kind,.int .i64 a1.N,.str a1.Key,.str a1.Value,.sl 5 (List.map aj a1.Kids)]] [[.own 1 0]] [(5,1,List.map ag a0.B)] (.tup []) [[.own 2 0]] [(5,1,List.map ag r.B)]:=FQ Fu a0 a1 h
def wd (a0:af):Option (List UInt8):=
 Option.bind (pN a0) (fun(x4:Bool)=>if(!x4)=true then(some [])else(Option.bind (zP (aE.mk []) a0) (fun(x9:aE)=>some x9.B)))
theorem M4 (a0:af) {r:List UInt8} (h:wd a0=some r):Ok Tryz.prog 27 [.agg [.int .i64 a0.Kind,.int .i64 a0.N,.str a0.Key,.str a0.Value,.sl 5 (List.map aj a0.Kids)]] [] [] (.own 2 0) [] [(5,1,List.map ag r)]:=by
 refine oK Tryz.func27 rfl fun X=>sr fun _ k1=>rD (bY W_ rfl rfl)<|rP Y<|en k1<|ai fun _ k2=>sr fun _ k3=>pl 4 (.agg [.int .i64 a0.Kind,.int .i64 a0.N,.str a0.Key,.str a0.Value,.sl 5 (List.map aj a0.Kids)]) ar<|bE h fun x4 y4 h=>rD (cZ (zE a0 y4) zM)<|rP un<|en k3<|wi 6 h (fun c5 h=>?_) fun c5 h=>?_
 ·refine sr fun _ k6=>rP Y<|en k6<|eZ 2 5 1 W_ D_ D_<|ac<|by cases h;exact rB [(2,0)]
 ·refine aq<|k2 _<|sr fun _ k7=>rP (cP (cs:=[.nil]) il rfl [⟨.slice 5,1,24,[.nil]⟩] (by simp only[List.map,aH]) (by rfl) R_)<|rD (bY W_ rfl rfl)<|rP Y<|en k7<|ai fun _ k8=>iY 8 0 0 8 5 1 (cs:=[.nil]) R_ rfl D_<|aB<|rP mv<|pl 10 (.agg [.int .i64 a0.Kind,.int .i64 a0.N,.str a0.Key,.str a0.Value,.sl 5 (List.map aj a0.Kids)]) ar<|bE h fun x9 y9 h=>rD (cG [(8,0)] [(8,1)] [] (M3 (aE.mk []) a0 y9) FO (.inl trivial))<|en k8<|sr fun _ k10=>rP mv<|rP nk<|rP (fa il aH)<|rX (ld aH)<|rP Y<|en k10<|ac<|by cases h;exact rB [(11,0)]
def iJ (K:Z→Int→Option (af×Z)) (a1:Int) (x5:Int×Z) (aW:List UInt8) (aX:Bool) (bB:List af) (aS:Int):Option ((List UInt8×Bool×List af×Int)⊕(List af×Z)):=
 if(decide (aS<x5.1))=true then(if aX=true then(some (Sum.inr (bB,(Z.mk aW aX))))else(Option.bind (K (Z.mk aW aX) (IntKind.i64.wrap (a1-1))) (fun(x16:af×Z)=>gd ((List.length (bB++[x16.1]))*72≤140737488355328∧(List.length (bB++[x16.1]))≤140737488355328) (some (Sum.inl (x16.2.B,x16.2.Bad,(bB++[x16.1]),(IntKind.i64.wrap (aS+1))))))))else(some (Sum.inr (bB,(Z.mk aW aX))))
def zQ (K:Z→Int→Option (af×Z)) (a0:Z) (a1:Int):Option (List af×Z):=
 Option.bind (cE a0 20) (fun(x5:Int×Z)=>am (fun(s:List UInt8×Bool×List af×Int)=>iJ K a1 x5 s.1 s.2.1 s.2.2.1 s.2.2.2) Fu (x5.2.B,x5.2.Bad,[],0))
theorem M5 (K:Z→Int→Option (af×Z)) (hK:∀(a0:Z) (a1:Int) {r:af×Z},K a0 a1=some r→Ok Tryz.prog 148 [.ptr 0 0 0,.int .i64 a1] [[.sl 1 (List.map ag a0.B),.bool a0.Bad]] [] (.agg [.int .i64 r.1.Kind,.int .i64 r.1.N,.str r.1.Key,.str r.1.Value,.sl 5 (List.map aj r.1.Kids)]) [[.sl 1 (List.map ag r.2.B),.bool r.2.Bad]] []) (a0:Z) (a1:Int) {r:List af×Z} (h:zQ K a0 a1=some r):Ok Tryz.prog 168 [.ptr 0 0 0,.int .i64 a1] [[.sl 1 (List.map ag a0.B),.bool a0.Bad]] [] (.own 2 0) [[.sl 1 (List.map ag r.2.B),.bool r.2.Bad]] [(24,5,List.map aj r.1)]:=by
 refine oK Tryz.func168 rfl fun X=>sr fun _ k1=>rP Y<|en k1<|sr fun _ k2=>rP Y<|en k2<|ai fun _ k3=>sr fun _ k4=>rP mv<|bE h fun x5 y5 h=>rD (cG [(0,0)] [] [] (eL a0 20 y5) eK (.inl trivial))<|rP mv<|en k4<|ax<|eZ 5 24 5 W_ D_ D_<|bv (fun m s=>∃(aW:List UInt8),∃(aX:Bool),∃(bB:List af),∃(aS:Int),am (fun(s:List UInt8×Bool×List af×Int)=>iJ K a1 x5 s.1 s.2.1 s.2.2.1 s.2.2.2) m (aW,aX,bB,aS)=some r∧s=lit [(0,.ptr 0 0 0),(1,.int .i64 a1),(5,.own 5 0),(7,.int .i64 x5.1),(8,.int .i64 aS)] [((0,0),.box [.sl 1 (List.map ag aW),.bool aX]),((5,0),.arr 24 5 false (List.map aj bB))] [(0,1),(5,1)] X) Fu
  ⟨_,ra [(0,0),(5,0)],x5.2.B,x5.2.Bad,[],0,h,rfl⟩ ?_
 rintro m s ⟨aW,aX,bB,aS,h,rfl⟩
 obtain⟨m0,q6,rfl,h,hq7⟩:=bu h
 replace h:iJ K a1 x5 aW aX bB aS=some q6:=h
 refine sr fun _ k8=>rP bi<|en k8<|ai fun _ k9=>wi 9 h (fun c10 h=>?_) fun c10 h=>?_
 ·refine aq<|k9 _<|ai fun _ k11=>ax<|ai fun _ k12=>sr fun _ k13=>rP mv<|rP nk<|rP (fa cQ aN)<|rX (ld aN)<|en k13<|wi 13 h (fun c14 h=>?_) fun c14 h=>?_
  ·refine bc<|tk (ah h hq7) fun h=>k3 _<|sr fun _ k15=>rP mv<|rP Y<|en k15<|ac<|by cases h;exact rB [(5,0)]
  ·refine aq<|k12 _<|aB<|rP mv<|rP mv<|rP mv<|rP bi<|bE h fun x16 y16 h=>rD (cG [(0,0)] [] [] (hK (Z.mk aW aX) (IntKind.i64.wrap (a1-1)) y16) FP (.inl trivial))<|rD (CC (f:=aj) (ls:=[x16.1]) (xs:=[.agg [.int .i64 x16.1.Kind,.int .i64 x16.1.N,.str x16.1.Key,.str x16.1.Value,.sl 5 (List.map aj x16.1.Kids)]]) (CB (iI _) rfl) br ar rfl rfl rfl rfl rfl rfl rfl rfl)<|gE h fun g17 h=>rD (dw (v:=List.map aj (bB++[x16.1])) W_ W_ br ar rfl rfl W_ (by first | exact .inl rfl | exact .inr ⟨rfl,rfl⟩) W_ (by first | exact .inr rfl | exact .inl rfl) (dL _ _) (dv g17))<|rP Y<|en k11<|aB<|rP bi<|rP mv<|aM<|bk (ra [(0,0),(20,0)]) ⟨x16.2.B,x16.2.Bad,(bB++[x16.1]),(IntKind.i64.wrap (aS+1)),aI h hq7,rfl⟩
 ·refine bc<|tk (ah h hq7) fun h=>k3 _<|sr fun _ k18=>rP mv<|rP Y<|en k18<|ac<|by cases h;exact rB [(5,0)]
def zR (x4:List UInt8×Z) (t7:Bool):Option (Unit⊕(af×Z)):=
 if t7=true then(some (Sum.inr ((af.mk 0 0 (aa []) (aa []) []),(Z.mk x4.2.B true))))else(some (Sum.inl ()))
def we (K:Z→Int→Option (af×Z)) (a1:Int) (x4:List UInt8×Z) (x14:UInt8) (t8:Bool):Option (af×Z):=
 if t8=true then(Option.bind (zQ K x4.2 a1) (fun(x21:List af×Z)=>some ((af.mk (IntKind.i64.wrap (x14.toNat:Int)) 0 (aa []) (aa []) x21.1),x21.2)))else(if((IntKind.i64.wrap (x14.toNat:Int)) == 6)=true then(Option.bind (ew x4.2) (fun(x26:ByteArray×Z)=>Option.bind (ew x26.2) (fun(x27:ByteArray×Z)=>some ((af.mk (IntKind.i64.wrap (x14.toNat:Int)) 0 x26.1 x27.1 []),x27.2))))else(if((IntKind.i64.wrap (x14.toNat:Int)) == 5)=true then(some ((af.mk (IntKind.i64.wrap (x14.toNat:Int)) 0 (aa []) (aa []) []),x4.2))else(Option.bind (pL (IntKind.i64.wrap (x14.toNat:Int))) (fun(x33:Int)=>if(decide (x33<0))=true then(some ((af.mk (IntKind.i64.wrap (x14.toNat:Int)) 0 (aa []) (aa []) []),(Z.mk x4.2.B true)))else(Option.bind (pL (IntKind.i64.wrap (x14.toNat:Int))) (fun(x36:Int)=>Option.bind (cE x4.2 x36) (fun(x37:Int×Z)=>some ((af.mk (IntKind.i64.wrap (x14.toNat:Int)) x37.1 (aa []) (aa []) []),x37.2))))))))
def zS (K:Z→Int→Option (af×Z)) (a1:Int) (x4:List UInt8×Z):Option (af×Z):=
 Option.bind (x4.1[0]?) (fun(x14:UInt8)=>Option.bind (if((IntKind.i64.wrap (x14.toNat:Int)) == 1)=true then(some true)else(if((IntKind.i64.wrap (x14.toNat:Int)) == 2)=true then(some true)else(some ((IntKind.i64.wrap (x14.toNat:Int)) == 3)))) (fun(s:Bool)=>we K a1 x4 x14 s))
def pQ (K:Z→Int→Option (af×Z)) (a0:Z) (a1:Int):Option (af×Z):=
 Option.bind (gu a0 1) (fun(x4:List UInt8×Z)=>Option.bind (Option.bind (if(decide (a1<1))=true then(some true)else(some ((List.length x4.1:Int) == 0))) (fun(s:Bool)=>zR x4 s)) (Sum.elim (fun(s:Unit)=>zS K a1 x4) some))
theorem M6 (K:Z→Int→Option (af×Z)) (hK:∀(a0:Z) (a1:Int) {r:af×Z},K a0 a1=some r→Ok Tryz.prog 148 [.ptr 0 0 0,.int .i64 a1] [[.sl 1 (List.map ag a0.B),.bool a0.Bad]] [] (.agg [.int .i64 r.1.Kind,.int .i64 r.1.N,.str r.1.Key,.str r.1.Value,.sl 5 (List.map aj r.1.Kids)]) [[.sl 1 (List.map ag r.2.B),.bool r.2.Bad]] []) (a0:Z) (a1:Int) {r:af×Z} (h:pQ K a0 a1=some r):Ok Tryz.prog 148 [.ptr 0 0 0,.int .i64 a1] [[.sl 1 (List.map ag a0.B),.bool a0.Bad]] [] (.agg [.int .i64 r.1.Kind,.int .i64 r.1.N,.str r.1.Key,.str r.1.Value,.sl 5 (List.map aj r.1.Kids)]) [[.sl 1 (List.map ag r.2.B),.bool r.2.Bad]] []:=by
 refine oK Tryz.func148 rfl fun X=>sr fun _ k1=>rD (nw ar)<|en k1<|sr fun _ k2=>rD (nw ar)<|en k2<|sr fun _ k3=>rP mv<|bE h fun x4 y4 h=>rD (cG [(0,0)] [] [] (Ae a0 1 y4) z8 (.inl trivial))<|rP Y<|en k3<|bE h fun q5 h hk6=>bx (fun s=>zS K a1 x4=some r∧s=lit [(0,.ptr 0 0 0),(1,.int .i64 a1),(4,.ptr 4 0 0),(5,.ptr 5 0 0),(6,.sl 1 (List.map ag x4.1))] [((0,0),.box [.sl 1 (List.map ag x4.2.B),.bool x4.2.Bad]),((4,0),.box [.int .i64 0,.int .i64 0,.str (aa []),.str (aa []),.nil]),((5,0),.box [.int .i64 0,.int .i64 0,.str (aa []),.str (aa []),.nil])] [(0,1),(4,1),(5,1)] X) ?_ ?_
 ·skip
  refine bE h fun q7 h hk8=>bx (fun s=>∃(t7:Bool),zR x4 t7=some q5∧s=lit [(0,.ptr 0 0 0),(1,.int .i64 a1),(4,.ptr 4 0 0),(5,.ptr 5 0 0),(6,.sl 1 (List.map ag x4.1)),(15,.bool t7)] [((0,0),.box [.sl 1 (List.map ag x4.2.B),.bool x4.2.Bad]),((4,0),.box [.int .i64 0,.int .i64 0,.str (aa []),.str (aa []),.nil]),((5,0),.box [.int .i64 0,.int .i64 0,.str (aa []),.str (aa []),.nil])] [(0,1),(4,1),(5,1)] X) ?_ ?_
  ·skip
   refine aB<|rP mv<|rP bi<|rP mv<|li 11 h (fun c9 h=>?_) fun c9 h=>?_
   ·refine rS<|rS<|rS<|rP pc<|aM<|?_
    obtain rfl:=Option.some.inj h
    have h:=hk8
    exact⟨_,ra [(0,0),(4,0),(5,0)],true,h,rfl⟩
   ·refine rP mv<|rP (zl aH)<|rP bi<|rP pc<|aM<|?_
    obtain rfl:=Option.some.inj h
    have h:=hk8
    exact⟨_,ra [(0,0),(4,0),(5,0)],((List.length x4.1:Int) == 0),h,rfl⟩
  ·rintro s ⟨t7,h,rfl⟩
   refine wi 15 h (fun c10 h=>?_) fun c10 h=>?_
   ·refine sr fun _ k11=>rP mv<|rP nk<|rP (fa cQ aN)<|pZ (aA [.sl 1 (List.map ag x4.2.B),.bool true] aN)<|en k11<|sr fun _ k12=>pl 19 (.agg [.int .i64 0,.int .i64 0,.str (aa []),.str (aa []),.nil]) ar<|pZ (aA [.int .i64 0,.int .i64 0,.str (aa []),.str (aa []),.nil] ar)<|en k12<|de (dy (tl':=[(4,.ptr 4 0 0)]) (ol':=[((0,0),.box [.sl 1 (List.map ag x4.2.B),.bool true]),((4,0),.box [.int .i64 0,.int .i64 0,.str (aa []),.str (aa []),.sl 5 (List.map aj [])])]) (ra (tl:=[(4,.ptr 4 0 0)]) (ol:=[((0,0),.box [.sl 1 (List.map ag x4.2.B),.bool true]),((4,0),.box [.int .i64 0,.int .i64 0,.str (aa []),.str (aa []),.nil])]) (nx:=[(0,1),(4,1)]) [(0,0),(4,0)]) ⟨rfl,ao _,trivial⟩ ⟨rfl,.rfl _,rfl,(.box ⟨ao _,ao _,ao _,ao _,ba _,trivial⟩),trivial⟩)<|ac<|by cases ah h hk6;exact rB []
   ·refine aq<|tk (aI h hk6) fun h=>?_
    exact⟨_,ra [(0,0),(4,0),(5,0)],h,rfl⟩
 ·rintro s ⟨h,rfl⟩
  refine sr fun _ k13=>rP mv<|bE h fun x14 y14 h=>rP (ja aH bG y14)<|rX (ld bG)<|rP (cK (v:=.int .i64 (IntKind.i64.wrap (x14.toNat:Int))) W_ (cL bG) (cB ae) rfl)<|rP (fa ar ae)<|pZ (aA [.int .i64 (IntKind.i64.wrap (x14.toNat:Int)),.int .i64 0,.str (aa []),.str (aa []),.nil] ae)<|en k13<|ai fun _ k15=>ax<|bE h fun q16 h hk17=>bx (fun s=>∃(t8:Bool),we K a1 x4 x14 t8=some r∧s=lit [(0,.ptr 0 0 0),(1,.int .i64 a1),(4,.ptr 4 0 0),(5,.ptr 5 0 0),(31,.bool t8)] [((0,0),.box [.sl 1 (List.map ag x4.2.B),.bool x4.2.Bad]),((4,0),.box [.int .i64 0,.int .i64 0,.str (aa []),.str (aa []),.nil]),((5,0),.box [.int .i64 (IntKind.i64.wrap (x14.toNat:Int)),.int .i64 0,.str (aa []),.str (aa []),.nil])] [(0,1),(4,1),(5,1)] X) ?_ ?_
  ·skip
   refine aB<|rP (fa ar ae)<|rX (ld ae)<|rP bi<|rP mv<|li 35 h (fun c18 h=>?_) fun c18 h=>?_
   ·refine rS<|rS<|rS<|rP pc<|rP mv<|rS<|rS<|rS<|rP pc<|rP Y<|aM<|?_
    obtain rfl:=Option.some.inj h
    have h:=hk17
    exact⟨_,ra [(0,0),(4,0),(5,0)],true,h,rfl⟩
   ·refine rP (fa ar ae)<|rX (ld ae)<|rP bi<|rP pc<|rP mv<|li 40 h (fun c19 h=>?_) fun c19 h=>?_
    ·refine rS<|rS<|rS<|rP pc<|rP Y<|aM<|?_
     obtain rfl:=Option.some.inj h
     have h:=hk17
     exact⟨_,ra [(0,0),(4,0),(5,0)],true,h,rfl⟩
    ·refine rP (fa ar ae)<|rX (ld ae)<|rP bi<|rP pc<|rP Y<|aM<|?_
     obtain rfl:=Option.some.inj h
     have h:=hk17
     exact⟨_,ra [(0,0),(4,0),(5,0)],((IntKind.i64.wrap (x14.toNat:Int)) == 3),h,rfl⟩
  ·rintro s ⟨t8,h,rfl⟩
   refine wi 31 h (fun c20 h=>?_) fun c20 h=>?_
   ·refine aB<|rP mv<|rP mv<|bE h fun x21 y21 h=>rD (cG [(0,0)] [] [] (M5 K hK x4.2 a1 y21) M0 (.inl trivial))<|rP (fa ar br)<|pZ (aA [.int .i64 (IntKind.i64.wrap (x14.toNat:Int)),.int .i64 0,.str (aa []),.str (aa []),.own 47 0] br)<|en k15<|sr fun _ k22=>pl 71 (.agg [.int .i64 (IntKind.i64.wrap (x14.toNat:Int)),.int .i64 0,.str (aa []),.str (aa []),.own 47 0]) ar<|pZ (aA [.int .i64 (IntKind.i64.wrap (x14.toNat:Int)),.int .i64 0,.str (aa []),.str (aa []),.own 47 0] ar)<|en k22<|ac<|by cases h;exact rB []
   ·refine sr fun _ k23=>rP (fa ar ae)<|rX (ld ae)<|rP bi<|rP Y<|en k23<|wi 49 h (fun c24 h=>?_) fun c24 h=>?_
    ·refine sr fun _ k25=>rP mv<|bE h fun x26 y26 h=>rD (cG [(0,0)] [] [] (jh x4.2 y26) jn (.inl trivial))<|rP (fa ar ap)<|pZ (aA [.int .i64 (IntKind.i64.wrap (x14.toNat:Int)),.int .i64 0,.str x26.1,.str (aa []),.nil] ap)<|en k25<|aB<|rP mv<|bE h fun x27 y27 h=>rD (cG [(0,0)] [] [] (jh x26.2 y27) jn (.inl trivial))<|rP (fa ar ap)<|pZ (aA [.int .i64 (IntKind.i64.wrap (x14.toNat:Int)),.int .i64 0,.str x26.1,.str x27.1,.nil] ap)<|en k15<|sr fun _ k28=>pl 71 (.agg [.int .i64 (IntKind.i64.wrap (x14.toNat:Int)),.int .i64 0,.str x26.1,.str x27.1,.nil]) ar<|pZ (aA [.int .i64 (IntKind.i64.wrap (x14.toNat:Int)),.int .i64 0,.str x26.1,.str x27.1,.nil] ar)<|en k28<|de (dy (tl':=[(4,.ptr 4 0 0)]) (ol':=[((0,0),.box [.sl 1 (List.map ag x27.2.B),.bool x27.2.Bad]),((4,0),.box [.int .i64 (IntKind.i64.wrap (x14.toNat:Int)),.int .i64 0,.str x26.1,.str x27.1,.sl 5 (List.map aj [])])]) (ra (tl:=[(4,.ptr 4 0 0)]) (ol:=[((0,0),.box [.sl 1 (List.map ag x27.2.B),.bool x27.2.Bad]),((4,0),.box [.int .i64 (IntKind.i64.wrap (x14.toNat:Int)),.int .i64 0,.str x26.1,.str x27.1,.nil])]) (nx:=[(0,1),(4,1)]) [(0,0),(4,0)]) ⟨rfl,ao _,trivial⟩ ⟨rfl,.rfl _,rfl,(.box ⟨ao _,ao _,ao _,ao _,ba _,trivial⟩),trivial⟩)<|ac<|by cases h;exact rB []
    ·refine sr fun _ k29=>rP (fa ar ae)<|rX (ld ae)<|rP bi<|rP Y<|en k29<|wi 59 h (fun c30 h=>?_) fun c30 h=>?_
     ·refine aq<|k15 _<|sr fun _ k31=>pl 71 (.agg [.int .i64 (IntKind.i64.wrap (x14.toNat:Int)),.int .i64 0,.str (aa []),.str (aa []),.nil]) ar<|pZ (aA [.int .i64 (IntKind.i64.wrap (x14.toNat:Int)),.int .i64 0,.str (aa []),.str (aa []),.nil] ar)<|en k31<|de (dy (tl':=[(4,.ptr 4 0 0)]) (ol':=[((0,0),.box [.sl 1 (List.map ag x4.2.B),.bool x4.2.Bad]),((4,0),.box [.int .i64 (IntKind.i64.wrap (x14.toNat:Int)),.int .i64 0,.str (aa []),.str (aa []),.sl 5 (List.map aj [])])]) (ra (tl:=[(4,.ptr 4 0 0)]) (ol:=[((0,0),.box [.sl 1 (List.map ag x4.2.B),.bool x4.2.Bad]),((4,0),.box [.int .i64 (IntKind.i64.wrap (x14.toNat:Int)),.int .i64 0,.str (aa []),.str (aa []),.nil])]) (nx:=[(0,1),(4,1)]) [(0,0),(4,0)]) ⟨rfl,ao _,trivial⟩ ⟨rfl,.rfl _,rfl,(.box ⟨ao _,ao _,ao _,ao _,ba _,trivial⟩),trivial⟩)<|ac<|by cases h;exact rB []
     ·refine sr fun _ k32=>rP (fa ar ae)<|rX (ld ae)<|bE h fun x33 y33 h=>rD (cZ (zB (IntKind.i64.wrap (x14.toNat:Int)) y33) zy)<|rP bi<|rP Y<|en k32<|wi 63 h (fun c34 h=>?_) fun c34 h=>?_
      ·refine aB<|rP mv<|rP nk<|rP (fa cQ aN)<|pZ (aA [.sl 1 (List.map ag x4.2.B),.bool true] aN)<|en k15<|sr fun _ k35=>pl 71 (.agg [.int .i64 (IntKind.i64.wrap (x14.toNat:Int)),.int .i64 0,.str (aa []),.str (aa []),.nil]) ar<|pZ (aA [.int .i64 (IntKind.i64.wrap (x14.toNat:Int)),.int .i64 0,.str (aa []),.str (aa []),.nil] ar)<|en k35<|de (dy (tl':=[(4,.ptr 4 0 0)]) (ol':=[((0,0),.box [.sl 1 (List.map ag x4.2.B),.bool true]),((4,0),.box [.int .i64 (IntKind.i64.wrap (x14.toNat:Int)),.int .i64 0,.str (aa []),.str (aa []),.sl 5 (List.map aj [])])]) (ra (tl:=[(4,.ptr 4 0 0)]) (ol:=[((0,0),.box [.sl 1 (List.map ag x4.2.B),.bool true]),((4,0),.box [.int .i64 (IntKind.i64.wrap (x14.toNat:Int)),.int .i64 0,.str (aa []),.str (aa []),.nil])]) (nx:=[(0,1),(4,1)]) [(0,0),(4,0)]) ⟨rfl,ao _,trivial⟩ ⟨rfl,.rfl _,rfl,(.box ⟨ao _,ao _,ao _,ao _,ba _,trivial⟩),trivial⟩)<|ac<|by cases h;exact rB []
      ·refine aB<|rP mv<|rP (fa ar ae)<|rX (ld ae)<|bE h fun x36 y36 h=>rD (cZ (zB (IntKind.i64.wrap (x14.toNat:Int)) y36) zy)<|bE h fun x37 y37 h=>rD (cG [(0,0)] [] [] (eL x4.2 x36 y37) eK (.inl trivial))<|rP (fa ar ae)<|pZ (aA [.int .i64 (IntKind.i64.wrap (x14.toNat:Int)),.int .i64 x37.1,.str (aa []),.str (aa []),.nil] ae)<|en k15<|sr fun _ k38=>pl 71 (.agg [.int .i64 (IntKind.i64.wrap (x14.toNat:Int)),.int .i64 x37.1,.str (aa []),.str (aa []),.nil]) ar<|pZ (aA [.int .i64 (IntKind.i64.wrap (x14.toNat:Int)),.int .i64 x37.1,.str (aa []),.str (aa []),.nil] ar)<|en k38<|de (dy (tl':=[(4,.ptr 4 0 0)]) (ol':=[((0,0),.box [.sl 1 (List.map ag x37.2.B),.bool x37.2.Bad]),((4,0),.box [.int .i64 (IntKind.i64.wrap (x14.toNat:Int)),.int .i64 x37.1,.str (aa []),.str (aa []),.sl 5 (List.map aj [])])]) (ra (tl:=[(4,.ptr 4 0 0)]) (ol:=[((0,0),.box [.sl 1 (List.map ag x37.2.B),.bool x37.2.Bad]),((4,0),.box [.int .i64 (IntKind.i64.wrap (x14.toNat:Int)),.int .i64 x37.1,.str (aa []),.str (aa []),.nil])]) (nx:=[(0,1),(4,1)]) [(0,0),(4,0)]) ⟨rfl,ao _,trivial⟩ ⟨rfl,.rfl _,rfl,(.box ⟨ao _,ao _,ao _,ao _,ba _,trivial⟩),trivial⟩)<|ac<|by cases h;exact rB []
def j8:Nat→Z→Int→Option (af×Z)
 | 0,_,_=>none
 | n+1,a0,a1=>pQ (j8 n) a0 a1
theorem FR:∀(n:Nat) (a0:Z) (a1:Int) {r:af×Z},j8 n a0 a1=some r→Ok Tryz.prog 148 [.ptr 0 0 0,.int .i64 a1] [[.sl 1 (List.map ag a0.B),.bool a0.Bad]] [] (.agg [.int .i64 r.1.Kind,.int .i64 r.1.N,.str r.1.Key,.str r.1.Value,.sl 5 (List.map aj r.1.Kids)]) [[.sl 1 (List.map ag r.2.B),.bool r.2.Bad]] []
 | 0,_,_,_,h=>by simp[j8]at h
 | n+1,a0,a1,_,h=>M6 (j8 n) (FR n) a0 a1 h
def FS (a0:Z) (a1:Int):Option (af×Z):=j8 Fu a0 a1
theorem M7 (a0:Z) (a1:Int) {r:af×Z} (h:FS a0 a1=some r):Ok Tryz.prog 148 [.ptr 0 0 0,.int .i64 a1] [[.sl 1 (List.map ag a0.B),.bool a0.Bad]] [] (.agg [.int .i64 r.1.Kind,.int .i64 r.1.N,.str r.1.Key,.str r.1.Value,.sl 5 (List.map aj r.1.Kids)]) [[.sl 1 (List.map ag r.2.B),.bool r.2.Bad]] []:=FR Fu a0 a1 h
def nY (a0:List UInt8):Option (af×Int):=
 Option.bind (FS (Z.mk a0 false) 5) (fun(x4:af×Z)=>if x4.2.Bad=true then(some ((af.mk 0 0 (aa []) (aa []) []),2))else(if(decide ((0:Int)<(List.length x4.2.B:Int)))=true then(some ((af.mk 0 0 (aa []) (aa []) []),2))else(Option.bind (pN x4.1) (fun(x11:Bool)=>if(!x11)=true then(some ((af.mk 0 0 (aa []) (aa []) []),2))else(some (x4.1,0))))))
theorem M8 (a0:List UInt8) {r:af×Int} (h:nY a0=some r):Ok Tryz.prog 92 [.sl 1 (List.map ag a0)] [] [] (.tup [.agg [.int .i64 r.1.Kind,.int .i64 r.1.N,.str r.1.Key,.str r.1.Value,.sl 5 (List.map aj r.1.Kids)],.int .i64 r.2]) [] []:=by
 refine oK Tryz.func92 rfl fun X=>sr fun _ k1=>rD (nw ar)<|rP Y<|en k1<|sr fun _ k2=>rP mv<|rP (cP (cs:=[.sl 1 (List.map ag a0),.bool false]) cQ rfl [⟨.slice 5,1,24,[.nil]⟩,⟨.bool,1,1,[.bool false]⟩] (by simp only[List.map,aH,aN]) (by rfl) R_)<|rD (bY W_ rfl rfl)<|rP Y<|en k2<|sr fun _ k3=>rP mv<|bE h fun x4 y4 h=>rD (cG [(8,0)] [] [] (M7 (Z.mk a0 false) 5 y4) FP (.inl trivial))<|rD (nw ar)<|pZ (aA [.int .i64 x4.1.Kind,.int .i64 x4.1.N,.str x4.1.Key,.str x4.1.Value,.sl 5 (List.map aj x4.1.Kids)] ar)<|en k3<|ai fun _ k5=>sr fun _ k6=>rP mv<|rP nk<|rP (fa cQ aN)<|rX (ld aN)<|rP mv<|li 15 h (fun c7 h=>?_) fun c7 h=>?_
 ·refine rS<|rS<|rS<|rS<|rS<|rS<|rP pc<|rP mv<|rS<|rS<|rS<|rP pc<|en k6<|bM D_ rfl<|sr fun _ k8=>rP (cP (cs:=[.int .i64 0,.int .i64 0,.str (aa []),.str (aa []),.nil]) ar rfl [⟨.int .i64,1,8,[.int .i64 0]⟩,⟨.int .i64,1,8,[.int .i64 0]⟩,⟨.str,1,16,[.str ByteArray.empty]⟩,⟨.str,1,16,[.str ByteArray.empty]⟩,⟨.slice 24,1,24,[.nil]⟩] (by simp only[List.map,br,ae,ap]) (by rfl) R_)<|pZ (aA [.int .i64 0,.int .i64 0,.str (aa []),.str (aa []),.nil] ar)<|rP Y<|en k8<|de (dy (tl':=[(2,.ptr 2 0 0),(3,.int .i64 2)]) (ol':=[((2,0),.box [.int .i64 0,.int .i64 0,.str (aa []),.str (aa []),.sl 5 (List.map aj [])])]) (ra (tl:=[(2,.ptr 2 0 0),(3,.int .i64 2)]) (ol:=[((2,0),.box [.int .i64 0,.int .i64 0,.str (aa []),.str (aa []),.nil])]) (nx:=[(2,1)]) [(2,0)]) ⟨rfl,ao _,rfl,ao _,trivial⟩ ⟨rfl,(.box ⟨ao _,ao _,ao _,ao _,ba _,trivial⟩),trivial⟩)<|ac<|by cases h;exact rk
 ·refine rP mv<|rP nk<|rP (fa cQ aH)<|rX (ld aH)<|rP (zl aH)<|rP bi<|rP pc<|rP mv<|li 23 h (fun c9 h=>?_) fun c9 h=>?_
  ·refine rS<|rS<|rS<|rP pc<|en k6<|bM D_ rfl<|sr fun _ k10=>rP (cP (cs:=[.int .i64 0,.int .i64 0,.str (aa []),.str (aa []),.nil]) ar rfl [⟨.int .i64,1,8,[.int .i64 0]⟩,⟨.int .i64,1,8,[.int .i64 0]⟩,⟨.str,1,16,[.str ByteArray.empty]⟩,⟨.str,1,16,[.str ByteArray.empty]⟩,⟨.slice 24,1,24,[.nil]⟩] (by simp only[List.map,br,ae,ap]) (by rfl) R_)<|pZ (aA [.int .i64 0,.int .i64 0,.str (aa []),.str (aa []),.nil] ar)<|rP Y<|en k10<|de (dy (tl':=[(2,.ptr 2 0 0),(3,.int .i64 2)]) (ol':=[((2,0),.box [.int .i64 0,.int .i64 0,.str (aa []),.str (aa []),.sl 5 (List.map aj [])])]) (ra (tl:=[(2,.ptr 2 0 0),(3,.int .i64 2)]) (ol:=[((2,0),.box [.int .i64 0,.int .i64 0,.str (aa []),.str (aa []),.nil])]) (nx:=[(2,1)]) [(2,0)]) ⟨rfl,ao _,rfl,ao _,trivial⟩ ⟨rfl,(.box ⟨ao _,ao _,ao _,ao _,ba _,trivial⟩),trivial⟩)<|ac<|by cases h;exact rk
  ·refine pl 24 (.agg [.int .i64 x4.1.Kind,.int .i64 x4.1.N,.str x4.1.Key,.str x4.1.Value,.sl 5 (List.map aj x4.1.Kids)]) ar<|bE h fun x11 y11 h=>rD (cZ (zE x4.1 y11) zM)<|rP un<|rP pc<|en k6<|wi 27 h (fun c12 h=>?_) fun c12 h=>?_
   ·refine sr fun _ k13=>rP (cP (cs:=[.int .i64 0,.int .i64 0,.str (aa []),.str (aa []),.nil]) ar rfl [⟨.int .i64,1,8,[.int .i64 0]⟩,⟨.int .i64,1,8,[.int .i64 0]⟩,⟨.str,1,16,[.str ByteArray.empty]⟩,⟨.str,1,16,[.str ByteArray.empty]⟩,⟨.slice 24,1,24,[.nil]⟩] (by simp only[List.map,br,ae,ap]) (by rfl) R_)<|pZ (aA [.int .i64 0,.int .i64 0,.str (aa []),.str (aa []),.nil] ar)<|rP Y<|en k13<|de (dy (tl':=[(2,.ptr 2 0 0),(3,.int .i64 2)]) (ol':=[((2,0),.box [.int .i64 0,.int .i64 0,.str (aa []),.str (aa []),.sl 5 (List.map aj [])])]) (ra (tl:=[(2,.ptr 2 0 0),(3,.int .i64 2)]) (ol:=[((2,0),.box [.int .i64 0,.int .i64 0,.str (aa []),.str (aa []),.nil])]) (nx:=[(2,1)]) [(2,0)]) ⟨rfl,ao _,rfl,ao _,trivial⟩ ⟨rfl,(.box ⟨ao _,ao _,ao _,ao _,ba _,trivial⟩),trivial⟩)<|ac<|by cases h;exact rk
   ·refine aq<|k5 _<|sr fun _ k14=>pl 29 (.agg [.int .i64 x4.1.Kind,.int .i64 x4.1.N,.str x4.1.Key,.str x4.1.Value,.sl 5 (List.map aj x4.1.Kids)]) ar<|pZ (aA [.int .i64 x4.1.Kind,.int .i64 x4.1.N,.str x4.1.Key,.str x4.1.Value,.sl 5 (List.map aj x4.1.Kids)] ar)<|rP Y<|en k14<|ac<|by cases h;exact rk
end Go.Proofs.YtjklegmimpehlaaGreat.Ab
namespace Go.Proofs.YtjklegmimpehlaaGreat.Ab
open Go Go.RowKit
set_option linter.unusedVariables false
set_option linter.unusedSimpArgs false
set_option maxRecDepth 100000
set_option maxHeartbeats 8000000
theorem zT:aF Tryz.prog 22:=eN Tryz.func22
theorem FT:aF Tryz.prog 36:=eN Tryz.func36
theorem FU:aF Tryz.prog 118:=eN Tryz.func118
theorem FV:aF Tryz.prog 138:=eN Tryz.func138
def sL (K:af→af→Option Bool) (a0:af) (a1:af) (bg:Int):Option (Int⊕Bool):=
 if(decide (bg<(List.length a0.Kids:Int)))=true then(gd (0≤bg) (Option.bind (a0.Kids[(Int.toNat bg)]?) (fun(x25:af)=>gd (0≤bg) (Option.bind (a1.Kids[(Int.toNat bg)]?) (fun(x27:af)=>Option.bind (K x25 x27) (fun(x28:Bool)=>if(!x28)=true then(some (Sum.inr false))else(some (Sum.inl (IntKind.i64.wrap (bg+1))))))))))else(some (Sum.inr true))
def wg (K:af→af→Option Bool) (a0:af) (a1:af):Option Bool:=
 am (fun(s:Int)=>sL K a0 a1 s) Fu 0
def zU (K:af→af→Option Bool) (a0:af) (a1:af):Option Bool:=
 Option.bind (if(a0.Kind != a1.Kind)=true then(some (Sum.inr false))else(if(a0.N != a1.N)=true then(some (Sum.inr false))else(if(!(ByteArray.toList a0.Key == ByteArray.toList a1.Key))=true then(some (Sum.inr false))else(if(!(ByteArray.toList a0.Value == ByteArray.toList a1.Value))=true then(some (Sum.inr false))else(if((List.length a0.Kids:Int) != (List.length a1.Kids:Int))=true then(some (Sum.inr false))else(some (Sum.inl ()))))))) (Sum.elim (fun(s:Unit)=>wg K a0 a1) some)
theorem M9 (K:af→af→Option Bool) (hK:∀(a0:af) (a1:af) {r:Bool},K a0 a1=some r→Ok Tryz.prog 36 [.agg [.int .i64 a0.Kind,.int .i64 a0.N,.str a0.Key,.str a0.Value,.sl 5 (List.map aj a0.Kids)],.agg [.int .i64 a1.Kind,.int .i64 a1.N,.str a1.Key,.str a1.Value,.sl 5 (List.map aj a1.Kids)]] [] [] (.bool r) [] []) (a0:af) (a1:af) {r:Bool} (h:zU K a0 a1=some r):Ok Tryz.prog 36 [.agg [.int .i64 a0.Kind,.int .i64 a0.N,.str a0.Key,.str a0.Value,.sl 5 (List.map aj a0.Kids)],.agg [.int .i64 a1.Kind,.int .i64 a1.N,.str a1.Key,.str a1.Value,.sl 5 (List.map aj a1.Kids)]] [] [] (.bool r) [] []:=by
 refine oK Tryz.func36 rfl fun X=>sr fun _ k1=>rD (bY W_ rfl rfl)<|rD (bY W_ rfl rfl)<|rP Y<|en k1<|bE h fun q2 h hk3=>bx (fun s=>wg K a0 a1=some r∧s=lit [(2,.ptr 2 0 0),(3,.ptr 3 0 0)] [((2,0),.box [.int .i64 a0.Kind,.int .i64 a0.N,.str a0.Key,.str a0.Value,.sl 5 (List.map aj a0.Kids)]),((3,0),.box [.int .i64 a1.Kind,.int .i64 a1.N,.str a1.Key,.str a1.Value,.sl 5 (List.map aj a1.Kids)])] [(2,1),(3,1)] X) ?_ ?_
 ·skip
  refine sr fun _ k4=>rP (fa ar ae)<|rX (ld ae)<|rP (fa ar ae)<|rX (ld ae)<|rP bi<|rP mv<|li 11 h (fun c5 h=>?_) fun c5 h=>?_
  ·refine rS<|rS<|rS<|rS<|rS<|rP pc<|rP mv<|rS<|rS<|rS<|rS<|rS<|rP pc<|rP mv<|rS<|rS<|rS<|rS<|rS<|rP pc<|rP mv<|rS<|rS<|rS<|rS<|rS<|rS<|rS<|rP pc<|en k4<|bM D_ rfl<|sr fun _ k6=>rP Y<|en k6<|ac<|by cases ah h hk3;exact rk
  ·refine rP (fa ar ae)<|rX (ld ae)<|rP (fa ar ae)<|rX (ld ae)<|rP bi<|rP pc<|rP mv<|li 18 h (fun c7 h=>?_) fun c7 h=>?_
   ·refine rS<|rS<|rS<|rS<|rS<|rP pc<|rP mv<|rS<|rS<|rS<|rS<|rS<|rP pc<|rP mv<|rS<|rS<|rS<|rS<|rS<|rS<|rS<|rP pc<|en k4<|bM D_ rfl<|sr fun _ k8=>rP Y<|en k8<|ac<|by cases ah h hk3;exact rk
   ·refine rP (fa ar ap)<|rX (ld ap)<|rP (fa ar ap)<|rX (ld ap)<|rP bi<|rP pc<|rP mv<|li 25 h (fun c9 h=>?_) fun c9 h=>?_
    ·refine rS<|rS<|rS<|rS<|rS<|rP pc<|rP mv<|rS<|rS<|rS<|rS<|rS<|rS<|rS<|rP pc<|en k4<|bM D_ rfl<|sr fun _ k10=>rP Y<|en k10<|ac<|by cases ah h hk3;exact rk
    ·refine rP (fa ar ap)<|rX (ld ap)<|rP (fa ar ap)<|rX (ld ap)<|rP bi<|rP pc<|rP mv<|li 32 h (fun c11 h=>?_) fun c11 h=>?_
     ·refine rS<|rS<|rS<|rS<|rS<|rS<|rS<|rP pc<|en k4<|bM D_ rfl<|sr fun _ k12=>rP Y<|en k12<|ac<|by cases ah h hk3;exact rk
     ·refine rP (fa ar br)<|rX (ld br)<|rP (zl br)<|rP (fa ar br)<|rX (ld br)<|rP (zl br)<|rP bi<|rP pc<|en k4<|wi 40 h (fun c13 h=>?_) fun c13 h=>?_
      ·refine sr fun _ k14=>rP Y<|en k14<|ac<|by cases ah h hk3;exact rk
      ·refine aq<|tk (aI h hk3) fun h=>?_
       exact⟨_,ra [(2,0),(3,0)],h,rfl⟩
 ·rintro s ⟨h,rfl⟩
  unfold wg at h
  refine ai fun _ k15=>sr fun _ k16=>rP Y<|en k16<|ax<|bv (fun m s=>∃(bg:Int),am (fun(s:Int)=>sL K a0 a1 s) m bg=some r∧s=lit [(2,.ptr 2 0 0),(3,.ptr 3 0 0),(5,.int .i64 bg)] [((2,0),.box [.int .i64 a0.Kind,.int .i64 a0.N,.str a0.Key,.str a0.Value,.sl 5 (List.map aj a0.Kids)]),((3,0),.box [.int .i64 a1.Kind,.int .i64 a1.N,.str a1.Key,.str a1.Value,.sl 5 (List.map aj a1.Kids)])] [(2,1),(3,1)] X) Fu
   ⟨_,ra [(2,0),(3,0)],0,h,rfl⟩ ?_
  rintro m s ⟨bg,h,rfl⟩
  obtain⟨m1,q17,rfl,h,hq18⟩:=bu h
  replace h:sL K a0 a1 bg=some q17:=h
  refine ai fun _ k19=>sr fun _ k20=>rP mv<|rP (fa ar br)<|rX (ld br)<|rP (zl br)<|rP bi<|en k20<|wi 45 h (fun c21 h=>?_) fun c21 h=>?_
  ·refine aq<|k19 _<|ai fun _ k22=>ax<|ai fun _ k23=>cD (by kernel_rfl) (by decide +kernel)<|tP (fa ar br)<|tR (ld br)<|tP mv<|gE h fun g24 h=>bE h fun x25 y25 h=>tP (i1 (el:=.agg [.int .i64 x25.Kind,.int .i64 x25.N,.str x25.Key,.str x25.Value,.sl 5 (List.map aj x25.Kids)]) W_ W_ br ar g24 (by exact kB (iI _) y25))<|tR (cu (v:=.agg [.int .i64 x25.Kind,.int .i64 x25.N,.str x25.Key,.str x25.Value,.sl 5 (List.map aj x25.Kids)]) W_ W_ ar R_)<|tP (fa ar br)<|tR (ld br)<|tP mv<|gE h fun g26 h=>bE h fun x27 y27 h=>tP (i1 (el:=.agg [.int .i64 x27.Kind,.int .i64 x27.N,.str x27.Key,.str x27.Value,.sl 5 (List.map aj x27.Kids)]) W_ W_ br ar g26 (by exact kB (iI _) y27))<|tR (cu (v:=.agg [.int .i64 x27.Kind,.int .i64 x27.N,.str x27.Key,.str x27.Value,.sl 5 (List.map aj x27.Kids)]) W_ W_ ar R_)<|bE h fun x28 y28 h=>tD (cZ (hK x25 x27 y28) FT)<|tP un<|cc (by kernel_rfl)<|k23 _<|wi 59 h (fun c29 h=>?_) fun c29 h=>?_
   ·refine sr fun _ k30=>rP Y<|en k30<|ac<|by cases ah h hq18;exact rk
   ·refine aq<|k22 _<|aB<|rP mv<|rP bi<|rP Y<|aM<|bk (ra [(2,0),(3,0)]) ⟨(IntKind.i64.wrap (bg+1)),aI h hq18,rfl⟩
  ·refine bc<|tk (ah h hq18) fun h=>k15 _<|sr fun _ k31=>rP Y<|en k31<|ac<|by cases h;exact rk
def nZ:Nat→af→af→Option Bool
 | 0,_,_=>none
 | n+1,a0,a1=>zU (nZ n) a0 a1
theorem FW:∀(n:Nat) (a0:af) (a1:af) {r:Bool},nZ n a0 a1=some r→Ok Tryz.prog 36 [.agg [.int .i64 a0.Kind,.int .i64 a0.N,.str a0.Key,.str a0.Value,.sl 5 (List.map aj a0.Kids)],.agg [.int .i64 a1.Kind,.int .i64 a1.N,.str a1.Key,.str a1.Value,.sl 5 (List.map aj a1.Kids)]] [] [] (.bool r) [] []
 | 0,_,_,_,h=>by simp[nZ]at h
 | n+1,a0,a1,_,h=>M9 (nZ n) (FW n) a0 a1 h
def zV (a0:af) (a1:af):Option Bool:=nZ Fu a0 a1
theorem Na (a0:af) (a1:af) {r:Bool} (h:zV a0 a1=some r):Ok Tryz.prog 36 [.agg [.int .i64 a0.Kind,.int .i64 a0.N,.str a0.Key,.str a0.Value,.sl 5 (List.map aj a0.Kids)],.agg [.int .i64 a1.Kind,.int .i64 a1.N,.str a1.Key,.str a1.Value,.sl 5 (List.map aj a1.Kids)]] [] [] (.bool r) [] []:=FW Fu a0 a1 h
def sM (K:List UInt8→af→Option (List UInt8)) (a1:af) (fg:List UInt8) (bg:Int):Option ((List UInt8×Int)⊕(List UInt8)):=
 if(decide (bg<(List.length a1.Kids:Int)))=true then(gd (0≤bg) (Option.bind (a1.Kids[(Int.toNat bg)]?) (fun(x23:af)=>Option.bind (K fg x23) (fun(x24:List UInt8)=>some (Sum.inl (x24,(IntKind.i64.wrap (bg+1))))))))else(some (Sum.inr fg))
def zW (K:List UInt8→af→Option (List UInt8)) (a0:List UInt8) (a1:af) (t9:Bool):Option (List UInt8):=
 if t9=true then(Option.bind (dm (a0++[(u8 (IntKind.u8.wrap a1.Kind))]) (IntKind.u64.wrap (List.length a1.Kids:Int))) (fun(x14:List UInt8)=>am (fun(s:List UInt8×Int)=>sM K a1 s.1 s.2) Fu (x14,0)))else(if(a1.Kind == 6)=true then(Option.bind (ga (a0++[(u8 (IntKind.u8.wrap a1.Kind))]) a1.Key) (fun(x28:List UInt8)=>Option.bind (ga x28 a1.Value) (fun(x29:List UInt8)=>some x29)))else(if(a1.Kind == 5)=true then(some (a0++[(u8 (IntKind.u8.wrap a1.Kind))]))else(Option.bind (dm (a0++[(u8 (IntKind.u8.wrap a1.Kind))]) (IntKind.u64.wrap a1.N)) (fun(x34:List UInt8)=>some x34))))
def zX (K:List UInt8→af→Option (List UInt8)) (a0:List UInt8) (a1:af):Option (List UInt8):=
 gd ((List.length (a0++[(u8 (IntKind.u8.wrap a1.Kind))]))*1≤140737488355328∧(List.length (a0++[(u8 (IntKind.u8.wrap a1.Kind))]))≤140737488355328) (Option.bind (if(a1.Kind == 1)=true then(some true)else(if(a1.Kind == 2)=true then(some true)else(some (a1.Kind == 3)))) (fun(s:Bool)=>zW K a0 a1 s))
theorem Nb (K:List UInt8→af→Option (List UInt8)) (hK:∀(a0:List UInt8) (a1:af) {r:List UInt8},K a0 a1=some r→Ok Tryz.prog 138 [.own 1 0,.agg [.int .i64 a1.Kind,.int .i64 a1.N,.str a1.Key,.str a1.Value,.sl 5 (List.map aj a1.Kids)]] [] [(5,1,List.map ag a0)] (.own 2 0) [] [(5,1,List.map ag r)]) (a0:List UInt8) (a1:af) {r:List UInt8} (h:zX K a0 a1=some r):Ok Tryz.prog 138 [.own 1 0,.agg [.int .i64 a1.Kind,.int .i64 a1.N,.str a1.Key,.str a1.Value,.sl 5 (List.map aj a1.Kids)]] [] [(5,1,List.map ag a0)] (.own 2 0) [] [(5,1,List.map ag r)]:=by
 refine oK Tryz.func138 rfl fun X=>sr fun _ k1=>rD (bY W_ rfl rfl)<|rP Y<|en k1<|sr fun _ k2=>rP mv<|rP (fa ar ae)<|rX (ld ae)<|rP ((cK (v:=.int .u8 (IntKind.u8.wrap a1.Kind)) W_ (cL ae) (cB bG) rfl).castp (v':=.int .u8 ((u8 (IntKind.u8.wrap a1.Kind)).toNat:Int)) (by exact congrArg _ (gx (iW _))))<|rD (bs (List.map ag [(u8 (IntKind.u8.wrap a1.Kind))]) aH bG rfl)<|gE h fun g3 h=>rD (dw (v:=List.map ag (a0++[(u8 (IntKind.u8.wrap a1.Kind))])) W_ W_ aH bG rfl rfl W_ (by first | exact .inl rfl | exact .inr ⟨rfl,rfl⟩) W_ (by first | exact .inr rfl | exact .inl rfl) (dL _ _) (dv g3))<|rP Y<|en k2<|ai fun _ k4=>sr fun _ k5=>rP (fa ar ae)<|rX (ld ae)<|en k5<|ax<|bE h fun q6 h hk7=>bx (fun s=>∃(t9:Bool),zW K a0 a1 t9=some r∧s=lit [(0,.own 11 0),(3,.ptr 3 0 0),(13,.int .i64 a1.Kind),(19,.bool t9)] [((11,0),.arr 5 1 false (List.map ag (a0++[(u8 (IntKind.u8.wrap a1.Kind))]))),((3,0),.box [.int .i64 a1.Kind,.int .i64 a1.N,.str a1.Key,.str a1.Value,.sl 5 (List.map aj a1.Kids)])] [(3,1),(11,1)] X) ?_ ?_
 ·skip
  refine sr fun _ k8=>rP bi<|rP Y<|en k8<|wi 19 h (fun c9 h=>?_) fun c9 h=>?_
  ·refine aq ?_
   obtain rfl:=Option.some.inj h
   have h:=hk7
   exact⟨_,ra [(11,0),(3,0)],true,h,rfl⟩
  ·refine sr fun _ k10=>rP bi<|rP Y<|en k10<|wi 19 h (fun c11 h=>?_) fun c11 h=>?_
   ·refine aq ?_
    obtain rfl:=Option.some.inj h
    have h:=hk7
    exact⟨_,ra [(11,0),(3,0)],true,h,rfl⟩
   ·refine aB<|rP bi<|rP Y<|aM<|?_
    obtain rfl:=Option.some.inj h
    have h:=hk7
    exact⟨_,ra [(11,0),(3,0)],(a1.Kind == 3),h,rfl⟩
 ·rintro s ⟨t9,h,rfl⟩
  refine wi 19 h (fun c12 h=>?_) fun c12 h=>?_
  ·refine sr fun _ k13=>rP mv<|rP (fa ar br)<|rX (ld br)<|rP (zl br)<|rP (cK (v:=.int .u64 (IntKind.u64.wrap (List.length a1.Kids:Int))) W_ (cL ae) (cB bd) rfl)<|bE h fun x14 y14 h=>rD (cG [] [(11,0)] [] (d7 (a0++[(u8 (IntKind.u8.wrap a1.Kind))]) (IntKind.u64.wrap (List.length a1.Kids:Int)) y14) d8 (.inr ⟨rfl,rfl,⟨cr (fun _=>rfl),trivial⟩⟩))<|rP Y<|en k13<|sr fun _ k15=>rP Y<|en k15<|ax<|bv (fun m s=>∃(fg:List UInt8),∃(bg:Int),am (fun(s:List UInt8×Int)=>sM K a1 s.1 s.2) m (fg,bg)=some r∧s=lit [(0,.own 28 0),(3,.ptr 3 0 0),(5,.int .i64 bg)] [((28,0),.arr 5 1 false (List.map ag fg)),((3,0),.box [.int .i64 a1.Kind,.int .i64 a1.N,.str a1.Key,.str a1.Value,.sl 5 (List.map aj a1.Kids)])] [(3,1),(28,1)] X) Fu
    ⟨_,ra [(28,0),(3,0)],x14,0,h,rfl⟩ ?_
   rintro m s ⟨fg,bg,h,rfl⟩
   obtain⟨m1,q16,rfl,h,hq17⟩:=bu h
   replace h:sM K a1 fg bg=some q16:=h
   refine ai fun _ k18=>sr fun _ k19=>rP mv<|rP (fa ar br)<|rX (ld br)<|rP (zl br)<|rP bi<|en k19<|wi 33 h (fun c20 h=>?_) fun c20 h=>?_
   ·refine aq<|k18 _<|ai fun _ k21=>ax<|aB<|rP mv<|rP (fa ar br)<|rX (ld br)<|rP mv<|gE h fun g22 h=>bE h fun x23 y23 h=>rP (i1 (el:=.agg [.int .i64 x23.Kind,.int .i64 x23.N,.str x23.Key,.str x23.Value,.sl 5 (List.map aj x23.Kids)]) W_ W_ br ar g22 (by exact kB (iI _) y23))<|pl 41 (.agg [.int .i64 x23.Kind,.int .i64 x23.N,.str x23.Key,.str x23.Value,.sl 5 (List.map aj x23.Kids)]) ar<|bE h fun x24 y24 h=>rD (cG [] [(28,0)] [] (hK fg x23 y24) FV (.inr ⟨rfl,rfl,⟨cr (fun _=>rfl),trivial⟩⟩))<|rP Y<|en k21<|aB<|rP mv<|rP bi<|rP Y<|aM<|bk (ra [(42,0),(3,0)]) ⟨x24,(IntKind.i64.wrap (bg+1)),aI h hq17,rfl⟩
   ·refine bc<|tk (ah h hq17) fun h=>k4 _<|sr fun _ k25=>rP mv<|rP Y<|en k25<|ac<|by cases h;exact rB [(28,0)]
  ·refine sr fun _ k26=>rP bi<|rP Y<|en k26<|wi 43 h (fun c27 h=>?_) fun c27 h=>?_
   ·refine cD (by kernel_rfl) (by decide +kernel)<|tP mv<|tP (fa ar ap)<|tR (ld ap)<|bE h fun x28 y28 h=>tD (cG [] [(11,0)] [] (jj (a0++[(u8 (IntKind.u8.wrap a1.Kind))]) a1.Key y28) jp (.inr ⟨rfl,rfl,⟨cr (fun _=>rfl),trivial⟩⟩))<|tP (fa ar ap)<|tR (ld ap)<|bE h fun x29 y29 h=>tD (cG [] [(48,0)] [] (jj x28 a1.Value y29) jp (.inr ⟨rfl,rfl,⟨cr (fun _=>rfl),trivial⟩⟩))<|tP Y<|cc (by kernel_rfl)<|k4 _<|sr fun _ k30=>rP mv<|rP Y<|en k30<|ac<|by cases h;exact rB [(51,0)]
   ·refine sr fun _ k31=>rP bi<|rP Y<|en k31<|wi 52 h (fun c32 h=>?_) fun c32 h=>?_
    ·refine aq<|k4 _<|sr fun _ k33=>rP mv<|rP Y<|en k33<|ac<|by cases h;exact rB [(11,0)]
    ·refine aB<|rP mv<|rP (fa ar ae)<|rX (ld ae)<|rP (cK (v:=.int .u64 (IntKind.u64.wrap a1.N)) W_ (cL ae) (cB bd) rfl)<|bE h fun x34 y34 h=>rD (cG [] [(11,0)] [] (d7 (a0++[(u8 (IntKind.u8.wrap a1.Kind))]) (IntKind.u64.wrap a1.N) y34) d8 (.inr ⟨rfl,rfl,⟨cr (fun _=>rfl),trivial⟩⟩))<|rP Y<|en k4<|sr fun _ k35=>rP mv<|rP Y<|en k35<|ac<|by cases h;exact rB [(18,0)]
def n3:Nat→List UInt8→af→Option (List UInt8)
 | 0,_,_=>none
 | n+1,a0,a1=>zX (n3 n) a0 a1
theorem FX:∀(n:Nat) (a0:List UInt8) (a1:af) {r:List UInt8},n3 n a0 a1=some r→Ok Tryz.prog 138 [.own 1 0,.agg [.int .i64 a1.Kind,.int .i64 a1.N,.str a1.Key,.str a1.Value,.sl 5 (List.map aj a1.Kids)]] [] [(5,1,List.map ag a0)] (.own 2 0) [] [(5,1,List.map ag r)]
 | 0,_,_,_,h=>by simp[n3]at h
 | n+1,a0,a1,_,h=>Nb (n3 n) (FX n) a0 a1 h
def zY (a0:List UInt8) (a1:af):Option (List UInt8):=n3 Fu a0 a1
theorem Nc (a0:List UInt8) (a1:af) {r:List UInt8} (h:zY a0 a1=some r):Ok Tryz.prog 138 [.own 1 0,.agg [.int .i64 a1.Kind,.int .i64 a1.N,.str a1.Key,.str a1.Value,.sl 5 (List.map aj a1.Kids)]] [] [(5,1,List.map ag a0)] (.own 2 0) [] [(5,1,List.map ag r)]:=FX Fu a0 a1 h
def wh (a0:af):Option (List UInt8):=
 Option.bind (pO a0) (fun(x4:Bool)=>if(!x4)=true then(some [])else(Option.bind (zY [] a0) (fun(x8:List UInt8)=>some x8)))
theorem Nd (a0:af) {r:List UInt8} (h:wh a0=some r):Ok Tryz.prog 61 [.agg [.int .i64 a0.Kind,.int .i64 a0.N,.str a0.Key,.str a0.Value,.sl 5 (List.map aj a0.Kids)]] [] [] (.own 2 0) [] [(5,1,List.map ag r)]:=by
 refine oK Tryz.func61 rfl fun X=>sr fun _ k1=>rD (bY W_ rfl rfl)<|rP Y<|en k1<|ai fun _ k2=>sr fun _ k3=>pl 3 (.agg [.int .i64 a0.Kind,.int .i64 a0.N,.str a0.Key,.str a0.Value,.sl 5 (List.map aj a0.Kids)]) ar<|bE h fun x4 y4 h=>rD (cZ (zL a0 y4) zT)<|rP un<|en k3<|wi 5 h (fun c5 h=>?_) fun c5 h=>?_
 ·refine sr fun _ k6=>rP Y<|en k6<|eZ 2 5 1 W_ D_ D_<|ac<|by cases h;exact rB [(2,0)]
 ·refine aq<|k2 _<|sr fun _ k7=>pl 6 (.agg [.int .i64 a0.Kind,.int .i64 a0.N,.str a0.Key,.str a0.Value,.sl 5 (List.map aj a0.Kids)]) ar<|bE h fun x8 y8 h=>rD (cZ ((Nc [] a0 y8).nilRow0) FV)<|rP Y<|en k7<|ac<|by cases h;exact rB [(7,0)]
def zZ (a0:Z) (ua:Bool):Option (Unit⊕(af×Z)):=
 if ua=true then(some (Sum.inr ((af.mk 0 0 (aa []) (aa []) []),(Z.mk a0.B true))))else(some (Sum.inl ()))
def wj (K:Z→Int→Option (af×Z)) (a1:Int) (iN:List UInt8) (iO:Bool) (gw:List af) (js:Int):Option ((List UInt8×Bool×List af×Int)⊕(af×Z)):=
 Option.bind (K (Z.mk iN iO) (IntKind.i64.wrap (a1-1))) (fun(x37:af×Z)=>gd ((List.length (gw++[x37.1]))*72≤140737488355328∧(List.length (gw++[x37.1]))≤140737488355328) (some (Sum.inl (x37.2.B,x37.2.Bad,(gw++[x37.1]),(IntKind.i64.wrap (js+1))))))
def iK (K:Z→Int→Option (af×Z)) (a1:Int) (x12:UInt8) (x25:Int×Z) (iN:List UInt8) (iO:Bool) (gw:List af) (js:Int):Option ((List UInt8×Bool×List af×Int)⊕(af×Z)):=
 Option.bind (if(decide (js<x25.1))=true then(if(!iO)=true then(some (Sum.inl ()))else(some (Sum.inr (Sum.inr ((af.mk (IntKind.i64.wrap (x12.toNat:Int)) 0 (aa []) (aa []) gw),(Z.mk iN iO))))))else(some (Sum.inr (Sum.inr ((af.mk (IntKind.i64.wrap (x12.toNat:Int)) 0 (aa []) (aa []) gw),(Z.mk iN iO)))))) (Sum.elim (fun(s:Unit)=>wj K a1 iN iO gw js) some)
def z5 (a0:Z) (x12:UInt8) (ub:Bool):Option (af×Z):=
 if ub=true then(Option.bind (bR (Z.mk (List.drop 1 a0.B) a0.Bad) 1073741824) (fun(x57:Int×Z)=>some ((af.mk (IntKind.i64.wrap (x12.toNat:Int)) x57.1 (aa []) (aa []) []),x57.2)))else(some ((af.mk (IntKind.i64.wrap (x12.toNat:Int)) 0 (aa []) (aa []) []),(Z.mk (List.drop 1 a0.B) true)))
def wk (K:Z→Int→Option (af×Z)) (a0:Z) (a1:Int) (x12:UInt8) (uc:Bool):Option (af×Z):=
 if uc=true then(Option.bind (bR (Z.mk (List.drop 1 a0.B) a0.Bad) 20) (fun(x25:Int×Z)=>am (fun(s:List UInt8×Bool×List af×Int)=>iK K a1 x12 x25 s.1 s.2.1 s.2.2.1 s.2.2.2) Fu (x25.2.B,x25.2.Bad,[],0)))else(if((IntKind.i64.wrap (x12.toNat:Int)) == 6)=true then(Option.bind (eo (Z.mk (List.drop 1 a0.B) a0.Bad)) (fun(x42:ByteArray×Z)=>Option.bind (eo x42.2) (fun(x43:ByteArray×Z)=>some ((af.mk (IntKind.i64.wrap (x12.toNat:Int)) 0 x42.1 x43.1 []),x43.2))))else(if((IntKind.i64.wrap (x12.toNat:Int)) == 5)=true then(some ((af.mk (IntKind.i64.wrap (x12.toNat:Int)) 0 (aa []) (aa []) []),(Z.mk (List.drop 1 a0.B) a0.Bad)))else(Option.bind (if((IntKind.i64.wrap (x12.toNat:Int)) == 4)=true then(some true)else(if((IntKind.i64.wrap (x12.toNat:Int)) == 7)=true then(some true)else(if((IntKind.i64.wrap (x12.toNat:Int)) == 8)=true then(some true)else(some ((IntKind.i64.wrap (x12.toNat:Int)) == 9))))) (fun(s:Bool)=>z5 a0 x12 s))))
def z6 (K:Z→Int→Option (af×Z)) (a0:Z) (a1:Int):Option (af×Z):=
 Option.bind (a0.B[0]?) (fun(x12:UInt8)=>gd ((1:Int)≤(List.length a0.B:Int)) (Option.bind (if((IntKind.i64.wrap (x12.toNat:Int)) == 1)=true then(some true)else(if((IntKind.i64.wrap (x12.toNat:Int)) == 2)=true then(some true)else(some ((IntKind.i64.wrap (x12.toNat:Int)) == 3)))) (fun(s:Bool)=>wk K a0 a1 x12 s)))
def sN (K:Z→Int→Option (af×Z)) (a0:Z) (a1:Int):Option (af×Z):=
 Option.bind (Option.bind (if a0.Bad=true then(some true)else(if((List.length a0.B:Int) == 0)=true then(some true)else(some (a1 == 0)))) (fun(s:Bool)=>zZ a0 s)) (Sum.elim (fun(s:Unit)=>z6 K a0 a1) some)
theorem Nf (K:Z→Int→Option (af×Z)) (hK:∀(a0:Z) (a1:Int) {r:af×Z},K a0 a1=some r→Ok Tryz.prog 118 [.ptr 0 0 0,.int .i64 a1] [[.sl 1 (List.map ag a0.B),.bool a0.Bad]] [] (.agg [.int .i64 r.1.Kind,.int .i64 r.1.N,.str r.1.Key,.str r.1.Value,.sl 5 (List.map aj r.1.Kids)]) [[.sl 1 (List.map ag r.2.B),.bool r.2.Bad]] []) (a0:Z) (a1:Int) {r:af×Z} (h:sN K a0 a1=some r):Ok Tryz.prog 118 [.ptr 0 0 0,.int .i64 a1] [[.sl 1 (List.map ag a0.B),.bool a0.Bad]] [] (.agg [.int .i64 r.1.Kind,.int .i64 r.1.N,.str r.1.Key,.str r.1.Value,.sl 5 (List.map aj r.1.Kids)]) [[.sl 1 (List.map ag r.2.B),.bool r.2.Bad]] []:=by
 refine oK Tryz.func118 rfl fun X=>sr fun _ k1=>rD (nw ar)<|en k1<|bE h fun q2 h hk3=>bx (fun s=>z6 K a0 a1=some r∧s=lit [(0,.ptr 0 0 0),(1,.int .i64 a1),(4,.ptr 4 0 0)] [((0,0),.box [.sl 1 (List.map ag a0.B),.bool a0.Bad]),((4,0),.box [.int .i64 0,.int .i64 0,.str (aa []),.str (aa []),.nil])] [(0,1),(4,1)] X) ?_ ?_
 ·skip
  refine bE h fun q4 h hk5=>bx (fun s=>∃(ua:Bool),zZ a0 ua=some q2∧s=lit [(0,.ptr 0 0 0),(1,.int .i64 a1),(4,.ptr 4 0 0),(23,.bool ua)] [((0,0),.box [.sl 1 (List.map ag a0.B),.bool a0.Bad]),((4,0),.box [.int .i64 0,.int .i64 0,.str (aa []),.str (aa []),.nil])] [(0,1),(4,1)] X) ?_ ?_
  ·skip
   refine aB<|rP mv<|rP nk<|rP (fa cY aN)<|rX (ld aN)<|rP mv<|li 12 h (fun c6 h=>?_) fun c6 h=>?_
   ·refine rS<|rS<|rS<|rS<|rS<|rS<|rP pc<|rP mv<|rS<|rS<|rP pc<|aM<|?_
    obtain rfl:=Option.some.inj h
    have h:=hk5
    exact⟨_,ra [(0,0),(4,0)],true,h,rfl⟩
   ·refine rP mv<|rP nk<|rP (fa cY aH)<|rX (ld aH)<|rP (zl aH)<|rP bi<|rP pc<|rP mv<|li 20 h (fun c7 h=>?_) fun c7 h=>?_
    ·refine rS<|rS<|rP pc<|aM<|?_
     obtain rfl:=Option.some.inj h
     have h:=hk5
     exact⟨_,ra [(0,0),(4,0)],true,h,rfl⟩
    ·refine rP mv<|rP bi<|rP pc<|aM<|?_
     obtain rfl:=Option.some.inj h
     have h:=hk5
     exact⟨_,ra [(0,0),(4,0)],(a1 == 0),h,rfl⟩
  ·rintro s ⟨ua,h,rfl⟩
   refine wi 23 h (fun c8 h=>?_) fun c8 h=>?_
   ·refine sr fun _ k9=>rP mv<|rP nk<|rP (fa cY aN)<|pZ (aA [.sl 1 (List.map ag a0.B),.bool true] aN)<|en k9<|sr fun _ k10=>rP (cP (cs:=[.int .i64 0,.int .i64 0,.str (aa []),.str (aa []),.nil]) ar rfl [⟨.int .i64,1,8,[.int .i64 0]⟩,⟨.int .i64,1,8,[.int .i64 0]⟩,⟨.str,1,16,[.str ByteArray.empty]⟩,⟨.str,1,16,[.str ByteArray.empty]⟩,⟨.slice 24,1,24,[.nil]⟩] (by simp only[List.map,br,ae,ap]) (by rfl) R_)<|pZ (aA [.int .i64 0,.int .i64 0,.str (aa []),.str (aa []),.nil] ar)<|en k10<|de (dy (tl':=[(4,.ptr 4 0 0)]) (ol':=[((0,0),.box [.sl 1 (List.map ag a0.B),.bool true]),((4,0),.box [.int .i64 0,.int .i64 0,.str (aa []),.str (aa []),.sl 5 (List.map aj [])])]) (ra (tl:=[(4,.ptr 4 0 0)]) (ol:=[((0,0),.box [.sl 1 (List.map ag a0.B),.bool true]),((4,0),.box [.int .i64 0,.int .i64 0,.str (aa []),.str (aa []),.nil])]) (nx:=[(0,1),(4,1)]) [(0,0),(4,0)]) ⟨rfl,ao _,trivial⟩ ⟨rfl,.rfl _,rfl,(.box ⟨ao _,ao _,ao _,ao _,ba _,trivial⟩),trivial⟩)<|ac<|by cases ah h hk3;exact rB []
   ·refine aq<|tk (aI h hk3) fun h=>?_
    exact⟨_,ra [(0,0),(4,0)],h,rfl⟩
 ·rintro s ⟨h,rfl⟩
  refine sr fun _ k11=>rP mv<|rP nk<|rP (fa cY aH)<|rX (ld aH)<|bE h fun x12 y12 h=>rP (ja aH bG y12)<|rX (ld bG)<|rP (cK (v:=.int .i64 (IntKind.i64.wrap (x12.toNat:Int))) W_ (cL bG) (cB ae) rfl)<|rP (cP (cs:=[.int .i64 (IntKind.i64.wrap (x12.toNat:Int)),.int .i64 0,.str (aa []),.str (aa []),.nil]) ar rfl [⟨.int .i64,1,8,[.int .i64 0]⟩,⟨.int .i64,1,8,[.int .i64 0]⟩,⟨.str,1,16,[.str ByteArray.empty]⟩,⟨.str,1,16,[.str ByteArray.empty]⟩,⟨.slice 24,1,24,[.nil]⟩] (by simp only[List.map,br,ae,ap]) (by rfl) R_)<|rD (nw ar)<|pZ (aA [.int .i64 (IntKind.i64.wrap (x12.toNat:Int)),.int .i64 0,.str (aa []),.str (aa []),.nil] ar)<|en k11<|sr fun _ k13=>rP mv<|rP mv<|rP nk<|rP (fa cY aH)<|rX (ld aH)<|gE h fun g14 h=>rP (gk (l:=1) W_ aH bG (fV W_ R_) gz (by (try simp only[List.length_map]);omega) (by (try simp only[List.length_map]);omega) (by exact mh _ _))<|rP nk<|rP (fa cY aH)<|pZ (aA [.sl 1 (List.map ag (List.drop 1 a0.B)),.bool a0.Bad] aH)<|en k13<|ai fun _ k15=>sr fun _ k16=>rP (fa ar ae)<|rX (ld ae)<|en k16<|ax<|bE h fun q17 h hk18=>bx (fun s=>∃(uc:Bool),wk K a0 a1 x12 uc=some r∧s=lit [(0,.ptr 0 0 0),(1,.int .i64 a1),(4,.ptr 4 0 0),(5,.ptr 5 0 0),(45,.int .i64 (IntKind.i64.wrap (x12.toNat:Int))),(49,.bool uc)] [((0,0),.box [.sl 1 (List.map ag (List.drop 1 a0.B)),.bool a0.Bad]),((4,0),.box [.int .i64 0,.int .i64 0,.str (aa []),.str (aa []),.nil]),((5,0),.box [.int .i64 (IntKind.i64.wrap (x12.toNat:Int)),.int .i64 0,.str (aa []),.str (aa []),.nil])] [(0,1),(4,1),(5,1)] X) ?_ ?_
  ·skip
   refine sr fun _ k19=>rP bi<|rP Y<|en k19<|wi 49 h (fun c20 h=>?_) fun c20 h=>?_
   ·refine aq ?_
    obtain rfl:=Option.some.inj h
    have h:=hk18
    exact⟨_,ra [(0,0),(4,0),(5,0)],true,h,rfl⟩
   ·refine sr fun _ k21=>rP bi<|rP Y<|en k21<|wi 49 h (fun c22 h=>?_) fun c22 h=>?_
    ·refine aq ?_
     obtain rfl:=Option.some.inj h
     have h:=hk18
     exact⟨_,ra [(0,0),(4,0),(5,0)],true,h,rfl⟩
    ·refine aB<|rP bi<|rP Y<|aM<|?_
     obtain rfl:=Option.some.inj h
     have h:=hk18
     exact⟨_,ra [(0,0),(4,0),(5,0)],((IntKind.i64.wrap (x12.toNat:Int)) == 3),h,rfl⟩
  ·rintro s ⟨uc,h,rfl⟩
   refine wi 49 h (fun c23 h=>?_) fun c23 h=>?_
   ·refine sr fun _ k24=>rP mv<|bE h fun x25 y25 h=>rD (cG [(0,0)] [] [] (dE (Z.mk (List.drop 1 a0.B) a0.Bad) 20 y25) dF (.inl trivial))<|rP Y<|en k24<|sr fun _ k26=>rP Y<|en k26<|ax<|iY 5 0 4 5 24 5 (cs:=[.int .i64 (IntKind.i64.wrap (x12.toNat:Int)),.int .i64 0,.str (aa []),.str (aa []),.nil]) R_ rfl D_<|bv (fun m s=>∃(iN:List UInt8),∃(iO:Bool),∃(gw:List af),∃(js:Int),am (fun(s:List UInt8×Bool×List af×Int)=>iK K a1 x12 x25 s.1 s.2.1 s.2.2.1 s.2.2.2) m (iN,iO,gw,js)=some r∧s=lit [(0,.ptr 0 0 0),(1,.int .i64 a1),(4,.ptr 4 0 0),(5,.ptr 5 0 0),(6,.int .i64 x25.1),(7,.int .i64 js)] [((0,0),.box [.sl 1 (List.map ag iN),.bool iO]),((4,0),.box [.int .i64 0,.int .i64 0,.str (aa []),.str (aa []),.nil]),((5,0),.box [.int .i64 (IntKind.i64.wrap (x12.toNat:Int)),.int .i64 0,.str (aa []),.str (aa []),.own 5 1]),((5,1),.arr 24 5 false (List.map aj gw))] [(0,1),(4,1),(5,2)] X) Fu
     ⟨_,ra [(0,0),(4,0),(5,0),(5,1)],x25.2.B,x25.2.Bad,[],0,h,rfl⟩ ?_
    rintro m s ⟨iN,iO,gw,js,h,rfl⟩
    obtain⟨m3,q27,rfl,h,hq28⟩:=bu h
    replace h:iK K a1 x12 x25 iN iO gw js=some q27:=h
    refine bE h fun q29 h hk30=>bx (fun s=>wj K a1 iN iO gw js=some q27∧s=lit [(0,.ptr 0 0 0),(1,.int .i64 a1),(4,.ptr 4 0 0),(5,.ptr 5 0 0),(6,.int .i64 x25.1),(7,.int .i64 js)] [((0,0),.box [.sl 1 (List.map ag iN),.bool iO]),((4,0),.box [.int .i64 0,.int .i64 0,.str (aa []),.str (aa []),.nil]),((5,0),.box [.int .i64 (IntKind.i64.wrap (x12.toNat:Int)),.int .i64 0,.str (aa []),.str (aa []),.own 5 1]),((5,1),.arr 24 5 false (List.map aj gw))] [(0,1),(4,1),(5,2)] X) ?_ ?_
    ·skip
     refine sr fun _ k31=>rP mv<|rP mv<|rP bi<|rP mv<|li 58 h (fun c32 h=>?_) fun c32 h=>?_
     ·refine rP mv<|rP nk<|rP (fa cY aN)<|rX (ld aN)<|rP un<|rP pc<|en k31<|wi 64 h (fun c33 h=>?_) fun c33 h=>?_
      ·refine aq<|tk (aI h hk30) fun h=>?_
       exact⟨_,ra [(0,0),(4,0),(5,0),(5,1)],h,rfl⟩
      ·refine bc<|tk (ah h hk30) fun h=>tk (ah h hq28) fun h=>k15 _<|sr fun _ k34=>pl 94 (.agg [.int .i64 (IntKind.i64.wrap (x12.toNat:Int)),.int .i64 0,.str (aa []),.str (aa []),.own 5 1]) ar<|pZ (aA [.int .i64 (IntKind.i64.wrap (x12.toNat:Int)),.int .i64 0,.str (aa []),.str (aa []),.own 5 1] ar)<|en k34<|ac<|by cases h;exact rB []
     ·refine rS<|rS<|rS<|rS<|rS<|rP pc<|en k31<|fB D_ rfl<|bc<|tk (ah h hk30) fun h=>tk (ah h hq28) fun h=>k15 _<|sr fun _ k35=>pl 94 (.agg [.int .i64 (IntKind.i64.wrap (x12.toNat:Int)),.int .i64 0,.str (aa []),.str (aa []),.own 5 1]) ar<|pZ (aA [.int .i64 (IntKind.i64.wrap (x12.toNat:Int)),.int .i64 0,.str (aa []),.str (aa []),.own 5 1] ar)<|en k35<|ac<|by cases h;exact rB []
    ·rintro s ⟨h,rfl⟩
     refine ai fun _ k36=>ax<|cD (by kernel_rfl) (by decide +kernel)<|tP (fa ar br)<|tR (ld br)<|tP mv<|tP mv<|tP bi<|bE h fun x37 y37 h=>tD (cG [(0,0)] [] [] (hK (Z.mk iN iO) (IntKind.i64.wrap (a1-1)) y37) FU (.inl trivial))<|tD (CC (f:=aj) (ls:=[x37.1]) (xs:=[.agg [.int .i64 x37.1.Kind,.int .i64 x37.1.N,.str x37.1.Key,.str x37.1.Value,.sl 5 (List.map aj x37.1.Kids)]]) (CB (iI _) rfl) br ar rfl rfl rfl rfl rfl rfl rfl rfl)<|gE h fun g38 h=>tD (dw (v:=List.map aj (gw++[x37.1])) W_ W_ br ar rfl rfl W_ (by first | exact .inl rfl | exact .inr ⟨rfl,rfl⟩) W_ (by first | exact .inr rfl | exact .inl rfl) (dL _ _) (dv g38))<|tP (fa ar br)<|gj none rfl rfl (gm (cs':=[.int .i64 (IntKind.i64.wrap (x12.toNat:Int)),.int .i64 0,.str (aa []),.str (aa []),.own 74 0]) W_ W_ W_ br rfl rfl rfl R_) D_<|cc (by kernel_rfl)<|k36 _<|aB<|rP mv<|rP bi<|rP Y<|aM<|bk (ra [(0,0),(4,0),(5,0),(74,0)]) ⟨x37.2.B,x37.2.Bad,(gw++[x37.1]),(IntKind.i64.wrap (js+1)),aI h hq28,rfl⟩
   ·refine sr fun _ k39=>rP bi<|rP Y<|en k39<|wi 76 h (fun c40 h=>?_) fun c40 h=>?_
    ·refine sr fun _ k41=>rP mv<|bE h fun x42 y42 h=>rD (cG [(0,0)] [] [] (jk (Z.mk (List.drop 1 a0.B) a0.Bad) y42) jo (.inl trivial))<|rP (fa ar ap)<|pZ (aA [.int .i64 (IntKind.i64.wrap (x12.toNat:Int)),.int .i64 0,.str x42.1,.str (aa []),.nil] ap)<|en k41<|aB<|rP mv<|bE h fun x43 y43 h=>rD (cG [(0,0)] [] [] (jk x42.2 y43) jo (.inl trivial))<|rP (fa ar ap)<|pZ (aA [.int .i64 (IntKind.i64.wrap (x12.toNat:Int)),.int .i64 0,.str x42.1,.str x43.1,.nil] ap)<|en k15<|sr fun _ k44=>pl 94 (.agg [.int .i64 (IntKind.i64.wrap (x12.toNat:Int)),.int .i64 0,.str x42.1,.str x43.1,.nil]) ar<|pZ (aA [.int .i64 (IntKind.i64.wrap (x12.toNat:Int)),.int .i64 0,.str x42.1,.str x43.1,.nil] ar)<|en k44<|de (dy (tl':=[(4,.ptr 4 0 0)]) (ol':=[((0,0),.box [.sl 1 (List.map ag x43.2.B),.bool x43.2.Bad]),((4,0),.box [.int .i64 (IntKind.i64.wrap (x12.toNat:Int)),.int .i64 0,.str x42.1,.str x43.1,.sl 5 (List.map aj [])])]) (ra (tl:=[(4,.ptr 4 0 0)]) (ol:=[((0,0),.box [.sl 1 (List.map ag x43.2.B),.bool x43.2.Bad]),((4,0),.box [.int .i64 (IntKind.i64.wrap (x12.toNat:Int)),.int .i64 0,.str x42.1,.str x43.1,.nil])]) (nx:=[(0,1),(4,1)]) [(0,0),(4,0)]) ⟨rfl,ao _,trivial⟩ ⟨rfl,.rfl _,rfl,(.box ⟨ao _,ao _,ao _,ao _,ba _,trivial⟩),trivial⟩)<|ac<|by cases h;exact rB []
    ·refine sr fun _ k45=>rP bi<|rP Y<|en k45<|wi 84 h (fun c46 h=>?_) fun c46 h=>?_
     ·refine aq<|k15 _<|sr fun _ k47=>pl 94 (.agg [.int .i64 (IntKind.i64.wrap (x12.toNat:Int)),.int .i64 0,.str (aa []),.str (aa []),.nil]) ar<|pZ (aA [.int .i64 (IntKind.i64.wrap (x12.toNat:Int)),.int .i64 0,.str (aa []),.str (aa []),.nil] ar)<|en k47<|de (dy (tl':=[(4,.ptr 4 0 0)]) (ol':=[((0,0),.box [.sl 1 (List.map ag (List.drop 1 a0.B)),.bool a0.Bad]),((4,0),.box [.int .i64 (IntKind.i64.wrap (x12.toNat:Int)),.int .i64 0,.str (aa []),.str (aa []),.sl 5 (List.map aj [])])]) (ra (tl:=[(4,.ptr 4 0 0)]) (ol:=[((0,0),.box [.sl 1 (List.map ag (List.drop 1 a0.B)),.bool a0.Bad]),((4,0),.box [.int .i64 (IntKind.i64.wrap (x12.toNat:Int)),.int .i64 0,.str (aa []),.str (aa []),.nil])]) (nx:=[(0,1),(4,1)]) [(0,0),(4,0)]) ⟨rfl,ao _,trivial⟩ ⟨rfl,.rfl _,rfl,(.box ⟨ao _,ao _,ao _,ao _,ba _,trivial⟩),trivial⟩)<|ac<|by cases h;exact rB []
     ·refine bE h fun q48 h hk49=>bx (fun s=>∃(ub:Bool),z5 a0 x12 ub=some r∧s=lit [(0,.ptr 0 0 0),(4,.ptr 4 0 0),(5,.ptr 5 0 0),(86,.bool ub)] [((0,0),.box [.sl 1 (List.map ag (List.drop 1 a0.B)),.bool a0.Bad]),((4,0),.box [.int .i64 0,.int .i64 0,.str (aa []),.str (aa []),.nil]),((5,0),.box [.int .i64 (IntKind.i64.wrap (x12.toNat:Int)),.int .i64 0,.str (aa []),.str (aa []),.nil])] [(0,1),(4,1),(5,1)] X) ?_ ?_
      ·skip
       refine sr fun _ k50=>rP bi<|rP Y<|en k50<|wi 86 h (fun c51 h=>?_) fun c51 h=>?_
       ·refine aq ?_
        obtain rfl:=Option.some.inj h
        have h:=hk49
        exact⟨_,ra [(0,0),(4,0),(5,0)],true,h,rfl⟩
       ·refine sr fun _ k52=>rP bi<|rP Y<|en k52<|wi 86 h (fun c53 h=>?_) fun c53 h=>?_
        ·refine aq ?_
         obtain rfl:=Option.some.inj h
         have h:=hk49
         exact⟨_,ra [(0,0),(4,0),(5,0)],true,h,rfl⟩
        ·refine sr fun _ k54=>rP bi<|rP Y<|en k54<|wi 86 h (fun c55 h=>?_) fun c55 h=>?_
         ·refine aq ?_
          obtain rfl:=Option.some.inj h
          have h:=hk49
          exact⟨_,ra [(0,0),(4,0),(5,0)],true,h,rfl⟩
         ·refine aB<|rP bi<|rP Y<|aM<|?_
          obtain rfl:=Option.some.inj h
          have h:=hk49
          exact⟨_,ra [(0,0),(4,0),(5,0)],((IntKind.i64.wrap (x12.toNat:Int)) == 9),h,rfl⟩
      ·rintro s ⟨ub,h,rfl⟩
       refine wi 86 h (fun c56 h=>?_) fun c56 h=>?_
       ·refine aB<|rP mv<|bE h fun x57 y57 h=>rD (cG [(0,0)] [] [] (dE (Z.mk (List.drop 1 a0.B) a0.Bad) 1073741824 y57) dF (.inl trivial))<|rP (fa ar ae)<|pZ (aA [.int .i64 (IntKind.i64.wrap (x12.toNat:Int)),.int .i64 x57.1,.str (aa []),.str (aa []),.nil] ae)<|en k15<|sr fun _ k58=>pl 94 (.agg [.int .i64 (IntKind.i64.wrap (x12.toNat:Int)),.int .i64 x57.1,.str (aa []),.str (aa []),.nil]) ar<|pZ (aA [.int .i64 (IntKind.i64.wrap (x12.toNat:Int)),.int .i64 x57.1,.str (aa []),.str (aa []),.nil] ar)<|en k58<|de (dy (tl':=[(4,.ptr 4 0 0)]) (ol':=[((0,0),.box [.sl 1 (List.map ag x57.2.B),.bool x57.2.Bad]),((4,0),.box [.int .i64 (IntKind.i64.wrap (x12.toNat:Int)),.int .i64 x57.1,.str (aa []),.str (aa []),.sl 5 (List.map aj [])])]) (ra (tl:=[(4,.ptr 4 0 0)]) (ol:=[((0,0),.box [.sl 1 (List.map ag x57.2.B),.bool x57.2.Bad]),((4,0),.box [.int .i64 (IntKind.i64.wrap (x12.toNat:Int)),.int .i64 x57.1,.str (aa []),.str (aa []),.nil])]) (nx:=[(0,1),(4,1)]) [(0,0),(4,0)]) ⟨rfl,ao _,trivial⟩ ⟨rfl,.rfl _,rfl,(.box ⟨ao _,ao _,ao _,ao _,ba _,trivial⟩),trivial⟩)<|ac<|by cases h;exact rB []
       ·refine aB<|rP mv<|rP nk<|rP (fa cY aN)<|pZ (aA [.sl 1 (List.map ag (List.drop 1 a0.B)),.bool true] aN)<|en k15<|sr fun _ k59=>pl 94 (.agg [.int .i64 (IntKind.i64.wrap (x12.toNat:Int)),.int .i64 0,.str (aa []),.str (aa []),.nil]) ar<|pZ (aA [.int .i64 (IntKind.i64.wrap (x12.toNat:Int)),.int .i64 0,.str (aa []),.str (aa []),.nil] ar)<|en k59<|de (dy (tl':=[(4,.ptr 4 0 0)]) (ol':=[((0,0),.box [.sl 1 (List.map ag (List.drop 1 a0.B)),.bool true]),((4,0),.box [.int .i64 (IntKind.i64.wrap (x12.toNat:Int)),.int .i64 0,.str (aa []),.str (aa []),.sl 5 (List.map aj [])])]) (ra (tl:=[(4,.ptr 4 0 0)]) (ol:=[((0,0),.box [.sl 1 (List.map ag (List.drop 1 a0.B)),.bool true]),((4,0),.box [.int .i64 (IntKind.i64.wrap (x12.toNat:Int)),.int .i64 0,.str (aa []),.str (aa []),.nil])]) (nx:=[(0,1),(4,1)]) [(0,0),(4,0)]) ⟨rfl,ao _,trivial⟩ ⟨rfl,.rfl _,rfl,(.box ⟨ao _,ao _,ao _,ao _,ba _,trivial⟩),trivial⟩)<|ac<|by cases h;exact rB []
def j9:Nat→Z→Int→Option (af×Z)
 | 0,_,_=>none
 | n+1,a0,a1=>sN (j9 n) a0 a1
theorem FY:∀(n:Nat) (a0:Z) (a1:Int) {r:af×Z},j9 n a0 a1=some r→Ok Tryz.prog 118 [.ptr 0 0 0,.int .i64 a1] [[.sl 1 (List.map ag a0.B),.bool a0.Bad]] [] (.agg [.int .i64 r.1.Kind,.int .i64 r.1.N,.str r.1.Key,.str r.1.Value,.sl 5 (List.map aj r.1.Kids)]) [[.sl 1 (List.map ag r.2.B),.bool r.2.Bad]] []
 | 0,_,_,_,h=>by simp[j9]at h
 | n+1,a0,a1,_,h=>Nf (j9 n) (FY n) a0 a1 h
def FZ (a0:Z) (a1:Int):Option (af×Z):=j9 Fu a0 a1
theorem Ng (a0:Z) (a1:Int) {r:af×Z} (h:FZ a0 a1=some r):Ok Tryz.prog 118 [.ptr 0 0 0,.int .i64 a1] [[.sl 1 (List.map ag a0.B),.bool a0.Bad]] [] (.agg [.int .i64 r.1.Kind,.int .i64 r.1.N,.str r.1.Key,.str r.1.Value,.sl 5 (List.map aj r.1.Kids)]) [[.sl 1 (List.map ag r.2.B),.bool r.2.Bad]] []:=FY Fu a0 a1 h
def pU (a0:List UInt8):Option (af×Int):=
 Option.bind (FZ (Z.mk a0 false) 5) (fun(x4:af×Z)=>if x4.2.Bad=true then(some ((af.mk 0 0 (aa []) (aa []) []),2))else(if(decide ((0:Int)<(List.length x4.2.B:Int)))=true then(some ((af.mk 0 0 (aa []) (aa []) []),2))else(Option.bind (pO x4.1) (fun(x11:Bool)=>if(!x11)=true then(some ((af.mk 0 0 (aa []) (aa []) []),2))else(some (x4.1,0))))))
theorem Nh (a0:List UInt8) {r:af×Int} (h:pU a0=some r):Ok Tryz.prog 45 [.sl 1 (List.map ag a0)] [] [] (.tup [.agg [.int .i64 r.1.Kind,.int .i64 r.1.N,.str r.1.Key,.str r.1.Value,.sl 5 (List.map aj r.1.Kids)],.int .i64 r.2]) [] []:=by
 refine oK Tryz.func45 rfl fun X=>sr fun _ k1=>rD (nw ar)<|rP Y<|en k1<|sr fun _ k2=>rP mv<|rP (cP (cs:=[.sl 1 (List.map ag a0),.bool false]) cY rfl [⟨.slice 5,1,24,[.nil]⟩,⟨.bool,1,1,[.bool false]⟩] (by simp only[List.map,aH,aN]) (by rfl) R_)<|rD (bY W_ rfl rfl)<|rP Y<|en k2<|sr fun _ k3=>rP mv<|bE h fun x4 y4 h=>rD (cG [(8,0)] [] [] (Ng (Z.mk a0 false) 5 y4) FU (.inl trivial))<|rD (nw ar)<|pZ (aA [.int .i64 x4.1.Kind,.int .i64 x4.1.N,.str x4.1.Key,.str x4.1.Value,.sl 5 (List.map aj x4.1.Kids)] ar)<|en k3<|ai fun _ k5=>sr fun _ k6=>rP mv<|rP nk<|rP (fa cY aN)<|rX (ld aN)<|rP mv<|li 15 h (fun c7 h=>?_) fun c7 h=>?_
 ·refine rS<|rS<|rS<|rS<|rS<|rS<|rP pc<|rP mv<|rS<|rS<|rS<|rP pc<|en k6<|bM D_ rfl<|sr fun _ k8=>rP (cP (cs:=[.int .i64 0,.int .i64 0,.str (aa []),.str (aa []),.nil]) ar rfl [⟨.int .i64,1,8,[.int .i64 0]⟩,⟨.int .i64,1,8,[.int .i64 0]⟩,⟨.str,1,16,[.str ByteArray.empty]⟩,⟨.str,1,16,[.str ByteArray.empty]⟩,⟨.slice 24,1,24,[.nil]⟩] (by simp only[List.map,br,ae,ap]) (by rfl) R_)<|pZ (aA [.int .i64 0,.int .i64 0,.str (aa []),.str (aa []),.nil] ar)<|rP Y<|en k8<|de (dy (tl':=[(2,.ptr 2 0 0),(3,.int .i64 2)]) (ol':=[((2,0),.box [.int .i64 0,.int .i64 0,.str (aa []),.str (aa []),.sl 5 (List.map aj [])])]) (ra (tl:=[(2,.ptr 2 0 0),(3,.int .i64 2)]) (ol:=[((2,0),.box [.int .i64 0,.int .i64 0,.str (aa []),.str (aa []),.nil])]) (nx:=[(2,1)]) [(2,0)]) ⟨rfl,ao _,rfl,ao _,trivial⟩ ⟨rfl,(.box ⟨ao _,ao _,ao _,ao _,ba _,trivial⟩),trivial⟩)<|ac<|by cases h;exact rk
 ·refine rP mv<|rP nk<|rP (fa cY aH)<|rX (ld aH)<|rP (zl aH)<|rP bi<|rP pc<|rP mv<|li 23 h (fun c9 h=>?_) fun c9 h=>?_
  ·refine rS<|rS<|rS<|rP pc<|en k6<|bM D_ rfl<|sr fun _ k10=>rP (cP (cs:=[.int .i64 0,.int .i64 0,.str (aa []),.str (aa []),.nil]) ar rfl [⟨.int .i64,1,8,[.int .i64 0]⟩,⟨.int .i64,1,8,[.int .i64 0]⟩,⟨.str,1,16,[.str ByteArray.empty]⟩,⟨.str,1,16,[.str ByteArray.empty]⟩,⟨.slice 24,1,24,[.nil]⟩] (by simp only[List.map,br,ae,ap]) (by rfl) R_)<|pZ (aA [.int .i64 0,.int .i64 0,.str (aa []),.str (aa []),.nil] ar)<|rP Y<|en k10<|de (dy (tl':=[(2,.ptr 2 0 0),(3,.int .i64 2)]) (ol':=[((2,0),.box [.int .i64 0,.int .i64 0,.str (aa []),.str (aa []),.sl 5 (List.map aj [])])]) (ra (tl:=[(2,.ptr 2 0 0),(3,.int .i64 2)]) (ol:=[((2,0),.box [.int .i64 0,.int .i64 0,.str (aa []),.str (aa []),.nil])]) (nx:=[(2,1)]) [(2,0)]) ⟨rfl,ao _,rfl,ao _,trivial⟩ ⟨rfl,(.box ⟨ao _,ao _,ao _,ao _,ba _,trivial⟩),trivial⟩)<|ac<|by cases h;exact rk
  ·refine pl 24 (.agg [.int .i64 x4.1.Kind,.int .i64 x4.1.N,.str x4.1.Key,.str x4.1.Value,.sl 5 (List.map aj x4.1.Kids)]) ar<|bE h fun x11 y11 h=>rD (cZ (zL x4.1 y11) zT)<|rP un<|rP pc<|en k6<|wi 27 h (fun c12 h=>?_) fun c12 h=>?_
   ·refine sr fun _ k13=>rP (cP (cs:=[.int .i64 0,.int .i64 0,.str (aa []),.str (aa []),.nil]) ar rfl [⟨.int .i64,1,8,[.int .i64 0]⟩,⟨.int .i64,1,8,[.int .i64 0]⟩,⟨.str,1,16,[.str ByteArray.empty]⟩,⟨.str,1,16,[.str ByteArray.empty]⟩,⟨.slice 24,1,24,[.nil]⟩] (by simp only[List.map,br,ae,ap]) (by rfl) R_)<|pZ (aA [.int .i64 0,.int .i64 0,.str (aa []),.str (aa []),.nil] ar)<|rP Y<|en k13<|de (dy (tl':=[(2,.ptr 2 0 0),(3,.int .i64 2)]) (ol':=[((2,0),.box [.int .i64 0,.int .i64 0,.str (aa []),.str (aa []),.sl 5 (List.map aj [])])]) (ra (tl:=[(2,.ptr 2 0 0),(3,.int .i64 2)]) (ol:=[((2,0),.box [.int .i64 0,.int .i64 0,.str (aa []),.str (aa []),.nil])]) (nx:=[(2,1)]) [(2,0)]) ⟨rfl,ao _,rfl,ao _,trivial⟩ ⟨rfl,(.box ⟨ao _,ao _,ao _,ao _,ba _,trivial⟩),trivial⟩)<|ac<|by cases h;exact rk
   ·refine aq<|k5 _<|sr fun _ k14=>pl 29 (.agg [.int .i64 x4.1.Kind,.int .i64 x4.1.N,.str x4.1.Key,.str x4.1.Value,.sl 5 (List.map aj x4.1.Kids)]) ar<|pZ (aA [.int .i64 x4.1.Kind,.int .i64 x4.1.N,.str x4.1.Key,.str x4.1.Value,.sl 5 (List.map aj x4.1.Kids)] ar)<|rP Y<|en k14<|ac<|by cases h;exact rk
end Go.Proofs.YtjklegmimpehlaaGreat.Ab
