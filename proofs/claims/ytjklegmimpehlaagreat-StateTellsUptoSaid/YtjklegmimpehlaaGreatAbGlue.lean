import Derived.Test.YtjklegmimpehlaaGreatAbOps6
import Derived.KernelRfl
namespace Go.Proofs.YtjklegmimpehlaaGreat.Ab
open Go Go.RowKit
set_option linter.unusedVariables false
set_option linter.unusedSimpArgs false
variable {P:Program} {N:Nat} {ops:Array Oper} {s:St} {dst:Option Tmp} {type:TypeId} {pos:String} {after:Array Edge} {guard:Option (Nat×Bool)}
theorem bw.cast {o:Oper} {v v':PV} {L:List (Nat×Nat)} {U:List ((Nat×Nat)×Option cb)} {M:List Nat} (h:bw P N ops o s ⟨L,v,U,M⟩) (e:v=v'):bw P N ops o s ⟨L,v',U,M⟩:=e ▸ h
theorem bw.castp {o:Oper} {v v':PV} (h:bw P N ops o s (cN v)) (e:v=v'):bw P N ops o s (cN v'):=e ▸ h
theorem Hw {nm nn:Nm}:ly s nm nn []:=trivial
theorem Hx {nm nn:Nm} {t:Nat} {v v':PV} {r:List (Nat×PV)} (h:o5 s nm nn (s.env t)=some v) (e:v=v') (hr:ly s nm nn r):ly s nm nn ((t,v') :: r):=⟨e ▸ h,hr⟩
theorem Hy {nm nn:Nm}:lz s nm nn [] []:=trivial
theorem Hz {nm nn ps:Nm} {p q:Nat×Nat} {o o1 o2:cb} {r:List ((Nat×Nat)×cb)} (h:s.heap p.1 p.2=some o) (h1:iA s nm nn o=some o1) (e:o1=o2) (h0:q.1=0→p=q) (hr:lz s nm nn ps r):lz s nm nn (p :: ps) ((q,o2) :: r):=
 ⟨⟨o,h,e ▸ h1⟩,h0,hr⟩
theorem HA {rs:Array ResultVar} {r r':PV} {e:Exit} {pv:PV} (hpv:s.resPV P rs.toList=some pv) (hr:s.retV 0 [] pv=some r') (he:r'=r) (hex:e = .normal∨e = .ret) (hlt:rs.toList.all (o6 N)=true):mZ P N rs r [] [] e s:=
 Dq [] hpv (he ▸ hr) trivial trivial List.nodup_nil hex hlt
theorem Ck {p:Nat×Nat} {ps:Nm} {e sz:Nat} {xs ys:List PV} {qs:List cS} (h:s.heap p.1 p.2=some (.arr e sz false xs)) (he:xs=ys) (hr:kF s ps qs):kF s (p :: ps) ((e,sz,ys) :: qs):=⟨he ▸ h,hr⟩
theorem dw {d:Nat} {t e:TypeId} {x y:Operand} {ty:TypeId} {sz by_:Nat} {z:List PV} {ei:dc} {p q:PV} {xs ys v:List PV} {be bs ysz:Nat} {U:List ((Nat×Nat)×Option cb)} {L:List (Nat×Nat)} (hx:s.ev x=p) (hy:s.ev y=q)
  (ht:bm P t=some ⟨.slice e,sz,by_,z⟩) (he:bm P e=some ei) (hz:ei.zero.length=ei.size) (hz0:ei.zero.isEmpty=false) (hbs:s.base p=some (xs,be,bs,U)) (hbe:p = .nil∨(be=e∧bs=ei.size)) (hsr:s.src q=some (ys,ysz,L)) (hys:ys=[]∨ysz=ei.size)
  (hv:xs++ys=v) (hbytes:v.length*ei.bytes≤140737488355328∧v.length≤140737488355328) :
  bw P N ops ⟨some d,.call ⟨.builtin .append,#[x,y],#[t,t]⟩,ty,pos,after,guard⟩ s ⟨L,.own d (s.next d),((d,s.next d),some (.arr e ei.size false v)) :: U,[d]⟩:=by
 subst hv
 rw[List.length_append]at hbytes
 exact ID hx hy ht he hz (by intro h;rw[h]at hz0;cases hz0) hbs hbe hsr hys hbytes.1 hbytes.2
theorem Cl {d:Nat} {t e:TypeId} {len:Nat} {ps:Array (Nat×Operand)} {sz by_:Nat} {z:List PV} {ei:dc} {xs:List PV} {ps':List (Nat×PV)} {L:List (Nat×Nat)} (ht:bm P t=some ⟨.slice e,sz,by_,z⟩) (he:bm P e=some ei)
  (hz:ei.zero.isEmpty=false) (hzl:Nat.beq ei.zero.length ei.size=true) (hlen:Nat.beq xs.length len=true) (hw:xs.all (fun x=>Nat.beq x.cells.length ei.size)=true) (h24:Nat.ble (len*ei.size) 16777216=true) (hlow:s.lowP (gy s ps.toList)=some (ps',L)) (ho:(bj xs).all PV.one=true)
  (hf:kD (fun i=>some (i*ei.size,ei.size)) ((List.replicate len ei.zero).flatten) ps'=some (bj xs)) :
  bw P N ops ⟨some d,.buildSlice t len ps,type,pos,after,guard⟩ s ⟨L,.own d (s.next d),[((d,s.next d),some (.arr e ei.size false xs))],[d]⟩:=
 IB ht he (by intro h;rw[h]at hz;cases hz) (Nat.eq_of_beq_eq_true hzl) (Nat.eq_of_beq_eq_true hlen) (fun x hx=>by rw[List.all_eq_true]at hw;exact Nat.eq_of_beq_eq_true (hw x hx)) (Nat.le_of_ble_eq_true h24) hlow (rM ho) hf
def xU (x y:Fx):Bool:=
 (x.U.all fun p=>(y.L.all fun q=>!(p.1 == q))&&(y.U.all fun q=>!(p.1 == q.1)))&&(y.U.all fun p=>x.L.all fun q=>!(p.1 == q))&&(x.N.all fun d=>y.N.all fun d'=>!(d == d'))
theorem HB {x y:Fx} (h:xU x y=true):rL x y:=by
 simp only[xU,Bool.and_eq_true,List.all_eq_true,Bool.not_eq_true',beq_eq_false_iff_ne]at h
 obtain⟨⟨h1,h2⟩,h3⟩:=h
 exact⟨fun p hp=>(h1 p hp).1,fun p hp=>(h1 p hp).2,h2,fun d hd hd'=>h3 d hd d hd' rfl⟩
def rC (b:Nat→Nat→Bool):List (Nat×Fx)→Bool
 | []=>true
 | (i,x) :: r=>(r.all fun q=>xU x q.2||b i q.1)&&rC b r
theorem Cm {b:Nat→Nat→Bool}:∀{fx:List (Nat×Fx)},rC b fx=true→iS b fx
 | [],_=>trivial
 | (i,x) :: r,h=>by
  simp only[rC,Bool.and_eq_true,List.all_eq_true,Bool.or_eq_true]at h
  exact⟨fun q hq=>(h.1 q hq).symm.imp id HB,Cm h.2⟩
theorem HC {fx:List (Nat×Fx)} {b:Nat→Nat→Bool} (h:rC b fx=true):∀w,some b=some w→iS w fx:=GT (Cm h)
def na:Nm→Bool
 | []=>true
 | p :: r=>r.all (fun q=>!(p.1 == q.1&&p.2 == q.2))&&na r
theorem oT:∀{l:Nm},na l=true→l.Nodup
 | [],_=>List.nodup_nil
 | p :: r,h=>by
  simp only[na,Bool.and_eq_true,List.all_eq_true,Bool.not_eq_true',Bool.and_eq_false_iff,beq_eq_false_iff_ne]at h
  refine List.nodup_cons.2 ⟨fun hp=>?_,oT h.2⟩
  rcases h.1 p hp with h | h<;>exact h rfl
theorem cc {Q:Exit→St→Prop} {bb:Nat→Nat→Bool} {i:Nat} {fx:List (Nat×Fx)} (hp:rC bb fx=true) (h:Q .normal s):AO P N ops (some bb) i fx [] s Q:=GQ (HC hp) h
def St.nilOwn (s:St) (t e sz:Nat):St:=
 { env:=iT s.env t (.own t (s.next t)),heap:=fun a m=>if a=t∧m=s.next t then some (.arr e sz false [])else s.heap a m,next:=fun a=>if a=t then s.next t+1 else s.next a,X:=s.X }
theorem HD {t e sz:Nat} (h:s.env t = .nil) (ht:t<N) (hp:0<sz):eH N s (s.nilOwn t e sz):=by
 refine⟨rfl,fun w0 Mv J a w hs=>?_⟩
 have hnew:=hs.nxt t (s.next t) (Nat.le_refl _)
 let J':bI:=cT J t (s.next t) (.slice none 0 0)
 have hJ:∀d n v,J d n=some v→J' d n=some v:=by
  intro d n v hv
  simp only[J',cT]
  split
  ·rename_i hc;obtain⟨rfl,rfl⟩:=hc;rw[hnew.2]at hv;cases hv
  ·exact hv
 have hJn:J' t (s.next t)=some (.slice none 0 0):=by simp[J',cT]
 have hJo:∀d n v,¬(d=t∧n=s.next t)→J' d n=some v→J d n=some v:=fun d n v hc hv=>by simpa [J',cT,hc] using hv
 let s1:St:={ s.nilOwn t e sz with env:=s.env }
 have hh1:∀a m,s1.heap a m=if a=t∧m=s.next t then some (.arr e sz false [])else s.heap a m:=fun a m=>rfl
 have hM:∀b,cJ s1 J' b→cJ s J b:=by
  rintro b ⟨d,n,o,v,h1,h2,h3,h4⟩
  rw[hh1]at h1
  split at h1
  ·rename_i hc
   obtain⟨rfl,rfl⟩:=hc
   rw[hJn]at h3
   injection h3 with h3
   subst h3
   cases h4
  ·rename_i hc
   exact⟨d,n,o,v,h1,h2,hJo _ _ _ hc h3,h4⟩
 have h1:bK w0 Mv N J' s1 a w:=by
  refine hs.update (row:=none) (World.grownBy.refl w none) (Nat.le_refl _) (by simp) hJ rfl rfl (fun b _ hm=>hM b hm) (fun d n o h1=>?_) (fun d1 n1 d2 n2 o1 o2 v1 v2 g k1 k2 k3 k4 k5 k6=>?_) (fun d n hle=>?_) (fun d n o v g k1 k2 k3=>?_)
  ·rw[hh1]at h1
   split at h1
   ·rename_i hc
    obtain⟨rfl,rfl⟩:=hc
    injection h1 with h1
    subst h1
    exact .inr ⟨_,[],hJn,⟨by simp,.inl ⟨rfl,rfl⟩⟩,hp,by simp,by simp[bj],by simp[bj]⟩
   ·exact .inl ⟨h1,by simp⟩
  ·rw[hh1]at k1 k2
   by_cases c1:d1=t∧n1=s.next t
   ·obtain⟨rfl,rfl⟩:=c1
    rw[hJn]at k3
    injection k3 with k3
    subst k3
    cases k5
   ·by_cases c2:d2=t∧n2=s.next t
    ·obtain⟨rfl,rfl⟩:=c2
     rw[hJn]at k4
     injection k4 with k4
     subst k4
     cases k6
    ·rw[if_neg c1]at k1
     rw[if_neg c2]at k2
     exact hs.sep _ _ _ _ _ _ _ _ g k1 k2 (hJo _ _ _ c1 k3) (hJo _ _ _ c2 k4) k5 k6
  ·have hc:¬(d=t∧n=s.next t):=by
    rintro⟨rfl,rfl⟩
    simp[s1,St.nilOwn]at hle
    omega
   have hle0:(if d=t then s.next t+1 else s.next d)≤n:=hle
   have hle':s.next d≤n:=by
    clear hle
    have hle:=hle0
    split at hle
    ·rename_i e;subst e;omega
    ·exact hle
   have:=hs.nxt d n hle'
   exact⟨by rw[hh1,if_neg hc];exact this.1,by simp[J',cT,hc,this.2]⟩
  ·rw[hh1]at k1
   by_cases c1:d=t∧n=s.next t
   ·obtain⟨rfl,rfl⟩:=c1
    rw[hJn]at k2
    injection k2 with k2
    subst k2
    cases k3
   ·rw[if_neg c1]at k1
    exact hs.sepX _ _ _ _ g k1 (hJo _ _ _ c1 k2) k3
 have hv:=hs.env t ht
 rw[h]at hv
 have hval:a.tmps.getD t Go.undef = .slice none 0 0:=by
  generalize a.tmps.getD t Go.undef=u at hv
  cases hv
  rfl
 have h2:=h1.put_of (s:=s) (s'':=s.nilOwn t e sz) (some t) (pv:=.own t (s.next t)) (v:=.slice none 0 0) (.own _ _ _ _ _ _ hJn) rfl rfl rfl rfl rfl
 have hat:a.put (some t) (.slice none 0 0)=a:=by
  have hs':t<a.tmps.size:=by rw[hs.size];exact ht
  cases a
  simp only[Act.put]
  dsimp only at hval hs'
  congr 1
  apply Array.ext_getElem?
  intro i
  rw[Array.getElem?_setIfInBounds]
  split
  ·rename_i e
   subst e
   rw[Array.getD_eq_getD_getElem?,Array.getElem?_eq_getElem hs',Option.getD_some]at hval
   rw[Array.getElem?_eq_getElem hs',hval]
  ·rfl
 rw[hat]at h2
 exact⟨J',h2⟩
theorem eZ {c:Code} {Q:Exit→St→Prop} (t e sz:Nat) (h:s.env t = .nil) (ht:t<N) (hp:0<sz) (k:AW P N c (s.nilOwn t e sz) Q):AW P N c s Q:=de (HD h ht hp) k
theorem Cn {s:St} {d n e sz i off:Nat} {fz:Bool} {xs:List PV} {x:PV} (h:s.heap d n=some (.arr e sz fz xs)) (hx:xs[i]? = some x):s.cellsAt (.eptr d n sz i off)=some (x.cells.drop off,[(d,n)]):=by
 simp[St.cellsAt,h,hx]
def rE (b:List UInt8):List PV:=b.map fun c=>.int .u8 (c.toNat:Int)
theorem HE (b:List UInt8):(rE b).length=b.length:=by simp[rE]
end Go.Proofs.YtjklegmimpehlaaGreat.Ab
