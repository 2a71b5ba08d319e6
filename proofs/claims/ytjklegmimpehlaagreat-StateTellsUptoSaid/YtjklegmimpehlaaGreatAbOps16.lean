import Derived.Test.YtjklegmimpehlaaGreatAbAuto
import Derived.Lib.AppendStr
import Derived.Laws.BytesString
import Derived.Laws.Cover3
namespace Go.Proofs.YtjklegmimpehlaaGreat.Ab
open Go Go.RowKit
set_option linter.unusedVariables false
set_option linter.unusedSimpArgs false
variable {P:Program} {N:Nat} {ops:Array Oper} {dst:Option Tmp} {type:TypeId} {pos:String} {after:Array Edge} {guard:Option (Nat×Bool)} {s:St}
theorem Cq {α:Type} {f:α→PV} {l:List α} {i:Int} {x:α} (h:l[i.toNat]? = some x):i<((List.map f l).length:Int):=by
 have:=(List.getElem?_eq_some_iff.1 h).1
 rw[List.length_map];omega
theorem mh {α:Type} {f:α→PV} (l:List α) (i:Nat):((List.map f l).take (List.map f l).length).drop i=List.map f (List.drop i l):=by rw[List.take_length,List.map_drop]
theorem nc {α:Type} {f:α→PV} (l:List α) (k:Nat):((List.map f l).take k).drop 0=List.map f (List.take k l):=by rw[List.drop_zero,List.map_take]
theorem iW (x:Int):0≤IntKind.u8.wrap x∧IntKind.u8.wrap x<256:=by
 simp only[IntKind.wrap,IntKind.bits,IntKind.signed]
 simp;omega
theorem uz (op:BinOp) (x y:Int):0≤bits op .u8 x y∧bits op .u8 x y<256:=by
 unfold bits
 split<;>exact iW _
theorem db {o:Oper} {d n e sz:Nat} {fz:Bool} {xs:List PV} {L:List (Nat×Nat)} {v:PV} {U:List ((Nat×Nat)×Option cb)} {M:List Nat} (hb:s.heap d n=some (.arr e sz fz xs))
  (h:bw P N ops o (s.setH d n (some (.arr e sz true xs))) ⟨L,v,U,M⟩):bw P N ops o s ⟨L,v,U++[((d,n),some (.arr e sz true xs))],M⟩:=by
 intro s' ha hlt w0 Mv J a w hs Q
 have hb':s'.heap d n=some (.arr e sz fz xs):=(ha.up ((d,n),some (.arr e sz true xs)) (by simp)).trans hb
 have hag:fU ops o ⟨L,v,U,M⟩ (s.setH d n (some (.arr e sz true xs))) (s'.setH d n (some (.arr e sz true xs))):=by
  refine⟨ha.env,fun p hp=>?_,fun p hp=>?_,ha.nx⟩
  ·simp only[St.setH];split
   ·rfl
   ·exact ha.rd p hp
  ·simp only[St.setH];split
   ·rfl
   ·exact ha.up p (List.mem_append_left _ hp)
 have:=h _ hag hlt w0 Mv J a w (hs.freeze hb') Q
 have he:(s'.setH d n (some (.arr e sz true xs))).app o.dst ⟨L,v,U,M⟩=s'.app o.dst ⟨L,v,U++[((d,n),some (.arr e sz true xs))],M⟩:=by
  have h1:∀a m,look U a m ((s'.setH d n (some (.arr e sz true xs))).heap a m)=look (U++[((d,n),some (.arr e sz true xs))]) a m (s'.heap a m):=by
   intro a m
   rw[xN]
   congr 1
  cases o.dst<;>simp only[St.app,h1]<;>rfl
 rw[he]at this
 exact this
def aa (l:List UInt8):ByteArray:=⟨l.toArray⟩
def eG (s:ByteArray):List UInt8:=s.data.toList
theorem HN (s:ByteArray):aa (eG s)=s:=by cases s;simp[aa,eG]
theorem Cr (l:List UInt8):eG (aa l)=l:=by simp[aa,eG]
theorem iX (s:ByteArray):(eG s).length=s.size:=by simp[eG]
theorem Cs:∀(l:List UInt8) (s:ByteArray),(l.map fun c=>(c.toNat:Int)).foldl (fun r n=>r.push (UInt8.ofNat n.toNat)) s=⟨s.data++l.toArray⟩
 | [],s=>by simp
 | c :: l,s=>by
  simp only[List.map_cons,List.foldl_cons]
  rw[Cs l]
  simp[ByteArray.push]
theorem mi {t u e:TypeId} {x:Operand} {p:PV} {l:List UInt8} {sz:Nat} {f:UInt8→PV} {L:List (Nat×Nat)} (hx:s.ev x=p) (hsr:s.src p=some (List.map f l,sz,L)) (hsz:sz≤1) (ht:P.underlying t=some (.slice e)) (he:P.underlying e=some (.int .u8)) (hu:P.underlying u=some .string)
  (hf:∀c,f c = .int .u8 (c.toNat:Int)):bw P N ops ⟨dst,.convert t u x,type,pos,after,guard⟩ s ⟨L,.str (aa l),[],[]⟩:=
 rG _ _ fun w0 Mv J s' a w hs hL hr=>by
  have h3:=hr x (by simp[Op.operands])
  rw[hx]at h3
  obtain⟨A,c,hv,hsrc⟩:=Dc hs (Dd hsr hL) h3
  refine⟨.string (aa l),0,?_,.str _ _⟩
  have hfl:bj (List.map f l)=l.map fun c=>.int .u8 (c.toNat:Int):=by
   clear hsr hv hsrc
   induction l with
   | nil=>rfl
   | cons c l ih=>simp only[List.map_cons,bj,List.flatMap_cons,hf,PV.cells]at ih ⊢;rw[ih];rfl
  simp only[execOp,hv,Sem.run_bind]
  rw[run_convert_bytes_string w t u e A _ c ht he hu]
  rcases hsrc with ⟨rfl,hn⟩ | ⟨ad,us,rfl,hul,_,_,hcell,hrep⟩
  ·have:l=[]:=by simpa using hn
   subst this
   simp[Conv.bytesToString,Sem.run_pure]
   exact⟨rfl,rfl⟩
  ·have hus:us=(l.map fun c=>(c.toNat:Int)).map (Value.int .u8):=by
    apply List.ext_getElem?
    intro i
    by_cases hi:i<l.length
    ·have h1:(bj (List.map f l))[i]? = some (.int .u8 ((l[i].toNat:Nat):Int)):=by rw[hfl];simp[hi]
     have hil:i<us.length:=by rw[hul,hfl];simpa using hi
     have:=hrep i _ _ h1 (List.getElem?_eq_getElem hil)
     rw[List.getElem?_eq_getElem hil]
     generalize us[i]=y at this
     cases this
     simp[hi]
    ·rw[List.getElem?_eq_none (by rw[hul,hfl];simpa using hi),List.getElem?_eq_none (by simpa using hi)]
   have hlen:(List.map f l).length=us.length:=by rw[hul,hfl];simp
   have hload:=run_loadCells_list (P:=P) (w:=w) ad us hcell
   rw[hlen]
   rw[run_bytesToString w ad us.length c (l.map fun c=>(c.toNat:Int)) (by rw[hload,hus]),Cs]
   simp[aa,World.drewN]
theorem Ct {w:World} {t u ty e:TypeId} {i:TypeInfo} (ht:P.underlying t=some (.slice e)) (hu:P.underlying u=some .string) (hi:P.info? e=some i) (hz:i.zero=some (.int .u8 0)) (hsize:i.size=1) (hby:i.bytes=1)
  (v:Value) (n:Nat) (xs:List Value) (hown:w.ownsRow 0 e 1 v n xs) (b:ByteArray) (hb:n+b.size≤140737488355328) :
  ∃v' w',(Builtin.append_ #[t,u] ty #[v,.string b]).run P w = .ok v' w'∧w'.ownsRow 0 e 1 v' (n+b.size) (xs++Go.Lib.strCells b)∧w.grownBy w' v.ownBlock∧(v'.ownBlock=v.ownBlock∨v'.ownBlock=some w.heap.size):=by
 obtain⟨v',w',h1,h2,h3,h4⟩:=Go.Lib.run_append_own_string (P:=P) w 0 t u ty e i ht hu hi hz hsize hby v n xs hown b (by simp only[maxLen];omega) hb (Nat.zero_le _)
 refine⟨v',w',h1,h2,h3,?_⟩
 rcases hown.2 with ⟨rfl,rfl⟩ | ⟨g,cap,cur,rfl,hbg,hg,hnc,hcm,hcs,htake⟩
 ·by_cases hm:b.size=0
  ·have:=h4.2 ⟨rfl,hm⟩;subst this;exact .inl rfl
  ·have hr:=run_append_nil_string (P:=P) w t u ty e i (.int .u8 0) ht hu hi hz b (by omega) (by omega) (by rw[hby];omega)
   rw[h1]at hr
   injection hr with e1 e2
   subst e1
   exact .inr rfl
 ·by_cases hroom:n+b.size≤cap
  ·have hcs':cur.size=cap:=by simpa using hcs
   have hr:=Go.Lib.run_append_room_string (P:=P) w t u ty e i ht hu hi hsize g n cap cur hg b hroom (by omega)
   rw[h1]at hr
   injection hr with e1 e2
   subst e1
   exact .inl rfl
  ·have hxl:xs.length=n:=by simpa using hown.1
   have holds:∀j u,xs[j]? = some u→w.cell? ((⟨g,0,none⟩:Addr).add j)=some u:=hown.cells (g:=g) rfl
   have hr:=Go.Lib.run_append_grow_string (P:=P) w t u ty e i (.int .u8 0) ht hu hi hz ⟨g,0,none⟩ n cap xs (by rw[hsize];simpa using hxl) holds b (by omega) (by omega) (by rw[hby];exact growslice_fits (by omega) (by omega))
   rw[h1]at hr
   injection hr with e1 e2
   subst e1
   exact .inr rfl
theorem HO {w:World} {t u ty e:TypeId} {i:TypeInfo} (ht:P.underlying t=some (.slice e)) (hu:P.underlying u=some .string) (hi:P.info? e=some i) (hz:i.zero=some (.int .u8 0)) (hsize:i.size=1) (hby:i.bytes=1)
  (ab:Addr) (b:ByteArray) (hb:b.size≤140737488355328) :
  ∃rv v' w',(Builtin.append_ #[t,u] ty #[.slice (some ab) 0 0,.string b]).run P w = .ok rv w'∧(rv=v'∨∃ab,rv = .slice (some ab) 0 0∧v' = .slice none 0 0)∧w'.ownsRow 0 e 1 v' b.size (Go.Lib.strCells b)∧w.grownBy w' none∧(v'.ownBlock=none∨v'.ownBlock=some w.heap.size):=by
 by_cases hm:b.size=0
 ·have hn:Go.Lib.strCells b=[]:=List.eq_nil_of_length_eq_zero (by rw[Go.Lib.strCells_length];exact hm)
  refine⟨_,.slice none 0 0,w,?_,.inr ⟨ab,rfl,rfl⟩,by rw[hm,hn];exact World.ownsRow_nil w 0 e 1,World.grownBy.refl w _,.inl rfl⟩
  have hf:=Go.Lib.run_firstCells_string (P:=P) w 1 b
  rw[hm]at hf
  simp[Builtin.append_,run_underlying ht,run_underlying hu,sizeOf,typeInfo,hi,hsize,Builtin.lenOf,hm,hf,hn,storeCells]
 ·obtain⟨v',w',h1,h2,h3,h4⟩:=Ct (P:=P) (ty:=ty) ht hu hi hz hsize hby (.slice none 0 0) 0 [] (World.ownsRow_nil w 0 e 1) b (by omega)
  have hr:=run_append_nil_string (P:=P) w t u ty e i (.int .u8 0) ht hu hi hz b (by omega) (by omega) (by rw[hby];omega)
  have hg:=Go.Lib.run_append_grow_string (P:=P) w t u ty e i (.int .u8 0) ht hu hi hz ab 0 0 [] (by simp) (by simp) b (by omega) (by omega) (by rw[hby];exact growslice_fits (by omega) (by omega))
  have e1:(b.data.map fun b=>Value.int .u8 b.toNat)=(Go.Lib.strCells b).toArray:=by
   apply Array.ext'
   simp[Go.Lib.strCells]
  simp only[Nat.zero_add,List.nil_append,Array.empty_append]at hg h2
  rw[e1,h1]at hr
  rw[← hr]at hg
  refine⟨v',v',w',hg,.inl rfl,h2,h3,h4⟩
theorem HP {d:Nat} {t u e:TypeId} {x y:Operand} {ty:TypeId} {sz by_:Nat} {z:List PV} {b:ByteArray} {p:PV} {xs:List PV} {be bs:Nat} {U:List ((Nat×Nat)×Option cb)} (hx:s.ev x=p) (hy:s.ev y = .str b)
  (ht:bm P t=some ⟨.slice e,sz,by_,z⟩) (he:bm P e=some ⟨.int .u8,1,1,[.int .u8 0]⟩) (hz:(P.info? e).bind (·.zero)=some (.int .u8 0)) (hu:P.underlying u=some .string) (hbs:s.base p=some (xs,be,bs,U)) (hbe:p = .nil∨(be=e∧bs=1)) (hmax:xs.length+b.size≤140737488355328) :
  bw P N ops ⟨some d,.call ⟨.builtin .append,#[x,y],#[t,u]⟩,ty,pos,after,guard⟩ s ⟨[],.own d (s.next d),((d,s.next d),some (.arr e 1 false (xs++(eG b).map fun c=>.int .u8 (c.toNat:Int)))) :: U,[d]⟩:=by
 intro s' ha hlt w0 Mv J a w hs Q
 have hnx:=ha.nx d List.mem_cons_self
 have hrx:=iU hs (x:=x) fun t ht=>hlt t (iw (by subst ht;simp[Op.operands,Call.operands]))
 have hry:=iU hs (x:=y) fun t ht=>hlt t (iw (by subst ht;simp[Op.operands,Call.operands]))
 rw[iV ha (by simp[Op.operands,Call.operands]),hx]at hrx
 rw[iV ha (by simp[Op.operands,Call.operands]),hy]at hry
 obtain⟨i,dd,h1,h2,h3,h4,h5,h6⟩:=hO he
 dsimp only at h3 h4 h5 h6
 have hzero:i.zero=some (.int .u8 0):=by rw[h1]at hz;exact hz
 generalize hcy:a.eval y=cy at hry
 cases hry
 have hbase:∃v old zs,(a.eval x=v∨∃ab,a.eval x = .slice (some ab) 0 0∧v = .slice none 0 0)∧w.ownsRow 0 e 1 v xs.length zs∧(∀x∈xs,x.cells.length=1)∧(∀c∈bj xs,c.one=true)∧(∀(k:Nat) (c:PV) (y:Value),(bj xs)[k]? = some c→zs[k]? = some y→aG w (aT s' J) dg c y) ∧
   (∀d n,old=some (d,n)→∃o,s'.heap d n=some o∧o.mut=true∧J d n=some v)∧(old=none→cq v=none)∧(∀a m o,look U a m o=if old=some (a,m)then none else o):=by
  unfold St.base at hbs
  split at hbs
  ·injection hbs with hbs;injection hbs with e1 e2;injection e2 with e2 e3;injection e3 with e3 e4;subst e1 e2 e3 e4
   generalize hcx:a.eval x=cx at hrx
   cases hrx
   refine⟨_,none,[],.inl rfl,World.ownsRow_nil _ _ _ _,?_,?_,?_,?_,fun _=>rfl,?_⟩<;>simp[bj,look]
  ·rename_i dn nn
   split at hbs
   ·rename_i e' sz' xs' hb
    injection hbs with hbs;injection hbs with e1 e2;injection e2 with e2 e3;injection e3 with e3 e4;subst e1 e2 e3 e4
    rcases hbe with hbe | ⟨rfl,rfl⟩
    ·cases hbe
    have hb':s'.heap dn nn=some (.arr e' 1 false xs'):=(ha.up ((dn,nn),none) (by simp)).trans hb
    obtain⟨u,zs,hJ,hown,hp0,hw,ho,hr⟩:=hs.obj dn nn _ hb'
    have hu:a.eval x=u∨∃ab,a.eval x = .slice (some ab) 0 0∧u = .slice none 0 0:=oX hrx hJ
    refine⟨u,some (dn,nn),zs,hu,hown,hw,ho,hr,?_,by simp,?_⟩
    ·intro d' n' e
     injection e with e
     injection e with e1 e2
     subst e1 e2
     exact⟨_,hb',rfl,hJ⟩
    ·intro a' m' o'
     simp only[look,Option.some.injEq,Prod.mk.injEq]
     by_cases hc:a'=dn∧m'=nn
     ·rw[if_pos hc,if_pos ⟨hc.1.symm,hc.2.symm⟩]
     ·rw[if_neg hc,if_neg (fun h=>hc ⟨h.1.symm,h.2.symm⟩)]
   ·cases hbs
  ·cases hbs
 obtain⟨v,old,zs,hvx,hown,hw,ho,hr,hold,hnone,hlook⟩:=hbase
 have hrun:∃rv v' w',(Builtin.append_ #[t,u] ty #[a.eval x,.string b]).run P w = .ok rv w'∧(rv=v'∨∃ab,rv = .slice (some ab) 0 0∧v' = .slice none 0 0)∧w'.ownsRow 0 e 1 v' (xs.length+b.size) (zs++Go.Lib.strCells b)∧w.grownBy w' v.ownBlock∧(v'.ownBlock=v.ownBlock∨v'.ownBlock=some w.heap.size):=by
  rcases hvx with hvx | ⟨ab,hvx,rfl⟩
  ·obtain⟨v',w',k1,k2,k3,k4⟩:=Ct (P:=P) (ty:=ty) (eA ht) hu h1 hzero h4 h5 v xs.length zs hown b hmax
   exact⟨v',v',w',by rw[hvx];exact k1,.inl rfl,k2,k3,k4⟩
  ·have hz0:xs.length=0:=rK hown
   have hzl:zs=[]:=List.eq_nil_of_length_eq_zero (by rw[hown.1,hz0,Nat.zero_mul])
   obtain⟨rv,v',w',k1,k2,k3,k4,k5⟩:=HO (P:=P) (w:=w) (ty:=ty) (eA ht) hu h1 hzero h4 h5 ab b (by omega)
   exact⟨rv,v',w',by rw[hvx];exact k1,k2,by rw[hz0,hzl,Nat.zero_add];exact k3,k4,k5⟩
 obtain⟨rv,v',w',hrun,hrv,hown',hgr,hbl⟩:=hrun
 obtain⟨A1,c1,hvf⟩:=lv hown
 obtain⟨A2,c2,hvf'⟩:=lv hown'
 have hzl:zs.length=(bj xs).length:=by rw[hown.1,jL hw]
 have hb1:=lw hvf
 have hb2:=lw hvf'
 have hgr':w.grownBy w' (cq v):=by rw[hb1];exact hgr
 have hbl':cq v'=cq v∨cq v'=some w.heap.size:=by rw[hb1,hb2];exact hbl
 let ys:List PV:=(eG b).map fun c=>.int .u8 (c.toNat:Int)
 have hyl:ys.length=b.size:=by simp[ys,iX]
 have hfy:bj ys=ys:=by
  show bj ((eG b).map _)=(eG b).map _
  generalize eG b=l
  induction l with
  | nil=>rfl
  | cons c l ih=>simp only[List.map_cons,bj,List.flatMap_cons,PV.cells]at ih ⊢;rw[ih];rfl
 have hstep:=hs.regrow d (o':=.arr e 1 false (xs++ys)) (v:=v) (v':=v') (w':=w') old hold hnone hgr' (fJ _ hrun) hbl'
  (s':={ s'.app (some d) ⟨[],.own d (s.next d),((d,s.next d),some (.arr e 1 false (xs++ys))) :: U,[d]⟩with env:=s'.env }) rfl rfl
  (fun a m=>by
   show look _ a m (s'.heap a m)=_
   simp only[look]
   rw[hnx,hlook])
  (fun a=>by
   show s'.next a+fk [d] a=_
   simp only[fk,Nat.add_zero]
   split<;>simp_all)
  (fun M J' hJ' hmono=>⟨v',zs++Go.Lib.strCells b,hJ',by rw[List.length_append,hyl];exact hown',by decide,fun x hx=>by
    rcases List.mem_append.1 hx with hx | hx
    ·exact hw x hx
    ·simp only[ys,List.mem_map]at hx;obtain⟨c,_,rfl⟩:=hx;rfl,fun c hc=>by
    rw[uw]at hc
    rcases List.mem_append.1 hc with hc | hc
    ·exact ho c hc
    ·rw[hfy]at hc;simp only[ys,List.mem_map]at hc;obtain⟨c,_,rfl⟩:=hc;rfl,fun k c u hc hu=>by
    rw[uw]at hc
    by_cases hk:k<(bj xs).length
    ·rw[List.getElem?_append_left hk]at hc
     rw[List.getElem?_append_left (by omega)]at hu
     exact hmono _ _ _ (hr k c u hc hu)
    ·rw[List.getElem?_append_right (by omega)]at hc
     rw[List.getElem?_append_right (by omega),hzl]at hu
     rw[hfy]at hc
     simp only[ys,eG,List.getElem?_map,Option.map_eq_some_iff]at hc
     simp only[Go.Lib.strCells,List.getElem?_map,Option.map_eq_some_iff]at hu
     obtain⟨q,h1,rfl⟩:=hc
     obtain⟨q',h2,rfl⟩:=hu
     rw[h1]at h2
     injection h2 with h2
     subst h2
     exact .int _ _ _⟩)
 unfold Oper.wp execOp
 simp only[resolve,invoke,builtin,Sem.run_bind,Sem.run_pure,Result.andThen_ok,List.map_toArray,List.map_cons,List.map_nil,hcy,hrun]
 rw[Oper.upon_value]
 have hrep:aG w' (aT { s'.app (some d) ⟨[],.own d (s.next d),((d,s.next d),some (.arr e 1 false (xs++ys))) :: U,[d]⟩with env:=s'.env } (cT J d (s'.next d) v')) (cT J d (s'.next d) v') (.own d (s.next d)) rv:=by
  rcases hrv with rfl | ⟨ab,rfl,rfl⟩
  ·subst hvf'
   exact .own _ _ _ _ _ _ (by rw[← hnx];simp[cT])
  ·exact .own0 _ _ _ _ (by rw[← hnx];simp[cT])
 refine⟨_,hstep.put_of (s:=s') (some d) (pv:=.own d (s.next d)) (v:=rv) hrep ?_ rfl ?_ ?_ rfl⟩
 ·rfl
 ·rfl
 ·rfl
theorem Cu {d:Nat} {t u e:TypeId} {x y:Operand} {ty:TypeId} {sz by_:Nat} {z:List PV} {b:ByteArray} {p:PV} {l:List UInt8} {f:UInt8→PV} {be bs:Nat} {U:List ((Nat×Nat)×Option cb)} (hx:s.ev x=p) (hy:s.ev y = .str b)
  (ht:bm P t=some ⟨.slice e,sz,by_,z⟩) (he:bm P e=some ⟨.int .u8,1,1,[.int .u8 0]⟩) (hz:(P.info? e).bind (·.zero)=some (.int .u8 0)) (hu:P.underlying u=some .string) (hbs:s.base p=some (List.map f l,be,bs,U)) (hbe:p = .nil∨(be=e∧bs=1)) (hf:∀c,f c = .int .u8 (c.toNat:Int))
  (hmax:(l++eG b).length≤140737488355328) :
  bw P N ops ⟨some d,.call ⟨.builtin .append,#[x,y],#[t,u]⟩,ty,pos,after,guard⟩ s ⟨[],.own d (s.next d),((d,s.next d),some (.arr e 1 false (List.map f (l++eG b)))) :: U,[d]⟩:=by
 have h:=HP (P:=P) (N:=N) (ops:=ops) (pos:=pos) (after:=after) (guard:=guard) (d:=d) (ty:=ty) hx hy ht he hz hu hbs hbe (by rw[List.length_map];rw[List.length_append,iX]at hmax;exact hmax)
 have e:List.map f l++((eG b).map fun c=>PV.int .u8 (c.toNat:Int))=List.map f (l++eG b):=by rw[List.map_append,funext hf]
 rw[e]at h
 exact h
end Go.Proofs.YtjklegmimpehlaaGreat.Ab
namespace Go.Proofs.YtjklegmimpehlaaGreat.Ab
open Go Go.RowKit
set_option linter.unusedVariables false
set_option linter.unusedSimpArgs false
variable {P:Program} {N:Nat} {ops:Array Oper} {dst:Option Tmp} {type:TypeId} {pos:String} {after:Array Edge} {guard:Option (Nat×Bool)} {s:St}
def uA (s:St):Nm→List (List PV)→Prop
 | [],[]=>True
 | p :: ps,cs :: css=>s.heap p.1 p.2=some (.box cs)∧uA s ps css
 | _,_=>False
theorem Cv {s:St}:∀{ps:Nm} {css:List (List PV)},uA s ps css→ps.length=css.length∧∀(i:Nat) (p:Nat×Nat) (cs:List PV),ps[i]? = some p→css[i]? = some cs→s.heap p.1 p.2=some (.box cs)
 | [],[],_=>⟨rfl,fun i p cs h=>by simp at h⟩
 | p :: ps,[],h=>h.elim
 | [],c :: cs,h=>h.elim
 | p :: ps,c :: css,⟨h1,h2⟩=>by
  obtain⟨h3,h4⟩:=Cv h2
  refine⟨by simp[h3],fun i q cs hq hc=>?_⟩
  cases i with
  | zero=>simp at hq hc;subst hq hc;exact h1
  | succ i=>simp at hq hc;exact h4 i q cs hq hc
def uB (s:St):Nm→Prop
 | []=>True
 | p :: ps=>(∃e sz xs,s.heap p.1 p.2=some (.arr e sz true xs))∧uB s ps
theorem Cw {s:St}:∀{l:Nm},uB s l→∀p∈l,∃e sz xs,s.heap p.1 p.2=some (.arr e sz true xs)
 | [],_,p,hp=>by cases hp
 | q :: r,⟨h1,h2⟩,p,hp=>by
  rcases List.mem_cons.1 hp with rfl | hp
  ·exact h1
  ·exact Cw h2 p hp
def uC:List cS→Prop
 | []=>True
 | q :: r=>(∀c∈bj q.2.2,c.plain=true)∧uC r
theorem Cx:∀{l:List cS},uC l→∀q∈l,∀c∈bj q.2.2,c.plain=true
 | [],_,q,hq=>by cases hq
 | p :: r,⟨h1,h2⟩,q,hq=>by
  rcases List.mem_cons.1 hq with rfl | hq
  ·exact h1
  ·exact Cx h2 q hq
theorem cr {α:Type} {f:α→PV} {l:List α} (h:∀x,(f x).cells.all PV.plain=true):∀c∈bj (List.map f l),c.plain=true:=by
 intro c hc
 simp only[bj,List.mem_flatMap,List.mem_map]at hc
 obtain⟨_,⟨x,_,rfl⟩,hc⟩:=hc
 have:=h x
 rw[List.all_eq_true]at this
 exact this c hc
def uD (L bn rn:Nm):Bool:=L.all fun p=>bn.all (fun q=>!(p.1 == q.1&&p.2 == q.2))&&rn.all fun q=>!(p.1 == q.1&&p.2 == q.2)
theorem HQ {L bn rn:Nm} (h:uD L bn rn=true):∀p∈L,p ∉ bn∧p ∉ rn:=by
 simp only[uD,List.all_eq_true,Bool.and_eq_true,Bool.not_eq_true',Bool.and_eq_false_iff,beq_eq_false_iff_ne]at h
 intro p hp
 obtain⟨h1,h2⟩:=h p hp
 exact⟨fun hb=>by rcases h1 p hb with h | h<;>exact h rfl,fun hb=>by rcases h2 p hb with h | h<;>exact h rfl⟩
theorem HR {fo:Operand} {xs:Array Operand} {tys:Array TypeId} {f:FuncId} {caps args:List PV} {boxes boxes' boxes2 bcs:List (List PV)} {rows' rws:List cS} {r r':PV} (bn rn L:Nm) (d0:Nat) (fz:Bool)
  (hok:Ok P f args boxes rws r boxes' rows') (hf:s.ev fo = .fn f caps) (hent:aF P f) (hbox:uA s bn bcs) (hrow:kF s rn rws) (hnb:na bn=true) (hnr:na rn=true) (hap:uD L bn rn=true)
  (hargs:ct (s.arg1 bn rn L) (xs.toList.map s.ev++caps)=some args) (hbx:ct (fun cs=>ct (s.argC bn rn L) cs) bcs=some boxes) (hbl:boxes'.length=boxes.length)
  (hrb:ct (fun cs=>ct (md bn d0 (s.next d0)) cs) boxes'=some boxes2) (hr:me bn d0 (s.next d0) r=some r')
  (hsafe:uB s L∨(r.plainV=true∧boxes'.all (fun cs=>cs.all PV.plain)=true∧uC rows')) :
  bw P N ops ⟨dst,.call ⟨.value fo,xs,tys⟩,type,pos,after,guard⟩ s ⟨L,r',jK d0 (s.next d0) fz 0 rows'++(iv bn boxes2++kz rn),List.replicate (rows'.length+1) d0⟩:=by
 obtain⟨b1,b2⟩:=Cv hbox
 obtain⟨r1,r2⟩:=uP hrow
 refine B8 bn rn L bcs rws d0 fz hf hent ⟨oT hnb,oT hnr,b1,r1,b2,r2⟩ (HQ hap) hargs hbx hok hbl hrb hr ?_
 rcases hsafe with h | ⟨h1,h2,h3⟩
 ·exact .inl (Cw h)
 ·refine .inr ⟨h1,fun cs hcs c hc=>?_,Cx h3⟩
  rw[List.all_eq_true]at h2
  have:=h2 cs hcs
  rw[List.all_eq_true]at this
  exact this c hc
theorem HS {nb i:Nat} {names:Nm} {cs cs1 cs':List PV} {r:List (List PV)} (h:s.heap 0 i=some (.box cs)) (h1:ct (s.retC nb names) cs=some cs1) (e:cs1=cs') (hr:mn s nb names (i+1) r):mn s nb names i (cs' :: r):=⟨⟨cs,h,e ▸ h1⟩,hr⟩
theorem HT {rs:Array ResultVar} {r r':PV} {boxes':List (List PV)} {rows':List cS} {e:Exit} (names:Nm) {pv:PV} (hpv:s.resPV P rs.toList=some pv) (hr:s.retV boxes'.length names pv=some r') (he:r'=r) (hrow:kF s names rows') (hbox:mn s boxes'.length names 0 boxes')
  (hnd:names.Nodup) (hex:e = .normal∨e = .ret) (hlt:rs.toList.all (o6 N)=true):mZ P N rs r boxes' rows' e s:=
 Dq names hpv (he ▸ hr) hrow hbox hnd hex hlt
theorem Ok.nilRow {f:FuncId} {args args':List PV} {e sz:Nat} {r:PV} {rows':List cS} (h:Ok P f args [] [(e,sz,[])] r [] rows') (hp:0<sz) (hl:args'.length=args.length)
  (hle:∀(i:Nat) (p p':PV),args[i]? = some p→args'[i]? = some p'→(p = .own 1 0∧p' = .nil)∨p=p'):Ok P f args' [] [] r [] rows':=by
 intro w X J vals hB hvl hrep
 let J1:bI:=fun d n=>if d=1∧n=0 then some (.slice none 0 0)else J d n
 have h10:J 1 0=none:=hB.nxt 1 0 (by simp[bV])
 have hJ:∀d n v,J d n=some v→J1 d n=some v:=fun d n v hv=>by
  simp only[J1];split
  ·rename_i hc;obtain⟨rfl,rfl⟩:=hc;rw[h10]at hv;cases hv
  ·exact hv
 have hheap:∀{d n o},(bV [] [(e,sz,[])] 1 X).heap d n=some o→d=1∧n=0∧o = .arr e sz false []:=by
  intro d n o ho
  rcases mY (by decide) ho with ⟨_,cs,hc,_⟩ | ⟨hd,q,hq,rfl⟩
  ·simp at hc
  ·cases n with
   | zero=>simp at hq;subst hq;exact⟨hd,rfl,rfl⟩
   | succ n=>simp at hq
 have hom:∀g,¬cJ (bV [] [(e,sz,[])] 1 X) J1 g:=by
  rintro g ⟨d,n,o,v,h1,h2,h3,h4⟩
  obtain⟨rfl,rfl,rfl⟩:=hheap h1
  simp only[J1,and_self,if_true,Option.some.injEq]at h3
  subst h3
  cases h4
 have hM:∀g,aT (bV [] [(e,sz,[])] 1 X) J1 g→aT (bV [] [] 1 X) J g:=fun g hg=>by
  rcases hg with hg | hg
  ·exact .inl hg
  ·exact absurd hg (hom g)
 have hB1:oS w (bV [] [(e,sz,[])] 1 X) J1:=by
  refine⟨fun d n o ho=>?_,fun d n d' n' o o' v v' g h1 h2 h3 h4 h5 h6=>?_,fun d n hle'=>?_,fun d n o v g h1 h2 h3=>?_,hB.xlt⟩
  ·obtain⟨rfl,rfl,rfl⟩:=hheap ho
   exact⟨.slice none 0 0,[],by simp[J1],World.ownsRow_nil _ _ _ _,hp,by simp,by simp[bj],by simp[bj]⟩
  ·obtain⟨rfl,rfl,rfl⟩:=hheap h1
   simp only[J1,and_self,if_true,Option.some.injEq]at h3
   subst h3
   cases h5
  ·simp only[J1]
   split
   ·rename_i hc
    obtain⟨rfl,rfl⟩:=hc
    simp[bV]at hle'
   ·refine hB.nxt d n ?_
    simp only[bV]at hle' ⊢
    split at hle'
    ·simp
    ·split at hle'<;>simp_all
  ·obtain⟨rfl,rfl,rfl⟩:=hheap h1
   simp only[J1,and_self,if_true,Option.some.injEq]at h2
   subst h2
   cases h3
 refine(h w X J1 vals hB1 (hvl.trans hl) fun i pv v hpv hv=>?_).mono fun en w' ⟨v,J',e1,e2,e3,e4,e5⟩=>⟨v,J',e1,e2,fun n hn=>by simp at hn,e4,?_⟩
 ·have hi:i<args'.length:=by rw[hl];exact(List.getElem?_eq_some_iff.1 hpv).1
  have hr:=hrep i _ v (List.getElem?_eq_getElem hi) hv
  rcases hle i pv _ hpv (List.getElem?_eq_getElem hi)with ⟨rfl,e⟩ | e
  ·rw[e]at hr
   cases hr
   exact .own _ _ _ _ _ _ (by simp[J1])
  ·rw[← e]at hr
   exact hr.mono (fun _ _ _=>rfl) (fun g _ hg=>hM g hg) hJ
 ·exact⟨fun b hb hn=>e5.block b hb (hom b),fun g hg hlt=>absurd (e5.own g hg hlt) (hom g),e5.size,e5.os,e5.tape,e5.output,e5.drawn⟩
theorem HU {rest:List PV}:∀(i:Nat) (p p':PV),(PV.own 1 0 :: rest)[i]? = some p→(PV.nil :: rest)[i]? = some p'→(p = .own 1 0∧p' = .nil)∨p=p':=by
 intro i p p' h1 h2
 cases i with
 | zero=>simp at h1 h2;subst h1 h2;exact .inl ⟨rfl,rfl⟩
 | succ i=>simp at h1 h2;rw[h1]at h2;injection h2 with h2;exact .inr h2
theorem Ok.nilRow0 {f:FuncId} {rest:List PV} {e sz:Nat} {r:PV} {rows':List cS} (h:Ok P f (.own 1 0 :: rest) [] [(e,sz,[])] r [] rows') (hp:Nat.blt 0 sz=true:=by rfl):Ok P f (.nil :: rest) [] [] r [] rows':=
 h.nilRow (by simpa [Nat.blt_eq] using hp) (by simp) HU
theorem Ok.weak {f:FuncId} {args args':List PV} {boxes boxes':List (List PV)} {rows rows':List cS} {r:PV} (h:Ok P f args boxes rows r boxes' rows') (hl:rm args' args):Ok P f args' boxes rows r boxes' rows':=by
 intro w X J vals hB hvl hrep
 obtain⟨h1,h2⟩:=ui hl
 refine h w X J vals hB (hvl.trans h1) fun i pv v hpv hv=>?_
 have hi:i<args'.length:=by rw[h1];exact(List.getElem?_eq_some_iff.1 hpv).1
 exact(h2 i _ pv (List.getElem?_eq_getElem hi) hpv).2 _ _ _ _ (hrep i _ v (List.getElem?_eq_getElem hi) hv)
theorem bw.weak {o:Oper} {L:List (Nat×Nat)} {v v':PV} {U:List ((Nat×Nat)×Option cb)} {M:List Nat} (h:bw P N ops o s ⟨L,v,U,M⟩) (hv:mX v v'):bw P N ops o s ⟨L,v',U,M⟩:=by
 intro s' ha hlt w0 Mv J a w hs Q
 refine Oper.wp_mono ?_ (h s' ⟨ha.env,ha.rd,ha.up,ha.nx⟩ hlt w0 Mv J a w hs Q)
 rintro a' w' ⟨J',h'⟩
 refine⟨J',?_⟩
 have hm:∀g,aT (s'.app o.dst ⟨L,v',U,M⟩) J' g=aT (s'.app o.dst ⟨L,v,U,M⟩) J' g:=fun g=>rfl
 refine⟨h'.size,h'.defers,fun t ht=>?_,h'.obj,h'.sep,h'.nxt,h'.frame,h'.mutb,h'.xlt,h'.sepX,h'.ext,h'.grow,h'.os,h'.tape,h'.output,h'.drawn⟩
 have h1:=h'.env t ht
 cases hd:o.dst with
 | none=>rw[hd]at h1;exact h1
 | some d=>
  rw[hd]at h1
  by_cases e:t=d
  ·subst e
   simp only[St.app,St.put,iT,if_true]at h1 ⊢
   exact hv.2 _ _ _ _ h1
  ·simp only[St.app,St.put,iT,if_neg e]at h1 ⊢
   exact h1
def cX (k:IntKind) (n:Int):Prop:=k.min≤n∧n≤k.max
theorem HV {k:IntKind} {n:Int} (h:(Lit.int k n).wf=true):cX k n:=by simpa [Lit.wf,cX] using h
theorem Cy {n:Nat} {t:TypeId} {k:IntKind} {cs:List PV} (h:bL P n t cs) (ht:P.underlying t=some (.int k)):∃z,cs=[.int k z]∧cX k z:=by
 obtain⟨z,h1,h2⟩:=GX h ht
 exact⟨z,h1,HV h2⟩
theorem HW {n:Nat} {t:TypeId} {cs:List PV} (h:bL P n t cs) (ht:P.underlying t=some .bool):∃b,cs=[.bool b]∧True:=by
 obtain⟨z,h1⟩:=GZ h ht
 exact⟨z,h1,trivial⟩
theorem jP {n:Nat} {t:TypeId} {cs:List PV} {fs:Array Field} (h:bL P n t cs) (ht:P.underlying t=some (.struct fs)) :
  cs.length=P.cellsOf t∧∃m,∀(i:Nat) (f:Field),fs.toList[i]? = some f→bL P m f.type ((cs.drop f.offset).take (P.cellsOf f.type)):=by
 cases n with
 | zero=>exact h.elim
 | succ n=>
  simp only[bL,ht]at h
  exact⟨h.1,n,fun i f hf=>h.2 f (List.mem_of_getElem? hf)⟩
def xW (cs:List PV):Nat→List (Nat×List PV)→Prop
 | _,[]=>True
 | off,(k,ps) :: r=>(cs.drop off).take k=ps∧xW cs (off+k) r
def rH:List (Nat×List PV)→Nat
 | []=>0
 | (k,_) :: r=>k+rH r
def rI:List (Nat×List PV)→List PV
 | []=>[]
 | (_,ps) :: r=>ps++rI r
theorem Cz {cs:List PV}:∀{l:List (Nat×List PV)} {off:Nat},xW cs off l→cs.length=off+rH l→cs.drop off=rI l
 | [],off,_,hl=>by simp only[rH,Nat.add_zero]at hl;simp[rI,← hl]
 | (k,ps) :: r,off,⟨h1,h2⟩,hl=>by
  have:=Cz h2 (by simp only[rH]at hl;omega)
  rw[rI,← this,← h1,← List.drop_drop,List.take_append_drop]
theorem iy {cs:List PV} {l:List (Nat×List PV)} {n:Nat} (h:xW cs 0 l) (hn:cs.length=n) (hl:Nat.beq n (rH l)=true):cs=rI l:=by
 have:=Cz h (by rw[hn,Nat.zero_add];exact Nat.eq_of_beq_eq_true hl)
 simpa using this
end Go.Proofs.YtjklegmimpehlaaGreat.Ab
namespace Go.Proofs.YtjklegmimpehlaaGreat.Ab
open Go Go.RowKit
set_option linter.unusedVariables false
set_option linter.unusedSimpArgs false
variable {P:Program} {N:Nat} {ops:Array Oper} {dst:Option Tmp} {type:TypeId} {pos:String} {after:Array Edge} {guard:Option (Nat×Bool)} {s:St}
theorem CA {d n off:Nat} {cs:List PV} (h:s.heap d n=some (.box cs)):s.cellsAt (.ptr d n off)=some (cs.drop off,[(d,n)]):=by simp[St.cellsAt,h]
end Go.Proofs.YtjklegmimpehlaaGreat.Ab
namespace Go.Proofs.YtjklegmimpehlaaGreat.Ab
open Go Go.RowKit
set_option linter.unusedVariables false
set_option linter.unusedSimpArgs false
variable {P:Program} {N:Nat} {ops:Array Oper} {dst:Option Tmp} {type:TypeId} {pos:String} {after:Array Edge} {guard:Option (Nat×Bool)} {s:St}
theorem HX {x:Operand} {p q:PV} (hx:s.ev x=p) (hq:p.plus 0=some q) :
  bw P N ops ⟨dst,.nilCheck x,type,pos,after,guard⟩ s (cN p):=
 fC p fun w M J ρ hr=>by
  have h1:=hr x (by simp[Op.operands])
  rw[hx]at h1
  obtain⟨a,ha,h2⟩:=xY hq h1
  exact⟨_,by simp[execOp,ha],ha ▸ h1⟩
def St.nilOwnC (s:St) (d n k D e sz:Nat) (cs:List PV):St:=
 { env:=s.env,heap:=fun a m=>if a=D∧m=s.next D then some (.arr e sz false [])else if a=d∧m=n then some (.box (cs.set k (.own D (s.next D))))else s.heap a m,next:=fun a=>if a=D then s.next D+1 else s.next a,X:=s.X }
theorem HY {d n k D e sz:Nat} {cs:List PV} (hb:s.heap d n=some (.box cs)) (hk:cs[k]? = some .nil) (hp:0<sz):eH N s (s.nilOwnC d n k D e sz cs):=by
 refine⟨rfl,fun w0 Mv J a w hs=>?_⟩
 have hnew:=hs.nxt D (s.next D) (Nat.le_refl _)
 have hne:¬(d=D∧n=s.next D):=by rintro⟨rfl,rfl⟩;rw[hnew.1]at hb;cases hb
 let J':bI:=cT J D (s.next D) (.slice none 0 0)
 have hJ:∀d n v,J d n=some v→J' d n=some v:=by
  intro d n v hv
  simp only[J',cT]
  split
  ·rename_i hc;obtain⟨rfl,rfl⟩:=hc;rw[hnew.2]at hv;cases hv
  ·exact hv
 have hJn:J' D (s.next D)=some (.slice none 0 0):=by simp[J',cT]
 have hJo:∀d n v,¬(d=D∧n=s.next D)→J' d n=some v→J d n=some v:=fun d n v hc hv=>by simpa [J',cT,hc] using hv
 let s1:St:=s.nilOwnC d n k D e sz cs
 have hh1:∀a m,s1.heap a m=if a=D∧m=s.next D then some (.arr e sz false [])else if a=d∧m=n then some (.box (cs.set k (.own D (s.next D))))else s.heap a m:=fun a m=>rfl
 have hold:∀a m o,¬(a=D∧m=s.next D)→s1.heap a m=some o→∃o',s.heap a m=some o'∧(o.mut=true→o'.mut=true):=by
  intro a m o hc ho
  rw[hh1,if_neg hc]at ho
  split at ho
  ·rename_i hc2;obtain⟨rfl,rfl⟩:=hc2;exact⟨_,hb,fun _=>rfl⟩
  ·exact⟨o,ho,id⟩
 have hM:∀b,cJ s1 J' b→cJ s J b:=by
  rintro b ⟨a,m,o,v,h1,h2,h3,h4⟩
  by_cases hc:a=D∧m=s.next D
  ·obtain⟨rfl,rfl⟩:=hc
   rw[hJn]at h3
   injection h3 with h3
   subst h3
   cases h4
  ·obtain⟨o',h5,h6⟩:=hold a m o hc h1
   exact⟨a,m,o',v,h5,h6 h2,hJo _ _ _ hc h3,h4⟩
 have hMM:∀b,b<w.heap.size→aT s1 J' b→aT s J b:=fun b _ hm=>hm.imp id (hM b)
 refine⟨J',?_⟩
 refine hs.update (row:=none) (s':=s1) (World.grownBy.refl w none) (Nat.le_refl _) (by simp) hJ rfl rfl (fun b _ hm=>hM b hm) (fun a m o h1=>?_) (fun d1 n1 d2 n2 o1 o2 v1 v2 g k1 k2 k3 k4 k5 k6=>?_) (fun a m hle=>?_) (fun a m o v g k1 k2 k3=>?_)
 ·rw[hh1]at h1
  split at h1
  ·rename_i hc
   obtain⟨rfl,rfl⟩:=hc
   injection h1 with h1
   subst h1
   exact .inr ⟨_,[],hJn,⟨by simp,.inl ⟨rfl,rfl⟩⟩,hp,by simp,by simp[bj],by simp[bj]⟩
  ·split at h1
   ·rename_i hc2
    obtain⟨rfl,rfl⟩:=hc2
    injection h1 with h1
    subst h1
    obtain⟨g,cur,t,q1,q2,q3,q4,q5⟩:=hs.obj a m _ hb
    refine .inr ⟨g,cur,t,hJ _ _ _ q1,q2,by rw[List.length_set];exact q3,fun c hc=>?_,fun i c v hc hv=>?_⟩
    ·rcases List.mem_or_eq_of_mem_set hc with hc | rfl
     ·exact q4 c hc
     ·rfl
    ·rw[List.getElem?_set]at hc
     by_cases e1:k=i
     ·subst e1
      have hlt:=(List.getElem?_eq_some_iff.1 hk).1
      rw[if_pos rfl,if_pos hlt]at hc
      injection hc with hc
      subst hc
      have hr:=q5 k _ v hk hv
      cases hr
      exact .own _ _ _ _ _ _ hJn
     ·rw[if_neg e1]at hc
      exact(q5 i c v hc hv).mono (fun _ _ _=>rfl) hMM hJ
   ·exact .inl ⟨h1,by simp⟩
 ·by_cases c1:d1=D∧n1=s.next D
  ·obtain⟨rfl,rfl⟩:=c1
   rw[hJn]at k3
   injection k3 with k3
   subst k3
   cases k5
  ·by_cases c2:d2=D∧n2=s.next D
   ·obtain⟨rfl,rfl⟩:=c2
    rw[hJn]at k4
    injection k4 with k4
    subst k4
    cases k6
   ·obtain⟨o1',h1,_⟩:=hold _ _ _ c1 k1
    obtain⟨o2',h2,_⟩:=hold _ _ _ c2 k2
    exact hs.sep _ _ _ _ _ _ _ _ g h1 h2 (hJo _ _ _ c1 k3) (hJo _ _ _ c2 k4) k5 k6
 ·have hc:¬(a=D∧m=s.next D):=by
   rintro⟨rfl,rfl⟩
   simp[s1,St.nilOwnC]at hle
   omega
  have hle0:(if a=D then s.next D+1 else s.next a)≤m:=hle
  have hle':s.next a≤m:=by
   clear hle
   have hle:=hle0
   split at hle
   ·rename_i e;subst e;omega
   ·exact hle
  have:=hs.nxt a m hle'
  have hc2:¬(a=d∧m=n):=by rintro⟨rfl,rfl⟩;rw[this.1]at hb;cases hb
  exact⟨by rw[hh1,if_neg hc,if_neg hc2];exact this.1,by simp[J',cT,hc,this.2]⟩
 ·by_cases c1:a=D∧m=s.next D
  ·obtain⟨rfl,rfl⟩:=c1
   rw[hJn]at k2
   injection k2 with k2
   subst k2
   cases k3
  ·obtain⟨o',h1,_⟩:=hold _ _ _ c1 k1
   exact hs.sepX _ _ _ _ g h1 (hJo _ _ _ c1 k2) k3
theorem iY {c:Code} {Q:Exit→St→Prop} (d n k D e sz:Nat) {cs:List PV} (hb:s.heap d n=some (.box cs)) (hk:cs[k]? = some .nil) (hp:0<sz) (h:AW P N c (s.nilOwnC d n k D e sz cs) Q):AW P N c s Q:=de (HY hb hk hp) h
end Go.Proofs.YtjklegmimpehlaaGreat.Ab
namespace Go.Proofs.YtjklegmimpehlaaGreat.Ab
open Go Go.RowKit
set_option linter.unusedVariables false
set_option linter.unusedSimpArgs false
variable {P:Program} {N:Nat} {ops:Array Oper} {dst:Option Tmp} {type:TypeId} {pos:String} {after:Array Edge} {guard:Option (Nat×Bool)} {s:St}
theorem kB {α:Type} {f:α→PV} {l:List α} {i:Nat} {x:α} {p:PV} (e:f x=p) (h:l[i]? = some x):(List.map f l)[i]? = some p:=by simp[h,e]
theorem CB {α:Type} {f:α→PV} {x:α} {r:List α} {p:PV} {ps:List PV} (e:f x=p) (h:List.map f r=ps):List.map f (x :: r)=p :: ps:=by rw[List.map_cons,e,h]
theorem CC {α:Type} {f:α→PV} {ls:List α} {d:Nat} {t e:TypeId} {len:Nat} {ps:Array (Nat×Operand)} {sz by_:Nat} {z:List PV} {ei:dc} {xs:List PV} {ps':List (Nat×PV)} {L:List (Nat×Nat)} (hx:List.map f ls=xs) (ht:bm P t=some ⟨.slice e,sz,by_,z⟩) (he:bm P e=some ei)
  (hz:ei.zero.isEmpty=false) (hzl:Nat.beq ei.zero.length ei.size=true) (hlen:Nat.beq xs.length len=true) (hw:xs.all (fun x=>Nat.beq x.cells.length ei.size)=true) (h24:Nat.ble (len*ei.size) 16777216=true) (hlow:s.lowP (gy s ps.toList)=some (ps',L)) (ho:(bj xs).all PV.one=true)
  (hf:kD (fun i=>some (i*ei.size,ei.size)) ((List.replicate len ei.zero).flatten) ps'=some (bj xs)) :
  bw P N ops ⟨some d,.buildSlice t len ps,type,pos,after,guard⟩ s ⟨L,.own d (s.next d),[((d,s.next d),some (.arr e ei.size false (List.map f ls)))],[d]⟩:=by
 rw[hx]
 exact Cl ht he hz hzl hlen hw h24 hlow ho hf
theorem HZ {n:Nat} {t:TypeId} {cs:List PV} {fs:Array Field} (h:bL P n t cs) (ht:P.underlying t=some (.struct fs)) :
  cs.length=P.cellsOf t∧∃m,m<n∧∀(i:Nat) (f:Field),fs.toList[i]? = some f→bL P m f.type ((cs.drop f.offset).take (P.cellsOf f.type)):=by
 cases n with
 | zero=>exact h.elim
 | succ n=>
  simp only[bL,ht]at h
  exact⟨h.1,n,Nat.lt_succ_self n,fun i f hf=>h.2 f (List.mem_of_getElem? hf)⟩
theorem H0 {α:Type} {f:α→PV} {Q:α→Prop} {n:Nat} {t e:TypeId} {cs:List PV} (h:bL P n t cs) (ht:P.underlying t=some (.slice e)) (hf:∀m,m<n→∀ps,bL P m e ps→∃a,PV.mk (aggT P e) ps=f a∧Q a) :
  ∃l:List α,cs=[.sl (P.cellsOf e) (l.map f)]∧l.length≤maxLen∧∀a∈l,Q a:=by
 cases n with
 | zero=>exact h.elim
 | succ n=>
  simp only[bL,ht]at h
  obtain⟨xs,rfl,hm,hx⟩:=h
  have:∃l:List α,xs=l.map f∧∀a∈l,Q a:=by
   clear hm
   induction xs with
   | nil=>exact⟨[],rfl,by simp⟩
   | cons x xs ih=>
    obtain⟨l,rfl,hq⟩:=ih fun y hy=>hx y (List.mem_cons_of_mem _ hy)
    obtain⟨ps,rfl,hs⟩:=hx x List.mem_cons_self
    obtain⟨a,ha,hqa⟩:=hf n (Nat.lt_succ_self n) ps hs
    exact⟨a :: l,by rw[ha];rfl,by simpa using ⟨hqa,hq⟩⟩
  obtain⟨l,rfl,hq⟩:=this
  exact⟨l,rfl,by simpa using hm,hq⟩
end Go.Proofs.YtjklegmimpehlaaGreat.Ab
namespace Go.Proofs.YtjklegmimpehlaaGreat.Ab
open Go Go.RowKit
set_option linter.unusedVariables false
set_option linter.unusedSimpArgs false
variable {P:Program} {N:Nat} {ops:Array Oper} {dst:Option Tmp} {type:TypeId} {pos:String} {after:Array Edge} {guard:Option (Nat×Bool)} {s:St}
def H1:PV→PV→Bool
 | .nil,.sl _ []=>true
 | .nil,.nil=>true
 | .bool a,.bool b=>a == b
 | .int k a,.int l b=>decide (k=l)&&decide (a=b)
 | .str a,.str b=>decide (a=b)
 | _,_=>false
def H2:List PV→List PV→Bool
 | [],[]=>true
 | a :: r,b :: q=>H1 a b&&H2 r q
 | _,_=>false
end Go.Proofs.YtjklegmimpehlaaGreat.Ab
namespace Go.Proofs.YtjklegmimpehlaaGreat.Ab
open Go Go.RowKit
set_option linter.unusedVariables false
set_option linter.unusedSimpArgs false
variable {P:Program} {N:Nat} {ops:Array Oper} {s:St} {Q:Exit→St→Prop}
def AL (P:Program) (N:Nat) (ops:Array Oper) (l:List Oper) (s:St) (Q:Exit→St→Prop):Prop:=
 ∀w0 Mv J a w,bK w0 Mv N J s a w→wpList P ops (fun e a' w'=>∃s' J',bK w0 Mv N J' s' a' w'∧s'.X=s.X∧Q e s') l a w
theorem aM (h:Q .normal s):AL P N ops [] s Q:=fun w0 Mv J a w hs=>wpList_nil ⟨s,J,hs,rfl,h⟩
theorem H3 {o:Oper} {l:List Oper} {x:Fx} (ha:gi P N ops o s x) (hN:∀t∈o.looksAt ops,t<N) (h:AL P N ops l (s.app o.dst x) Q):AL P N ops (o :: l) s Q:=by
 intro w0 Mv J a w hs
 unfold wpList
 exact ha.op (fU.refl _ _ _ _) hN hs fun J' a' w' h'=>h w0 Mv J' a' w' h'
theorem iZ {l:List Oper} {s':St} (h:eH N s s') (k:AL P N ops l s' Q):AL P N ops l s Q:=by
 intro w0 Mv J a w hs
 obtain⟨J',hs'⟩:=h.2 w0 Mv J a w hs
 have:=k w0 Mv J' a w hs'
 rw[h.1]at this
 exact this
theorem H4 {l:List Oper} (t:Nat) {c:Bool} (hb:s.env t = .bool c) (h1:c=true→AL P N ops l (s.put (some t) (.bool true)) Q) (h2:c=false→AL P N ops l (s.put (some t) (.bool false)) Q):AL P N ops l s Q:=by
 cases c with
 | true=>have:=h1 rfl;rwa [s.put_self hb]at this
 | false=>have:=h2 rfl;rwa [s.put_self hb]at this
theorem aB {id:Nat} {l:List Oper} (h:AL P N l.toArray l s Q):AW P N (.region id l.toArray false) s Q:=
 fun w0 Mv J a w hs=>wp_region_lit (h w0 Mv J a w hs)
theorem xX {o:Oper} {l:List Oper} {x:Fx} {d:Option Tmp} (hd:o.dst=d) (ha:gi P N ops o s x) (hN:∀t∈o.looksAt ops,t<N) (h:AL P N ops l (s.app d x) Q):AL P N ops (o :: l) s Q:=H3 ha hN (hd ▸ h)
theorem CD {o:Oper} {l:List Oper} {v:PV} {d:Option Tmp} (hd:o.dst=d) (ha:gi P N ops o s (cN v)) (hN:∀t∈o.looksAt ops,t<N) (h:AL P N ops l (s.put d v) Q):AL P N ops (o :: l) s Q:=
 xX hd ha hN (by rw[xS];exact h)
theorem CE {b:Nat→Nat→Bool} {i:Nat} {y:Fx} (hy:y.quiet):∀{A B:List (Nat×Fx)},iS b (A++B)→iS b (A++(i,y) :: B)
 | [],B,h=>⟨fun q _=>.inr (Dl (.inl hy)),h⟩
 | (j,x) :: A,B,h=>⟨fun q hq=>by
   rcases List.mem_append.1 hq with hq | hq
   ·exact h.1 q (List.mem_append_left _ hq)
   ·rcases List.mem_cons.1 hq with rfl | hq
    ·exact .inr (Dl (.inr hy))
    ·exact h.1 q (List.mem_append_right _ hq),CE hy h.2⟩
theorem CF {b:Option (Nat→Nat→Bool)} {i:Nat} {fx:List (Nat×Fx)} {o:Oper} {l:List Oper} {x:Fx} {d:Option Tmp} (hd:o.dst=d) (ha:gi P N ops o s x) (hN:∀t∈o.looksAt ops,t<N) (h:AO P N ops b (i+1) (fx++[(i,x)]) l (s.app d x) Q) :
  AO P N ops b i fx (o :: l) s Q:=GR ha hN (hd ▸ h)
theorem CG {b:Option (Nat→Nat→Bool)} {i:Nat} {fx:List (Nat×Fx)} {o:Oper} {l:List Oper} {v:PV} {d:Option Tmp} (hd:o.dst=d) (ha:gi P N ops o s (cN v)) (hN:∀t∈o.looksAt ops,t<N) (h:AO P N ops b (i+1) fx l (s.put d v) Q) :
  AO P N ops b i fx (o :: l) s Q:=by
 subst hd
 rw[← xS]at h
 obtain⟨xs,s',h1,h2,h3⟩:=h
 exact⟨cN v :: xs,s',.cons ha hN h1,fun w hw=>CE ⟨rfl,rfl,rfl⟩ (h2 w hw),h3⟩
theorem CH (d:Option Tmp) {o:Oper} {l:List Oper} {v:PV} (hd:o.dst=d) (hg:dr ops o s=some true) (h:bw P N ops o s (cN v)) (hN:∀t∈o.looksAt ops,t<N) (k:AL P N ops l (s.put d v) Q):AL P N ops (o :: l) s Q:=CD hd (oU hg h) hN k
theorem rJ (d:Option Tmp) {o:Oper} {l:List Oper} {x:Fx} (hd:o.dst=d) (hg:dr ops o s=some true) (h:bw P N ops o s x) (hN:∀t∈o.looksAt ops,t<N) (k:AL P N ops l (s.app d x) Q):AL P N ops (o :: l) s Q:=xX hd (oU hg h) hN k
theorem H5 (d:Option Tmp) {o:Oper} {l:List Oper} (hd:o.dst=d) (hg:dr ops o s=some false) (hN:∀t∈o.looksAt ops,t<N) (k:AL P N ops l (s.put d .skip) Q):AL P N ops (o :: l) s Q:=CD hd (Co hg) hN k
theorem CI (d:Option Tmp) {o:Oper} {l:List Oper} {L:List (Nat×Nat)} {v:PV} (hd:o.dst=d) (hg:dr ops o s=some true) (h:bw P N ops o s ⟨L,v,[],[]⟩) (hN:∀t∈o.looksAt ops,t<N) (k:AL P N ops l (s.put d v) Q):AL P N ops (o :: l) s Q:=
 xX hd (oU hg h) hN (by rw[uy];exact k)
theorem bw.fx {o:Oper} {x y:Fx} (h:bw P N ops o s x) (e:x=y):bw P N ops o s y:=e ▸ h
section
variable {b:Option (Nat→Nat→Bool)} {i:Nat} {fx:List (Nat×Fx)} {o:Oper} {l:List Oper}
theorem H6 (d:Option Tmp) {v:PV} (hd:o.dst=d) (hg:dr ops o s=some true) (h:bw P N ops o s (cN v)) (hN:∀t∈o.looksAt ops,t<N) (k:AO P N ops b (i+1) fx l (s.put d v) Q):AO P N ops b i fx (o :: l) s Q:=CG hd (oU hg h) hN k
theorem gj (d:Option Tmp) {x:Fx} (hd:o.dst=d) (hg:dr ops o s=some true) (h:bw P N ops o s x) (hN:∀t∈o.looksAt ops,t<N) (k:AO P N ops b (i+1) (fx++[(i,x)]) l (s.app d x) Q):AO P N ops b i fx (o :: l) s Q:=CF hd (oU hg h) hN k
theorem H7 (d:Option Tmp) {L:List (Nat×Nat)} {v:PV} (hd:o.dst=d) (hg:dr ops o s=some true) (h:bw P N ops o s ⟨L,v,[],[]⟩) (hN:∀t∈o.looksAt ops,t<N) (k:AO P N ops b (i+1) (fx++[(i,⟨L,v,[],[]⟩)]) l (s.put d v) Q):AO P N ops b i fx (o :: l) s Q:=
 CF hd (oU hg h) hN (by rw[uy];exact k)
theorem H8 (d:Option Tmp) (hd:o.dst=d) (hg:dr ops o s=some false) (hN:∀t∈o.looksAt ops,t<N) (k:AO P N ops b (i+1) fx l (s.put d .skip) Q):AO P N ops b i fx (o :: l) s Q:=CG hd (Co hg) hN k
end
end Go.Proofs.YtjklegmimpehlaaGreat.Ab
namespace Go.Proofs.YtjklegmimpehlaaGreat.Ab
open Go Go.RowKit
set_option linter.unusedVariables false
set_option linter.unusedSimpArgs false
variable {P:Program} {N:Nat} {ops:Array Oper} {dst:Option Tmp} {type:TypeId} {pos:String} {after:Array Edge} {guard:Option (Nat×Bool)} {s:St}
theorem CJ {α:Type} {f:α→PV} {ti:dc} {l:List α} {pre post:List PV} {i off:Nat} {x:α} (ha:ti.d.agg=false) (hp:pre.length=off) (h:l[i]? = some x):lu ti ((pre++(List.map f l++post)).drop (off+i*1))=some (f x):=by
 have hi:=(List.getElem?_eq_some_iff.1 h).1
 simp only[lu,ha,Bool.false_eq_true,if_false]
 rw[List.getElem?_drop,← hp,List.getElem?_append_right (by omega),List.getElem?_append_left (by rw[List.length_map];omega),List.getElem?_map,show pre.length+i*1+0-pre.length=i by omega,h]
 rfl
theorem H9 {α:Type} {f:α→PV} {z:α} {L:List α}:List.map f L=(List.range L.length).map (fun j=>f (L.getD j z)):=by
 apply List.ext_getElem
 ·simp
 ·intro k h1 h2
  simp only[List.length_map]at h1
  simp[List.getD_eq_getElem?_getD,List.getElem?_eq_getElem h1]
theorem CK {β:Type} (pre X post:List β) (k:Nat):(pre++(X++post))[k]? = if k<pre.length then pre[k]? else if k<pre.length+X.length then X[k-pre.length]? else post[k-pre.length-X.length]?:=by
 by_cases h:k<pre.length
 ·rw[if_pos h,List.getElem?_append_left h]
 ·rw[if_neg h,List.getElem?_append_right (by omega)]
  by_cases h2:k<pre.length+X.length
  ·rw[if_pos h2,List.getElem?_append_left (by omega)]
  ·rw[if_neg h2,List.getElem?_append_right (by omega)]
theorem CL {α:Type} {f:α→PV} {t:TypeId} {p x:Operand} {d n i off ln:Nat} {l L:List α} {pre post cs cs':List PV} {y a z:α} {ti:dc} (hp:s.ev p = .ptr d n (off+i*1)) (hx:s.ev x=f a) (hb:s.heap d n=some (.box cs)) (ht:bm P t=some ti)
  (hcs:cs=pre++(List.map f l++post)) (h1:(f a).cells=[f a]) (ho:(f a).one=true) (hs:ti.size=1) (hi:l[i]? = some y) (hL:some (List.set l i a)=some L) (hcs':pre.length=off∧l.length=ln∧cs'=pre++((List.range ln).map (fun j=>f (L.getD j z))++post)) :
  bw P N ops ⟨none,.store t p x,type,pos,after,guard⟩ s ⟨[],.skip,[((d,n),some (.box cs'))],[]⟩:=by
 obtain⟨hpo,hln,hc2⟩:=hcs'
 have hlt:=(List.getElem?_eq_some_iff.1 hi).1
 have hLe:List.set l i a=L:=Option.some.inj hL
 have hLl:L.length=ln:=by rw[← hLe,List.length_set,hln]
 have hlen:cs.length=off+(l.length+post.length):=by rw[hcs,List.length_append,List.length_append,List.length_map,hpo]
 have h:=C6 (P:=P) (N:=N) (ops:=ops) (type:=type) (pos:=pos) (after:=after) (guard:=guard) hp hx hb ht (by rw[h1];simpa using ho) (by rw[h1,hs];rfl) (by rw[hs,hlen];omega)
 have e:jR cs (off+i*1) (f a).cells=cs':=by
  rw[hc2,← hLl,← H9,← hLe,h1,jR]
  apply List.ext_getElem?
  intro k
  rw[uK (by simp only[List.length_singleton];omega),List.length_singleton]
  rw[CK,hcs,CK,List.length_map,List.length_map,List.length_set,hpo]
  by_cases e:k=off+i
  ·subst e
   rw[if_pos (by omega),if_neg (by omega),if_pos (by omega),List.getElem?_map,List.getElem?_set,show off+i-(off+i*1)=0 by omega,show off+i-off=i by omega]
   simp[hlt]
  ·rw[if_neg (by omega)]
   by_cases e1:k<off
   ·rw[if_pos e1,if_pos e1]
   ·rw[if_neg e1,if_neg e1]
    by_cases e2:k<off+l.length
    ·rw[if_pos e2,if_pos e2,List.getElem?_map,List.getElem?_map,List.getElem?_set_ne (by omega)]
    ·rw[if_neg e2,if_neg e2]
 rw[e]at h
 exact h
end Go.Proofs.YtjklegmimpehlaaGreat.Ab
namespace Go.Proofs.YtjklegmimpehlaaGreat.Ab
open Go Go.RowKit
set_option linter.unusedVariables false
set_option linter.unusedSimpArgs false
variable {P:Program} {N:Nat} {ops:Array Oper} {s:St} {Q:Exit→St→Prop}
universe u
theorem W_ {α:Sort u} {a b:α} (h:a=b:=by conv=>lhs;whnf):a=b:=h
theorem R_ {α:Sort u} {a b:α} (h:a=b:=by exact rfl):a=b:=h
theorem D_ {p:Prop} [Decidable p] (h:p:=by decide):p:=h
theorem pP (d:Nat) {o:Oper} {l:List Oper} {v:PV} (h:bw P N ops o s (cN v)) (k:AL P N ops l (s.put (some d) v) Q) (hd:o.dst=some d:=by exact rfl) (hg:dr ops o s=some true:=by exact rfl) (hN:∀z0∈o.looksAt ops,z0<N:=by decide):AL P N ops (o :: l) s Q:=CH (some d) hd hg h hN k
theorem pD (d:Nat) {o:Oper} {l:List Oper} {x:Fx} (h:bw P N ops o s x) (k:AL P N ops l (s.app (some d) x) Q) (hd:o.dst=some d:=by exact rfl) (hg:dr ops o s=some true:=by exact rfl) (hN:∀z0∈o.looksAt ops,z0<N:=by decide):AL P N ops (o :: l) s Q:=rJ (some d) hd hg h hN k
theorem pX (d:Nat) {o:Oper} {l:List Oper} {L:List (Nat×Nat)} {v:PV} (h:bw P N ops o s ⟨L,v,[],[]⟩) (k:AL P N ops l (s.put (some d) v) Q) (hd:o.dst=some d:=by exact rfl) (hg:dr ops o s=some true:=by exact rfl) (hN:∀z0∈o.looksAt ops,z0<N:=by decide):AL P N ops (o :: l) s Q:=CI (some d) hd hg h hN k
theorem pS (d:Nat) {o:Oper} {l:List Oper} (k:AL P N ops l (s.put (some d) .skip) Q) (hd:o.dst=some d:=by exact rfl) (hg:dr ops o s=some false:=by exact rfl) (hN:∀z0∈o.looksAt ops,z0<N:=by decide):AL P N ops (o :: l) s Q:=H5 (some d) hd hg hN k
theorem sr {id:Nat} {l:List Oper} {y:Code} (h:∀K:St→Prop,(∀s',AW P N y s' Q→K s')→AL P N l.toArray l s (oQ K Q)):AW P N (.seq (.region id l.toArray false) y) s Q:=ai fun K hK=>aB (h K hK)
theorem en {A B:St→Prop} (hK:∀s',B s'→A s') (h:B s) (e:A s=Q .normal s:=by exact rfl):AL P N ops [] s Q:=aM (e ▸ hK s h)
theorem ec {nm nn:Nm} {t:Nat} {v v':PV} {r:List (Nat×PV)} (hr:ly s nm nn r) (h:o5 s nm nn (s.env t)=some v:=by conv=>lhs;whnf) (e:v=v':=by exact rfl):ly s nm nn ((t,v') :: r):=Hx h e hr
section
variable {type:TypeId} {pos:String} {after:Array Edge} {guard:Option (Nat×Bool)} {l:List Oper} {x:Operand}
theorem pa (d:Nat) (v:PV) (k:AL P N ops l (s.put (some d) v) Q) (hx:s.ev x=v:=by exact rfl) (hg:dr ops ⟨some d,.assign x,type,pos,after,guard⟩ s=some true:=by exact rfl) (hN:∀z0∈(⟨some d,.assign x,type,pos,after,guard⟩:Oper).looksAt ops,z0<N:=by decide):AL P N ops (⟨some d,.assign x,type,pos,after,guard⟩ :: l) s Q:=CH (some d) rfl hg (Cp hx) hN k
theorem pl (d:Nat) {t:TypeId} {x:Operand} {p:PV} {cs:List PV} {L:List (Nat×Nat)} {ti:dc} (v:PV) (ht:bm P t=some ti) (k:AL P N ops l (s.put (some d) v) Q) (hx:s.ev x=p:=by conv=>lhs;whnf) (hc:s.cellsAt p=some (cs,L):=by conv=>lhs;whnf) (hv:lu ti cs=some v:=by exact rfl) (hg:dr ops ⟨some d,.load t x,type,pos,after,guard⟩ s=some true:=by exact rfl) (hN:∀z0∈(⟨some d,.load t x,type,pos,after,guard⟩:Oper).looksAt ops,z0<N:=by decide):AL P N ops (⟨some d,.load t x,type,pos,after,guard⟩ :: l) s Q:=CI (some d) rfl hg (cu hx hc ht hv) hN k
end
section
variable {b:Option (Nat→Nat→Bool)} {i:Nat} {fx:List (Nat×Fx)} {o:Oper} {l:List Oper}
theorem qP (d:Nat) {v:PV} (h:bw P N ops o s (cN v)) (k:AO P N ops b (i+1) fx l (s.put (some d) v) Q) (hd:o.dst=some d:=by exact rfl) (hg:dr ops o s=some true:=by exact rfl) (hN:∀z0∈o.looksAt ops,z0<N:=by decide):AO P N ops b i fx (o :: l) s Q:=H6 (some d) hd hg h hN k
theorem qD (d:Nat) {x:Fx} (h:bw P N ops o s x) (k:AO P N ops b (i+1) (fx++[(i,x)]) l (s.app (some d) x) Q) (hd:o.dst=some d:=by exact rfl) (hg:dr ops o s=some true:=by exact rfl) (hN:∀z0∈o.looksAt ops,z0<N:=by decide):AO P N ops b i fx (o :: l) s Q:=gj (some d) hd hg h hN k
theorem qR (d:Nat) {L:List (Nat×Nat)} {v:PV} (h:bw P N ops o s ⟨L,v,[],[]⟩) (k:AO P N ops b (i+1) (fx++[(i,⟨L,v,[],[]⟩)]) l (s.put (some d) v) Q) (hd:o.dst=some d:=by exact rfl) (hg:dr ops o s=some true:=by exact rfl) (hN:∀z0∈o.looksAt ops,z0<N:=by decide):AO P N ops b i fx (o :: l) s Q:=H7 (some d) hd hg h hN k
theorem qS (d:Nat) (k:AO P N ops b (i+1) fx l (s.put (some d) .skip) Q) (hd:o.dst=some d:=by exact rfl) (hg:dr ops o s=some false:=by exact rfl) (hN:∀z0∈o.looksAt ops,z0<N:=by decide):AO P N ops b i fx (o :: l) s Q:=H8 (some d) hd hg hN k
end
end Go.Proofs.YtjklegmimpehlaaGreat.Ab
