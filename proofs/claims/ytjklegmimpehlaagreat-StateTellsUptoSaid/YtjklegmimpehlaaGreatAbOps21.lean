import Derived.Test.YtjklegmimpehlaaGreatAbDel
import Derived.MapKept
import Derived.Test.YtjklegmimpehlaaGreatAbOps16
import Derived.ChangeKeysEq
namespace Go.Proofs.YtjklegmimpehlaaGreat.Ab
open Go Go.RowKit Go.MapKept
set_option linter.unusedVariables false
set_option linter.unusedSimpArgs false
variable {P:Program} {N:Nat} {ops:Array Oper} {s:St} {dst:Option Tmp} {type:TypeId} {pos:String} {after:Array Edge} {guard:Option (Nat×Bool)}
theorem Il {d:Nat} {t:TypeId} (k:IntKind):bw P N ops ⟨some d,.makeMap t none,type,pos,after,guard⟩ s ⟨[],.mp d (s.next d),[((d,s.next d),some (.mp k []))],[d]⟩:=
 uI d fun w0 Mv J s' a w hs _ hnx hr=>by
  refine⟨.map (some w.heap.size),.map #[] 0,?_,rfl,fun M J' hJ'=>.mp _ _ _ _ hJ',fun M J' hJ' hmono hsub=>⟨w.heap.size,#[],0,hJ',heap_alloc_new w _,rfl⟩⟩
  simp[execOp,Instr.makeMap,newObj,Sem.run]<;>rfl
theorem Im {k:IntKind} {es:Array MapEntry} {ks:List Int} (h:rA k es ks):∀x∈es.toList,IsKey (.int k) x.key:=fun x hx=>by
 have h1:(x.key,x.val)∈es.toList.map (fun e=>(e.key,e.val)):=List.mem_map.2 ⟨x,hx,rfl⟩
 rw[h]at h1
 obtain⟨n,_,h2⟩:=List.mem_map.1 h1
 injection h2 with h3 h4
 rw[← h3];simp[IsKey]
theorem CS {k:IntKind} {es:Array MapEntry} {ks:List Int} (h:rA k es ks) (n:Int) :
  (n ∉ ks∧Instr.findNow (.int k) (.int k n) es.toList 0=some none)∨∃j e,n∈ks∧Instr.findNow (.int k) (.int k n) es.toList 0=some (some (j,.bool true))∧es[j]? = some e∧e.key = .int k n∧e.val = .bool true:=by
 have hmem:∀x∈es.toList,x.val = .bool true∧∃m∈ks,x.key = .int k m:=fun x hx=>by
  have h1:(x.key,x.val)∈es.toList.map (fun e=>(e.key,e.val)):=List.mem_map.2 ⟨x,hx,rfl⟩
  rw[h]at h1
  obtain⟨m,hm,h2⟩:=List.mem_map.1 h1
  injection h2 with h3 h4
  exact⟨h4.symm,m,hm,h3.symm⟩
 rcases findNow_spec (d:=.int k) (k:=.int k n) (by simp[IsKey]) es.toList 0 (Im h)with ⟨h1,h2⟩ | ⟨j,e,h1,h2,h3⟩
 ·left
  refine⟨fun hn=>?_,h1⟩
  have h4:((.int k n:Value),(.bool true:Value))∈ks.map (fun n=>((.int k n:Value),(.bool true:Value))):=List.mem_map.2 ⟨n,hn,rfl⟩
  rw[← h]at h4
  obtain⟨x,hx,h5⟩:=List.mem_map.1 h4
  injection h5 with h6 _
  exact h2 x hx h6
 ·right
  obtain⟨v1,m,v2,v3⟩:=hmem e (List.mem_of_getElem? h2)
  have hmn:m=n:=by rw[h3]at v3;injection v3 with _ q;exact q.symm
  refine⟨j,e,hmn ▸ v2,by rw[h1,v1,Nat.zero_add],by rw[← Array.getElem?_toList];exact h2,h3,v1⟩
theorem In {t:TypeId} {x y:Operand} {d n:Nat} {k:IntKind} {ks:List Int} {v:Int} {kt et:TypeId} (hx:s.ev x = .mp d n) (hb:s.heap d n=some (.mp k ks)) (hy:s.ev y = .int k v) (ht:P.underlying t=some (.map kt et)) (hkt:P.underlying kt=some (.int k)) (hz:∀w,(zeroValue et).run P w = .ok (.bool false) w) :
  bw P N ops ⟨dst,.lookup t x y false,type,pos,after,guard⟩ s ⟨[(d,n)],.bool (decide (v∈ks)),[],[]⟩:=by
 intro s' ha hlt w0 Mv J a w hs Q
 have hb':s'.heap d n=some (.mp k ks):=(ha.rd (d,n) List.mem_cons_self).trans hb
 obtain⟨g,es,clock,hJ,hh,hset⟩:=hs.obj d n _ hb'
 have hrx:aG w (aT s' J) J (.mp d n) (a.eval x):=by
  rw[← hx,← iV ha (by simp[Op.operands])]
  exact iU hs fun t ht=>hlt t (iw (by subst ht;simp[Op.operands]))
 have hry:aG w (aT s' J) J (.int k v) (a.eval y):=by
  rw[← hy,← iV ha (by simp[Op.operands])]
  exact iU hs fun t ht=>hlt t (iw (by subst ht;simp[Op.operands]))
 have hvx:a.eval x = .map (some g):=by
  generalize a.eval x=u at hrx
  cases hrx with
  | mp _ _ _ g' h=>rw[hJ]at h;injection h with h;exact h.symm
 have hvy:a.eval y = .int k v:=by
  generalize a.eval y=u at hry
  cases hry;rfl
 have hck:=fun e=>run_checkKey (w:=w) hkt (k:=.int k v) (by simp[IsKey]) e 9999
 have hrun:(execOp a.eval ⟨dst,.lookup t x y false,type,pos,after,guard⟩).run P w = .ok (.value (.bool (decide (v∈ks)))) w:=by
  rcases CS hset v with ⟨hn,hf⟩ | ⟨j,e,hn,hf,_,_,_⟩
  ·have hfk:=run_findKey (w:=w) hkt hf
   simp[execOp,Instr.lookup,hvx,hvy,run_underlying ht,Go.MapKept.run_getObj_map hh,hck,hfk,hz,Result.andThen,hn]
  ·have hfk:=run_findKey (w:=w) hkt hf
   simp[execOp,Instr.lookup,hvx,hvy,run_underlying ht,Go.MapKept.run_getObj_map hh,hck,hfk,Result.andThen,hn]
 unfold Oper.wp
 rw[hrun,Oper.upon_value]
 refine⟨J,?_⟩
 rw[uy]
 exact hs.put dst (.bool _ _)
def kC (ks:List Int) (v:Int):List Int:=if v∈ks then ks else ks++[v]
theorem Io {t:TypeId} {x y z:Operand} {d n:Nat} {k:IntKind} {ks:List Int} {v:Int} {kt et:TypeId} (hx:s.ev x = .mp d n) (hb:s.heap d n=some (.mp k ks)) (hy:s.ev y = .int k v) (hz:s.ev z = .bool true) (ht:P.underlying t=some (.map kt et)) (hkt:P.underlying kt=some (.int k)) :
  bw P N ops ⟨none,.mapUpdate t x y z,type,pos,after,guard⟩ s ⟨[],.skip,[((d,n),some (.mp k (kC ks v)))],[]⟩:=
 C5 hb rfl rfl fun w0 Mv J s' a w hs _ hb' hrep=>by
  obtain⟨g,es,clock,hJ,hh,hset⟩:=hs.obj d n _ hb'
  have hrx:=hrep x (by simp[Op.operands])
  have hry:=hrep y (by simp[Op.operands])
  have hrz:=hrep z (by simp[Op.operands])
  rw[hx]at hrx
  rw[hy]at hry
  rw[hz]at hrz
  have hvx:a.eval x = .map (some g):=by
   generalize a.eval x=u at hrx
   cases hrx with
   | mp _ _ _ g' h=>rw[hJ]at h;injection h with h;exact h.symm
  have hvy:a.eval y = .int k v:=by
   generalize a.eval y=u at hry
   cases hry;rfl
  have hvz:a.eval z = .bool true:=by
   generalize a.eval z=u at hrz
   cases hrz;rfl
  have hck:=run_checkKey (w:=w) hkt (k:=.int k v) (by simp[IsKey]) false 9999
  have hlt:g<w.heap.size:=(Array.getElem?_eq_some_iff.1 hh).1
  have hgb:∀o:Obj,w.grownBy { w with heap:=w.heap.setIfInBounds g o } (some g):=fun o=>⟨rfl,rfl,rfl,by simp,fun q hq hne=>by simp[Array.getElem?_setIfInBounds,Ne.symm (fun e:q=g=>hne (by rw[e]))]⟩
  rcases CS hset v with ⟨hn,hf⟩ | ⟨j,e,hn,hf,hje,hkey,hval⟩
  ·have hfk:=run_findKey (w:=w) hkt hf
   refine⟨.map (some g),g,{ w with heap:=w.heap.setIfInBounds g (.map (es.push { key:=.int k v,val:=.bool true,born:=clock }) (clock+1)) },?_,hJ,rfl,hgb _,fun M hmono=>⟨g,es.push { key:=.int k v,val:=.bool true,born:=clock },clock+1,hJ,by simp[hlt],?_⟩⟩
   ·simp[execOp,Instr.mapUpdate,hvx,hvy,hvz,run_underlying ht,Go.MapKept.run_getObj_map hh,hck,hfk,Go.MapKept.run_setObj_map _ hh,Result.andThen]
   ·unfold rA at *
    simp[kC,hn,hset]
  ·have hfk:=run_findKey (w:=w) hkt hf
   refine⟨.map (some g),g,{ w with heap:=w.heap.setIfInBounds g (.map (es.modify j fun e=>{ e with key:=.int k v,val:=.bool true }) clock) },?_,hJ,rfl,hgb _,fun M hmono=>⟨g,es.modify j fun e=>{ e with key:=.int k v,val:=.bool true },clock,hJ,by simp[hlt],?_⟩⟩
   ·simp[execOp,Instr.mapUpdate,hvx,hvy,hvz,run_underlying ht,Go.MapKept.run_getObj_map hh,hck,hfk,hje,hkey,Instr.keyThatStays,Instr.sameBits,Go.MapKept.run_setObj_map _ hh,Result.andThen]
   ·unfold rA at *
    rw[kC,if_pos hn,← hset]
    apply List.ext_getElem?
    intro i
    rw[List.getElem?_map,List.getElem?_map,Array.getElem?_toList,Array.getElem?_toList,Array.getElem?_modify]
    by_cases hij:j=i
    ·subst hij
     rw[if_pos rfl,hje]
     simp[hkey,hval]
    ·rw[if_neg hij]
end Go.Proofs.YtjklegmimpehlaaGreat.Ab
namespace Go.Proofs.YtjklegmimpehlaaGreat.Ab
open Go Go.RowKit
set_option linter.unusedVariables false
variable {P:Program} {N:Nat} {s:St}
theorem oc {nm nn ps:Nm} {p q:Nat×Nat} {o o1 o2:cb} {r:List ((Nat×Nat)×cb)} (hr:lz s nm nn ps r) (h:s.heap p.1 p.2=some o:=by conv=>lhs;whnf) (h1:iA s nm nn o=some o1:=by conv=>lhs;whnf) (e:o1=o2:=by exact rfl) (h0:q.1=0→p=q:=by simp):lz s nm nn (p :: ps) ((q,o2) :: r):=Hz h h1 e h0 hr
theorem ra {tl:List (Nat×PV)} {ol:List ((Nat×Nat)×cb)} {nx:List (Nat×Nat)} (nm:Nm) (henv:ly s nm (ol.map (·.1)) tl:=by repeat (first | exact Hw | refine ec ?_)) (hobj:lz s nm (ol.map (·.1)) nm ol:=by repeat (first | exact Hy | refine oc ?_))
  (hnm:nm.Nodup:=by exact oT rfl) (hnn:(ol.map (·.1)).Nodup:=by exact oT rfl) (hnx:ol.all (fun q=>Nat.blt q.1.2 (jS nx q.1.1))=true:=by exact rfl) (hnx0:Nat.ble (s.next 0) (jS nx 0)=true:=by exact rfl):eH N s (lit tl ol nx s.X):=IW tl nm ol nx henv hobj hnm hnn hnx hnx0
end Go.Proofs.YtjklegmimpehlaaGreat.Ab
namespace Go.Proofs.YtjklegmimpehlaaGreat.Ab
open Go Go.RowKit
set_option linter.unusedVariables false
set_option linter.unusedSimpArgs false
variable {P:Program} {N:Nat} {ops:Array Oper} {s:St} {dst:Option Tmp} {type:TypeId} {pos:String} {after:Array Edge} {guard:Option (Nat×Bool)}
theorem bK.dead {w0:World} {Mv:Nat→Prop} {J:bI} {a:Act} {w:World} (h:bK w0 Mv N J s a w) (d n:Nat):bK w0 Mv N J (s.setH d n none) a w:=by
 have hM:∀b,cJ (s.setH d n none) J b→cJ s J b:=by
  rintro b ⟨d',n',o',v',h1,h2,h3,h4⟩
  simp only[St.setH]at h1
  split at h1
  ·cases h1
  ·exact⟨d',n',o',v',h1,h2,h3,h4⟩
 have hex:∀d' n' o',(s.setH d n none).heap d' n'=some o'→s.heap d' n'=some o':=by
  intro d' n' o' h1
  simp only[St.setH]at h1
  split at h1
  ·cases h1
  ·exact h1
 refine h.update (row:=none) (World.grownBy.refl w none) (Nat.le_refl _) (by simp) (fun _ _ _ h=>h) rfl rfl (fun b _ hm=>hM b hm) (fun d' n' o' h1=>?_) ?_ (fun d' n' hle=>?_) (fun d' n' o' v' g h1 h2 h3=>h.sepX _ _ _ _ g (hex _ _ _ h1) h2 h3)
 ·exact .inl ⟨hex _ _ _ h1,by simp⟩
 ·intro d1 n1 d2 n2 o1 o2 v1 v2 g h1 h2 h3 h4 h5 h6
  exact h.sep _ _ _ _ _ _ _ _ g (hex _ _ _ h1) (hex _ _ _ h2) h3 h4 h5 h6
 ·have:=h.nxt d' n' hle
  refine⟨?_,this.2⟩
  simp only[St.setH]
  split
  ·rfl
  ·exact this.1
def x0:PV→Bool
 | .int _ _=>true
 | _=>false
theorem CT {c:PV} (h:x0 c=true):∃k n,c = .int k n:=by
 cases c<;>first | exact⟨_,_,rfl⟩ | cases h
theorem CU:∀{v:List PV},v.all x0=true→bj v=v∧(∀x∈v,x.cells.length=1)∧∀c∈v,c.one=true
 | [],_=>⟨rfl,by simp,by simp⟩
 | c :: v,h=>by
  simp only[List.all_cons,Bool.and_eq_true]at h
  obtain⟨k,n,rfl⟩:=CT h.1
  obtain⟨h1,h2,h3⟩:=CU h.2
  refine⟨?_,fun x hx=>?_,fun x hx=>?_⟩
  ·have:bj (PV.int k n :: v)=PV.int k n :: bj v:=rfl
   rw[this,h1]
  ·rcases List.mem_cons.1 hx with rfl | hx
   ·rfl
   ·exact h2 x hx
  ·rcases List.mem_cons.1 hx with rfl | hx
   ·rfl
   ·exact h3 x hx
theorem CV {t e:TypeId} {x:Operand} {ln d n off sz by_:Nat} {cs v z:List PV} {ei:dc} (hx:s.ev x = .ptr d n off) (hb:s.heap d n=some (.box cs)) (ht:bm P t=some ⟨.arr ln e,sz,by_,z⟩) (he:bm P e=some ei)
  (hv:(cs.drop off).take ln=v) (hl:Nat.beq v.length ln=true) (hp:v.all x0=true):bw P N ops ⟨dst,.slice t x none none none,type,pos,after,guard⟩ s ⟨[],.sl 1 v,[((d,n),none)],[]⟩:=by
 intro s' ha hlt w0 Mv J a w hs Q
 have hb':s'.heap d n=some (.box cs):=(ha.up ((d,n),none) List.mem_cons_self).trans hb
 have hl':=Nat.eq_of_beq_eq_true hl
 obtain⟨g,cur,tt,h1,h2,h3,h4,h5⟩:=hs.obj d n _ hb'
 have hrx:aG w (aT s' J) J (.ptr d n off) (a.eval x):=by
  rw[← hx,← iV ha (by simp[Op.operands])]
  exact iU hs fun t ht=>hlt t (iw (by subst ht;simp[Op.operands]))
 have hvx:a.eval x = .pointer (some ⟨g,off,none⟩):=by
  generalize a.eval x=u at hrx
  cases hrx with
  | ptr _ _ _ _ g' h=>
   rw[h1]at h
   injection h with h
   injection h with h
   injection h with h
   injection h with h _ _
   rw[h]
 have hrun:(execOp a.eval ⟨dst,.slice t x none none none,type,pos,after,guard⟩).run P w = .ok (.value (.slice (some ⟨g,off,none⟩) ln ln)) w:=by
  simp[execOp,hvx,Instr.sliceAt,run_underlying (CN ht),Instr.sureAddr,Instr.sliceBounds,i0 he]
  intro _;rfl
 unfold Oper.wp
 rw[hrun,Oper.upon_value]
 refine⟨J,?_⟩
 have hd:=hs.dead d n
 have e:s'.app dst ⟨[],.sl 1 v,[((d,n),none)],[]⟩=(s'.setH d n none).put dst (.sl 1 v):=by
  have h6:∀a m,look [((d,n),none)] a m (s'.heap a m)=(s'.setH d n none).heap a m:=by
   intro a m
   simp only[look,St.setH]
  cases dst<;>simp only[St.app,h6]<;>rfl
 show bK w0 Mv N J (s'.app dst ⟨[],.sl 1 v,[((d,n),none)],[]⟩) _ w
 rw[e]
 refine hd.put dst ?_
 obtain⟨f1,f2,f3⟩:=CU hp
 have hget:∀(k:Nat) (c:PV),v[k]? = some c→cs[off+k]? = some c:=fun k c hk=>by
  rw[← hv,List.getElem?_take]at hk
  split at hk
  ·rwa [List.getElem?_drop]at hk
  ·cases hk
 have hnotM:¬aT (s'.setH d n none) J g:=by
  rintro(hm | ⟨d',n',o',v',q1,q2,q3,q4⟩)
  ·exact hs.sepX d n _ _ g hb' h1 rfl hm
  ·simp only[St.setH]at q1
   split at q1
   ·cases q1
   ·rename_i hne
    have:=hs.sep d n d' n' _ _ _ _ g hb' q1 h1 q3 rfl q4
    exact hne ⟨this.1.symm,this.2.symm⟩
 have key:aG w (aT (s'.setH d n none) J) J (.sl 1 v) (.slice (some ⟨g,off,none⟩) v.length ln):=by
  refine .sl _ _ _ _ _ (fun k=>cur.getD (off+k) Go.undef) (by decide) f2 (fun c hc=>f3 c (by rwa [f1]at hc)) (by omega) (fun _=>hnotM) (fun k c hk=>?_) (fun k c hk=>?_)
  ·rw[f1]at hk
   have h7:=(List.getElem?_eq_some_iff.1 (hget k c hk)).1
   have h8:off+k<cur.size:=by omega
   have h9:w.cell? ⟨g,off+k,none⟩=cur[off+k]?:=by simp[World.cell?,h2]
   have h0:(⟨g,off,none⟩:Addr).add k=⟨g,off+k,none⟩:=by unfold Addr.add;split<;>simp_all
   refine((congrArg w.cell? h0).trans h9).trans ?_
   simp[Array.getD,h8]
  ·rw[f1]at hk
   obtain⟨kk,nn,rfl⟩:=CT (List.all_eq_true.1 hp c (List.mem_of_getElem? hk))
   have h7:=(List.getElem?_eq_some_iff.1 (hget k _ hk)).1
   have h8:off+k<cur.size:=by omega
   have h9:=h5 (off+k) _ (cur.getD (off+k) Go.undef) (hget k _ hk) (by simp[Array.getD,h8])
   generalize cur.getD (off+k) Go.undef=u at h9
   cases h9
   exact .int _ _ _
 rw[hl']at key
 exact key
end Go.Proofs.YtjklegmimpehlaaGreat.Ab
namespace Go.Proofs.YtjklegmimpehlaaGreat.Ab
open Go Go.RowKit
set_option linter.unusedVariables false
set_option linter.unusedSimpArgs false
variable {P:Program} {N:Nat} {ops:Array Oper} {s:St} {dst:Option Tmp} {type:TypeId} {pos:String} {after:Array Edge} {guard:Option (Nat×Bool)}
def ya:Nat→List Kd→List Kd
 | 0,_=>[]
 | n+1,K=>K++ya n K
def i2 (P:Program):Nat→TypeId→Option (List Kd)
 | 0,_=>none
 | d+1,t=>match P.underlying t with
  | some .bool=>some [.b]
  | some (.int k)=>some [.i k]
  | some .string=>some [.s]
  | some (.struct fs)=>if P.stoodInHeld t then none else lx P (i2 P d) fs.toList 0
  | some (.array n e)=>match i2 P d e with
   | some K=>if 0<K.length∧K.length=P.cellsOf e then some (ya n K)else none
   | none=>none
  | _=>none
theorem CW {d:Nat} {e:TypeId} {K:List Kd} (hE:∀(us vs:List Value) (r:Bool),fb K us vs=some r→∀w,(Op.equalIn d e (eT (aggT P e) us) (eT (aggT P e) vs)).run P w = .ok r w) (h0:0<K.length) (hl:K.length=P.cellsOf e) (hu:∃dd,P.underlying e=some dd) :
  ∀(n i:Nat) (us vs:List Value) (r:Bool),fb (ya n K) (us.drop (i*K.length)) (vs.drop (i*K.length))=some r→∀w,(Op.eqItems d e (P.cellsOf e) us.toArray vs.toArray (List.range' i n)).run P w = .ok r w
 | 0,i,us,vs,r,he,w=>by
  have hl:=ml he
  have h1:us.drop (i*K.length)=[]:=List.eq_nil_of_length_eq_zero hl.1
  have h2:vs.drop (i*K.length)=[]:=List.eq_nil_of_length_eq_zero hl.2
  rw[h1,h2]at he
  injection he with he
  subst he
  simp[Op.eqItems,Sem.run_pure]
 | n+1,i,us,vs,r,he,w=>by
  obtain⟨r1,r2,h1,h2,rfl⟩:=uN he
  rw[List.drop_drop,List.drop_drop,show i*K.length+K.length=(i+1)*K.length by rw[Nat.succ_mul]]at h2
  obtain⟨dd,hu'⟩:=hu
  have hle:=ml h1
  simp only[List.length_take,List.length_drop]at hle
  have p1:(part e us.toArray (i*P.cellsOf e)).run P w = .ok (eT (aggT P e) ((us.drop (i*K.length)).take K.length)) w:=by
   rw[← hl];exact oZ hu' us _ _ hl.symm (by omega) h0 w
  have p2:(part e vs.toArray (i*P.cellsOf e)).run P w = .ok (eT (aggT P e) ((vs.drop (i*K.length)).take K.length)) w:=by
   rw[← hl];exact oZ hu' vs _ _ hl.symm (by omega) h0 w
  have e1:=hE _ _ r1 h1 w
  have e2:=CW hE h0 hl ⟨dd,hu'⟩ n (i+1) us vs r2 h2 w
  rw[List.range'_succ]
  simp only[Op.eqItems,Sem.run_bind,p1,p2,e1,Result.andThen_ok]
  cases r1
  ·simp[Sem.run_pure]
  ·simpa using e2
mutual
theorem yb:∀(m:Nat) (t:TypeId) (K:List Kd),i2 P m t=some K→∀(d:Nat) (us vs:List Value) (r:Bool),m≤d→fb K us vs=some r→∀w,(Op.equalIn d t (eT (aggT P t) us) (eT (aggT P t) vs)).run P w = .ok r w
 | 0,t,K,h=>by simp[i2]at h
 | m+1,t,K,h=>by
  intro d us vs r hd he w
  obtain⟨d,rfl⟩:∃e,d=e+1:=⟨d-1,by omega⟩
  unfold i2 at h
  split at h
  ·rename_i hu;injection h with h;subst h;exact o3 (k:=.b) hu he w
  ·rename_i hu;injection h with h;subst h;exact o3 (k:=.i _) hu he w
  ·rename_i hu;injection h with h;subst h;exact o3 (k:=.s) hu he w
  ·rename_i fs hu
   split at h
   ·cases h
   ·rename_i hst
    have hf:P.fieldsOf t=fs:=by simp[Program.fieldsOf,hu]
    have ha:aggT P t=true:=by simp[aggT,hu]
    simp only[eT,ha,if_true]
    rw[run_equalIn_struct w d t _ _ (by rw[hf];exact hu) (by simpa using hst),hf]
    exact CX m fs.toList 0 K h d us vs r (by omega) (by simpa using he) w
  ·rename_i n e hu
   split at h
   ·rename_i K1 hK1
    split at h
    ·rename_i hl1
     injection h with h
     subst h
     have ha:aggT P t=true:=by simp[aggT,hu]
     obtain⟨i,hi⟩:∃i,P.info? e=some i:=by
      cases hi:P.info? e with
      | none=>
       exfalso
       have h1:=hl1.1
       have h2:=hl1.2
       simp[Program.cellsOf,hi]at h2
       simp[h2]at h1
      | some i=>exact⟨i,rfl⟩
     simp only[eT,ha,if_true]
     rw[run_equalIn_array w d _ _ hu hi,List.range_eq_range']
     have hue:∃dd,P.underlying e=some dd:=by
      cases m with
      | zero=>simp[i2]at hK1
      | succ m=>
       unfold i2 at hK1
       split at hK1<;>first | exact⟨_,by assumption⟩ | cases hK1
     exact CW (fun a b r he w=>yb m e K1 hK1 d a b r (by omega) he w) hl1.1 hl1.2 hue n 0 us vs r (by simpa using he) w
    ·cases h
   ·cases h
  ·cases h
 termination_by m _ _=>(m,0)
theorem CX:∀(m:Nat) (fs:List Field) (off:Nat) (K:List Kd),lx P (i2 P m) fs off=some K→∀(d:Nat) (us vs:List Value) (r:Bool),m≤d→fb K (us.drop off) (vs.drop off)=some r→∀w,(Op.eqFields d us.toArray vs.toArray fs).run P w = .ok r w
 | m,[],off,K,h=>by
  intro d us vs r hd he w
  unfold lx at h
  injection h with h
  subst h
  have hl:=ml he
  have h1:us.drop off=[]:=List.eq_nil_of_length_eq_zero hl.1
  have h2:vs.drop off=[]:=List.eq_nil_of_length_eq_zero hl.2
  rw[h1,h2]at he
  injection he with he
  subst he
  simp[Op.eqFields,Sem.run_pure]
 | m,f :: fs,off,K,h=>by
  intro d us vs r hd he w
  unfold lx at h
  split at h
  ·rename_i hc
   obtain⟨hn,ho⟩:=hc
   split at h
   ·rename_i K1 hK1
    split at h
    ·rename_i hl1
     split at h
     ·rename_i L hL
      injection h with h
      subst h
      obtain⟨r1,r2,h1,h2,rfl⟩:=uN he
      rw[List.drop_drop,List.drop_drop]at h2
      have hu:∃dd,P.underlying f.type=some dd:=by
       cases m with
       | zero=>simp[i2]at hK1
       | succ m=>
        unfold i2 at hK1
        split at hK1<;>first | exact⟨_,by assumption⟩ | cases hK1
      obtain⟨dd,hu⟩:=hu
      have hle:=ml h1
      simp only[List.length_take,List.length_drop]at hle
      have hpos:=hl1.1
      have p1:(part f.type us.toArray f.offset).run P w = .ok (eT (aggT P f.type) ((us.drop off).take K1.length)) w:=by
       rw[ho];exact oZ hu us off _ hl1.2.symm (by omega) hl1.1 w
      have p2:(part f.type vs.toArray f.offset).run P w = .ok (eT (aggT P f.type) ((vs.drop off).take K1.length)) w:=by
       rw[ho];exact oZ hu vs off _ hl1.2.symm (by omega) hl1.1 w
      have e1:=yb m f.type K1 hK1 d _ _ r1 hd h1 w
      have e2:=CX m fs (off+K1.length) L hL d us vs r2 hd h2 w
      simp only[Op.eqFields,hn,ne_eq,not_false_eq_true,if_true,Sem.run_bind,p1,p2,e1,Result.andThen_ok]
      cases r1
      ·simp[Sem.run_pure]
      ·simpa using e2
     ·cases h
    ·cases h
   ·cases h
  ·cases h
 termination_by m fs=>(m,fs.length+1)
end
theorem CY {op:BinOp} {t ty:TypeId} {x y:Operand} {xs ys:List PV} {m:Nat} {K:List Kd} {r:Bool} {v:PV} (hx:s.ev x = .agg xs) (hy:s.ev y = .agg ys) (hK:i2 P m t=some K) (hm:Nat.ble m 10000=true) (ha:aggT P t=true) (hg:P.eqGuardType P.depth t=false)
  (hr:mj K xs ys=some r) (hv:(match op with | .eql=>some (PV.bool r) | .neq=>some (PV.bool (!r)) | _=>none)=some v):bw P N ops ⟨dst,.binOp op t x y ty,type,pos,after,guard⟩ s (cN v):=
 fC v fun w M J ρ hrep=>by
  have h1:=hrep x (by simp[Op.operands])
  have h2:=hrep y (by simp[Op.operands])
  rw[hx]at h1
  rw[hy]at h2
  generalize hcx:ρ x=cx at h1
  generalize hcy:ρ y=cy at h2
  cases h1 with
  | agg _ _ us hl1 hr1=>
   cases h2 with
   | agg _ _ vs hl2 hr2=>
    have he:=yg (us:=us.toList) (vs:=vs.toList) hr (by simpa using hl1) (by simpa using hl2) (fun i c v hc hv=>hr1 i c v hc (by simpa using hv)) (fun i c v hc hv=>hr2 i c v hc (by simpa using hv))
    have heq:=yb m t K hK 10000 _ _ r (Nat.le_of_ble_eq_true hm) he w
    simp only[eT,ha,if_true,Array.toArray_toList]at heq
    have hgd:=run_eqGuard_agg (P:=P) w op t x y us vs hg
    cases op<;>simp at hv
    ·subst hv
     exact⟨_,by simp[execOp,hcx,hcy,hgd,run_eql_struct,heq],.bool _ _⟩
    ·subst hv
     exact⟨_,by simp[execOp,hcx,hcy,hgd,run_neq_struct,heq],.bool _ _⟩
end Go.Proofs.YtjklegmimpehlaaGreat.Ab
namespace Go.Proofs.YtjklegmimpehlaaGreat.Ab
open Go Go.RowKit
set_option linter.unusedVariables false
variable {P:Program} {N:Nat} {ops:Array Oper} {s:St} {Q:Exit→St→Prop} {dst:Option Tmp} {type:TypeId} {pos:String} {after:Array Edge} {guard:Option (Nat×Bool)}
theorem nk {x:Operand} {p q:PV} (hx:s.ev x=p:=by conv=>lhs;whnf) (hq:p.plus 0=some q:=by exact rfl):bw P N ops ⟨dst,.nilCheck x,type,pos,after,guard⟩ s (cN p):=HX hx hq
theorem zl {t ty e:TypeId} {x:Operand} {sz by_ m:Nat} {z:List PV} {α:Type} {f:α→PV} {l:List α} (ht:bm P t=some ⟨.slice e,sz,by_,z⟩) (hx:s.ev x = .sl m (List.map f l):=by conv=>lhs;whnf) :
  bw P N ops ⟨dst,.call ⟨.builtin .len,#[x],#[t]⟩,ty,pos,after,guard⟩ s (cN (.int .i64 (l.length:Int))):=(Ik hx ht).castp (um _)
theorem ia {t e:TypeId} {x y:Operand} {sz by_:Nat} {z:List PV} {ei:dc} {k:IntKind} {i:Int} {α:Type} {f:α→PV} {l:List α} {a:α} (ht:bm P t=some ⟨.slice e,sz,by_,z⟩) (he:bm P e=some ei) (h0:0≤i) (hg:l[i.toNat]? = some a) (hx:s.ev x = .sl ei.size (List.map f l):=by conv=>lhs;whnf) (hy:s.ev y = .int k i:=by conv=>lhs;whnf) :
  bw P N ops ⟨dst,.indexAddr t x y,type,pos,after,guard⟩ s (cN (.rptr (f a).cells)):=i1 hx hy ht he h0 (ul hg)
theorem ja {t e:TypeId} {x y:Operand} {sz by_:Nat} {z:List PV} {ei:dc} {k:IntKind} {i:Int} {j:Nat} {α:Type} {f:α→PV} {l:List α} {a:α} (ht:bm P t=some ⟨.slice e,sz,by_,z⟩) (he:bm P e=some ei) (hg:l[j]? = some a) (hx:s.ev x = .sl ei.size (List.map f l):=by conv=>lhs;whnf) (hy:s.ev y = .int k i:=by conv=>lhs;whnf) (hj:i.toNat=j:=by exact rfl) (h0:0≤i:=by decide) :
  bw P N ops ⟨dst,.indexAddr t x y,type,pos,after,guard⟩ s (cN (.rptr (f a).cells)):=i1 hx hy ht he h0 (ul (hj ▸ hg))
theorem mv {x:Operand} {v:PV} (hv:s.ev x=v:=by conv=>lhs;whnf):bw P N ops ⟨dst,.move x,type,pos,after,guard⟩ s (cN v):=HG hv
theorem Y {x:Operand} {v:PV} (hv:s.ev x=v:=by conv=>lhs;whnf):bw P N ops ⟨dst,.assign x,type,pos,after,guard⟩ s (cN v):=Cp hv
theorem ld {t:TypeId} {x:Operand} {p:PV} {cs:List PV} {L:List (Nat×Nat)} {ti:dc} {v:PV} (ht:bm P t=some ti) (hx:s.ev x=p:=by conv=>lhs;whnf) (hc:s.cellsAt p=some (cs,L):=by conv=>lhs;whnf) (hv:lu ti cs=some v:=by conv=>lhs;whnf) :
  bw P N ops ⟨dst,.load t x,type,pos,after,guard⟩ s ⟨L,v,[],[]⟩:=cu hx hc ht hv
theorem fa {t:TypeId} {x:Operand} {i:Nat} {p q:PV} {fs:List (Nat×TypeId)} {sz by_:Nat} {z:List PV} {off:Nat} {ft:TypeId} {fi:dc} (ht:bm P t=some ⟨.struct fs,sz,by_,z⟩) (hft:bm P ft=some fi) (hx:s.ev x=p:=by conv=>lhs;whnf) (hf:fs[i]? = some (off,ft):=by exact rfl) (hp:fi.size≠0:=by decide) (hq:p.plus off=some q:=by conv=>lhs;whnf) :
  bw P N ops ⟨dst,.fieldAddr t x i,type,pos,after,guard⟩ s (cN q):=Ij hx ht hf hft hp hq
theorem un {op:UnOp} {t:TypeId} {x:Operand} {a v:PV} (hx:s.ev x=a:=by conv=>lhs;whnf) (hv:xV op a=some v:=by conv=>lhs;whnf):bw P N ops ⟨dst,.unOp op t x,type,pos,after,guard⟩ s (cN v):=HM hx hv
theorem bi {op:BinOp} {t ty:TypeId} {x y:Operand} {a b v:PV} (hx:s.ev x=a:=by conv=>lhs;whnf) (hy:s.ev y=b:=by conv=>lhs;whnf) (hv:lr op a b=some v:=by conv=>lhs;whnf):bw P N ops ⟨dst,.binOp op t x y ty,type,pos,after,guard⟩ s (cN v):=jO hx hy hv
theorem pc {c x y:Operand} {b:Bool} {v:PV} (hc:s.ev c = .bool b:=by conv=>lhs;whnf) (hv:(if b then s.ev x else s.ev y)=v:=by conv=>lhs;whnf):bw P N ops ⟨dst,.pick c x y,type,pos,after,guard⟩ s (cN v):=HH hc hv
theorem ex {x:Operand} {i:Nat} {vs:List PV} {v:PV} (hx:s.ev x = .tup vs:=by conv=>lhs;whnf) (hv:vs[i]? = some v:=by conv=>lhs;whnf):bw P N ops ⟨dst,.extract x i,type,pos,after,guard⟩ s (cN v):=HI hx hv
theorem nw {d:Nat} {t:TypeId} {ti:dc} (ht:bm P t=some ti) (hz:ti.zero.isEmpty=false:=by exact rfl) (ho:ti.zero.all PV.one=true:=by exact rfl) :
  bw P N ops ⟨some d,.alloc t,type,pos,after,guard⟩ s ⟨[],.ptr d (s.next d) 0,[((d,s.next d),some (.box ti.zero))],[d]⟩:=IU ht hz ho
theorem bs {d:Nat} {t e:TypeId} {len:Nat} {ps:Array (Nat×Operand)} {sz by_:Nat} {z:List PV} {ei:dc} (xs:List PV) {ps':List (Nat×PV)} {L:List (Nat×Nat)} (ht:bm P t=some ⟨.slice e,sz,by_,z⟩) (he:bm P e=some ei) (hlow:s.lowP (gy s ps.toList)=some (ps',L))
  (hz:ei.zero.isEmpty=false:=by exact rfl) (hzl:Nat.beq ei.zero.length ei.size=true:=by exact rfl) (hlen:Nat.beq xs.length len=true:=by exact rfl) (hw:xs.all (fun x=>Nat.beq x.cells.length ei.size)=true:=by exact rfl) (h24:Nat.ble (len*ei.size) 16777216=true:=by exact rfl) (ho:(bj xs).all PV.one=true:=by exact rfl)
  (hf:kD (fun i=>some (i*ei.size,ei.size)) ((List.replicate len ei.zero).flatten) ps'=some (bj xs):=by exact rfl):bw P N ops ⟨some d,.buildSlice t len ps,type,pos,after,guard⟩ s ⟨L,.own d (s.next d),[((d,s.next d),some (.arr e ei.size false xs))],[d]⟩:=Cl ht he hz hzl hlen hw h24 hlow ho hf
theorem aA {t:TypeId} {p x:Operand} {d n off:Nat} {cs:List PV} {pv:PV} {ti:dc} (cs':List PV) (ht:bm P t=some ti) (hp:s.ev p = .ptr d n off:=by conv=>lhs;whnf) (hx:s.ev x=pv:=by conv=>lhs;whnf) (hb:s.heap d n=some (.box cs):=by conv=>lhs;whnf)
  (ho:pv.cells.all PV.one=true:=by exact rfl) (hsz:pv.cells.length=ti.size:=by exact rfl) (hfit:Nat.ble (off+ti.size) cs.length=true:=by exact rfl) (hcs:jR cs off pv.cells=cs':=by exact rfl):bw P N ops ⟨none,.store t p x,type,pos,after,guard⟩ s ⟨[],.skip,[((d,n),some (.box cs'))],[]⟩:=gm hp hx hb ht ho hsz hfit hcs
theorem pZ {o:Oper} {l:List Oper} {x:Fx} (h:bw P N ops o s x) (k:AL P N ops l (s.app none x) Q) (hd:o.dst=none:=by exact rfl) (hg:dr ops o s=some true:=by exact rfl) (hN:∀z0∈o.looksAt ops,z0<N:=by decide):AL P N ops (o :: l) s Q:=rJ none hd hg h hN k
theorem cZ {d0:Nat} {fo:Operand} {xs:Array Operand} {tys:Array TypeId} {f:FuncId} {caps args:List PV} {rows':List cS} {r r':PV} (hok:Ok P f args [] [] r [] rows') (hent:aF P f) (hf:s.ev fo = .fn f caps:=by conv=>lhs;whnf)
  (hargs:ct (s.arg1 [] [] []) (xs.toList.map s.ev++caps)=some args:=by exact rfl) (hr:me [] d0 (s.next d0) r=some r':=by exact rfl):bw P N ops ⟨some d0,.call ⟨.value fo,xs,tys⟩,type,pos,after,guard⟩ s ⟨[],r',jK d0 (s.next d0) false 0 rows'++[],List.replicate (rows'.length+1) d0⟩:=Dn d0 false hok hf hent hargs hr
theorem cz {d0:Nat} {fo:Operand} {xs:Array Operand} {tys:Array TypeId} {f:FuncId} {caps args:List PV} {r:PV} (r':PV) (hok:Ok P f args [] [] r [] []) (hent:aF P f) (hf:s.ev fo = .fn f caps:=by conv=>lhs;whnf)
  (hargs:ct (s.arg1 [] [] []) (xs.toList.map s.ev++caps)=some args:=by exact rfl) (hr:me [] d0 (s.next d0) r=some r':=by exact rfl):bw P N ops ⟨some d0,.call ⟨.value fo,xs,tys⟩,type,pos,after,guard⟩ s ⟨[],r',[],[d0]⟩:=Dn d0 false hok hf hent hargs hr
def yc (s:St) (p:Nat×Nat):Option (List PV):=match s.heap p.1 p.2 with
 | some (.box cs)=>some cs
 | _=>none
def uF (s:St):Nm→Option (List (List PV))
 | []=>some []
 | p :: ps=>match yc s p,uF s ps with
  | some c,some r=>some (c :: r)
  | _,_=>none
theorem Ip {p:Nat×Nat} {c:List PV} (h:yc s p=some c):s.heap p.1 p.2=some (.box c):=by
 unfold yc at h
 split at h
 ·rename_i e
  injection h with h
  rw[e,h]
 ·cases h
theorem CZ:∀{ps:Nm} {cs:List (List PV)},uF s ps=some cs→uA s ps cs
 | [],cs,h=>by cases h;trivial
 | p :: ps,cs,h=>by
  simp only[uF]at h
  split at h
  ·rename_i c r h1 h2
   cases h
   exact⟨Ip h1,CZ h2⟩
  ·cases h
theorem C0:kF s [] []:=trivial
theorem Iq {nb i:Nat} {names:Nm}:mn s nb names i []:=trivial
theorem cG {d0:Nat} {fo:Operand} {xs:Array Operand} {tys:Array TypeId} {f:FuncId} {caps args:List PV} {bcs boxes boxes' boxes2:List (List PV)} {rows' rws:List cS} {r r':PV} (bn rn L:Nm) (hok:Ok P f args boxes rws r boxes' rows') (hent:aF P f)
  (hsafe:uB s L∨(r.plainV=true∧boxes'.all (fun cs=>cs.all PV.plain)=true∧uC rows'):=by exact .inr ⟨rfl,rfl,trivial⟩) (hf:s.ev fo = .fn f caps:=by conv=>lhs;whnf) (hbox:uF s bn=some bcs:=by exact rfl) (hrow:kF s rn rws:=by repeat (first | exact C0 | refine Ck W_ R_ ?_))
  (hargs:ct (s.arg1 bn rn L) (xs.toList.map s.ev++caps)=some args:=by exact rfl) (hbx:ct (fun cs=>ct (s.argC bn rn L) cs) bcs=some boxes:=by exact rfl) (hrb:ct (fun cs=>ct (md bn d0 (s.next d0)) cs) boxes'=some boxes2:=by exact rfl) (hr:me bn d0 (s.next d0) r=some r':=by exact rfl)
  (hnb:na bn=true:=by exact rfl) (hnr:na rn=true:=by exact rfl) (hap:uD L bn rn=true:=by exact rfl) (hbl:boxes'.length=boxes.length:=by exact rfl) :
  bw P N ops ⟨some d0,.call ⟨.value fo,xs,tys⟩,type,pos,after,guard⟩ s ⟨L,r',jK d0 (s.next d0) false 0 rows'++(iv bn boxes2++kz rn),List.replicate (rows'.length+1) d0⟩:=HR bn rn L d0 false hok hf hent (CZ hbox) hrow hnb hnr hap hargs hbx hbl hrb hr hsafe
section
variable {α:Type} {β:Type} {C:Prop}
theorem bE {x:Option α} {f:α→Option β} {r:β} (h:Option.bind x f=some r) (k:∀a,x=some a→f a=some r→C):C:=by
 obtain⟨a,h1,h2⟩:=BY h
 exact k a h1 h2
theorem gE {p:Prop} [Decidable p] {x:Option α} {r:α} (h:gd p x=some r) (k:p→x=some r→C):C:=k (BX h).1 (BX h).2
theorem tk {p:Prop} (h:p) (k:p→C):C:=k h
end
section
variable {α:Type} {b:Bool} {A B:Option α} {r:α} (t:Nat) (h:(if b=true then A else B)=some r)
include h
theorem wi {x y:Code} (h1:b=true→A=some r→AW P N x (s.put (some t) (.bool true)) Q) (h2:b=false→B=some r→AW P N y (s.put (some t) (.bool false)) Q) (hb:s.env t = .bool b:=by exact rfl) (ht:t<N:=by decide):AW P N (.cond (.tmp t) x y) s Q:=
 GS t hb (fun c=>bM ht (by simp[St.put,iT]) (h1 c (fy c h))) (fun c=>fB ht (by simp[St.put,iT]) (h2 c (fA c h)))
theorem li {l:List Oper} (h1:b=true→A=some r→AL P N ops l (s.put (some t) (.bool true)) Q) (h2:b=false→B=some r→AL P N ops l (s.put (some t) (.bool false)) Q) (hb:s.env t = .bool b:=by exact rfl):AL P N ops l s Q:=
 H4 t hb (fun c=>h1 c (fy c h)) (fun c=>h2 c (fA c h))
end
theorem rk {rs:Array ResultVar} {r r':PV} {e:Exit} {pv:PV} (hpv:s.resPV P rs.toList=some pv:=by conv=>lhs;whnf) (hr:s.retV 0 [] pv=some r':=by conv=>lhs;whnf) (he:r'=r:=by exact rfl) (hex:e = .normal∨e = .ret:=by first | exact .inr rfl | exact .inl rfl) (hlt:rs.toList.all (o6 N)=true:=by exact rfl) :
  mZ P N rs r [] [] e s:=HA hpv hr he hex hlt
theorem rB {rs:Array ResultVar} {r r':PV} {boxes':List (List PV)} {rows':List cS} {e:Exit} {pv:PV} (names:Nm) (hpv:s.resPV P rs.toList=some pv:=by conv=>lhs;whnf) (hr:s.retV boxes'.length names pv=some r':=by conv=>lhs;whnf) (he:r'=r:=by exact rfl)
  (hrow:kF s names rows':=by repeat (first | exact C0 | refine Ck W_ R_ ?_)) (hbox:mn s boxes'.length names 0 boxes':=by repeat (first | exact Iq | refine HS W_ W_ R_ ?_)) (hnd:names.Nodup:=by exact oT rfl) (hex:e = .normal∨e = .ret:=by first | exact .inr rfl | exact .inl rfl) (hlt:rs.toList.all (o6 N)=true:=by exact rfl) :
  mZ P N rs r boxes' rows' e s:=HT names hpv hr he hrow hbox hnd hex hlt
theorem bk {m:Nat} {s':St} {I:Nat→St→Prop} (hr:eH N s s') (hI:I m s'):∃k,k<m+1∧∃s'',eH N s s''∧I k s'':=⟨m,Nat.lt_succ_self _,_,hr,hI⟩
theorem oK {f:FuncId} {fn:Func} {c:Code} {args:List PV} {boxes boxes':List (List PV)} {rows rows':List cS} {r:PV} (hf:P.funcs[f]? = some fn) (hb:fn.body=some c) (h:∀X,AW P fn.ntmps c (rt args boxes rows X) (mZ P fn.ntmps fn.results r boxes' rows')) (hN:Nat.ble args.length fn.ntmps=true:=by exact rfl) (hl:Nat.ble boxes'.length boxes.length=true:=by exact rfl) :
  Ok P f args boxes rows r boxes' rows':=Hq hf hb (Nat.le_of_ble_eq_true hN) (Nat.le_of_ble_eq_true hl) h
theorem eN {f : FuncId} {fn : Func} (h : P.funcs[f]? = some fn) (h1 : (fn.name == "runtime.NumGoroutine") = false := by kernel_rfl) (h2 : fn.body.isNone = false := by exact rfl) : aF P f := ⟨fn, h, h1, h2⟩
section
variable {d:Nat} {op:Op} {l:List Oper} {v:PV} {x:Fx} {L:List (Nat×Nat)} {b:Option (Nat→Nat→Bool)} {i:Nat} {fx:List (Nat×Fx)}
theorem rP (h:bw P N ops ⟨some d,op,type,pos,after,guard⟩ s (cN v)) (k:AL P N ops l (s.put (some d) v) Q) (hg:dr ops ⟨some d,op,type,pos,after,guard⟩ s=some true:=by exact rfl) (hN:∀z0∈(⟨some d,op,type,pos,after,guard⟩:Oper).looksAt ops,z0<N:=by decide):AL P N ops (⟨some d,op,type,pos,after,guard⟩ :: l) s Q:=pP d h k rfl hg hN
theorem rD (h:bw P N ops ⟨some d,op,type,pos,after,guard⟩ s x) (k:AL P N ops l (s.app (some d) x) Q) (hg:dr ops ⟨some d,op,type,pos,after,guard⟩ s=some true:=by exact rfl) (hN:∀z0∈(⟨some d,op,type,pos,after,guard⟩:Oper).looksAt ops,z0<N:=by decide):AL P N ops (⟨some d,op,type,pos,after,guard⟩ :: l) s Q:=pD d h k rfl hg hN
theorem rX (h:bw P N ops ⟨some d,op,type,pos,after,guard⟩ s ⟨L,v,[],[]⟩) (k:AL P N ops l (s.put (some d) v) Q) (hg:dr ops ⟨some d,op,type,pos,after,guard⟩ s=some true:=by exact rfl) (hN:∀z0∈(⟨some d,op,type,pos,after,guard⟩:Oper).looksAt ops,z0<N:=by decide):AL P N ops (⟨some d,op,type,pos,after,guard⟩ :: l) s Q:=pX d h k rfl hg hN
theorem rS (k:AL P N ops l (s.put (some d) .skip) Q) (hg:dr ops ⟨some d,op,type,pos,after,guard⟩ s=some false:=by exact rfl) (hN:∀z0∈(⟨some d,op,type,pos,after,guard⟩:Oper).looksAt ops,z0<N:=by decide):AL P N ops (⟨some d,op,type,pos,after,guard⟩ :: l) s Q:=pS d k rfl hg hN
theorem tP (h:bw P N ops ⟨some d,op,type,pos,after,guard⟩ s (cN v)) (k:AO P N ops b (i+1) fx l (s.put (some d) v) Q) (hg:dr ops ⟨some d,op,type,pos,after,guard⟩ s=some true:=by exact rfl) (hN:∀z0∈(⟨some d,op,type,pos,after,guard⟩:Oper).looksAt ops,z0<N:=by decide):AO P N ops b i fx (⟨some d,op,type,pos,after,guard⟩ :: l) s Q:=qP d h k rfl hg hN
theorem tD (h:bw P N ops ⟨some d,op,type,pos,after,guard⟩ s x) (k:AO P N ops b (i+1) (fx++[(i,x)]) l (s.app (some d) x) Q) (hg:dr ops ⟨some d,op,type,pos,after,guard⟩ s=some true:=by exact rfl) (hN:∀z0∈(⟨some d,op,type,pos,after,guard⟩:Oper).looksAt ops,z0<N:=by decide):AO P N ops b i fx (⟨some d,op,type,pos,after,guard⟩ :: l) s Q:=qD d h k rfl hg hN
theorem tR (h:bw P N ops ⟨some d,op,type,pos,after,guard⟩ s ⟨L,v,[],[]⟩) (k:AO P N ops b (i+1) (fx++[(i,⟨L,v,[],[]⟩)]) l (s.put (some d) v) Q) (hg:dr ops ⟨some d,op,type,pos,after,guard⟩ s=some true:=by exact rfl) (hN:∀z0∈(⟨some d,op,type,pos,after,guard⟩:Oper).looksAt ops,z0<N:=by decide):AO P N ops b i fx (⟨some d,op,type,pos,after,guard⟩ :: l) s Q:=qR d h k rfl hg hN
theorem tS (k:AO P N ops b (i+1) fx l (s.put (some d) .skip) Q) (hg:dr ops ⟨some d,op,type,pos,after,guard⟩ s=some false:=by exact rfl) (hN:∀z0∈(⟨some d,op,type,pos,after,guard⟩:Oper).looksAt ops,z0<N:=by decide):AO P N ops b i fx (⟨some d,op,type,pos,after,guard⟩ :: l) s Q:=qS d k rfl hg hN
end
end Go.Proofs.YtjklegmimpehlaaGreat.Ab
