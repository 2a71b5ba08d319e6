import Derived.Test.YtjklegmimpehlaaGreatAbWords
import Derived.ChangeArms
import Derived.Carry
import Derived.OpenShut
namespace Go.Proofs.YtjklegmimpehlaaGreat.Ab
open Go Go.RowKit
set_option linter.unusedVariables false
set_option linter.unusedSimpArgs false
def aggT (P:Program) (e:TypeId):Bool:=match P.underlying e with
 | some (.struct _)=>true
 | some (.array _ _)=>true
 | _=>false
def PV.mk (a:Bool) (cs:List PV):PV:=if a then .agg cs else cs.headD .undef
def rj (off:Nat) (e:TypeId):Field:={ (default:Field)with type:=e,offset:=off }
def iR (P:Program) (e:TypeId):Nat→Nat→List Field
 | 0,_=>[]
 | n+1,off=>rj off e :: iR P e n (off+P.cellsOf e)
theorem xx {P:Program} {e:TypeId} {f:Field}:∀{n off:Nat},f∈iR P e n off→f.type=e∧∃i,i<n∧f.offset=off+i*P.cellsOf e
 | 0,_,h=>by simp[iR]at h
 | n+1,off,h=>by
  rcases List.mem_cons.1 h with rfl | h
  ·exact⟨rfl,0,by omega,by simp[rj]⟩
  ·obtain⟨h1,i,h2,h3⟩:=xx h
   exact⟨h1,i+1,by omega,by rw[h3,Nat.add_mul];omega⟩
theorem BT {P:Program} {e:TypeId}:∀{n off i:Nat},i<n→(iR P e n off)[i]? = some (rj (off+i*P.cellsOf e) e)
 | 0,_,i,h=>by omega
 | n+1,off,0,h=>by simp[iR]
 | n+1,off,i+1,h=>by
  rw[iR,List.getElem?_cons_succ,BT (by omega:i<n),show off+P.cellsOf e+i*P.cellsOf e=off+(i+1)*P.cellsOf e by rw[Nat.add_mul];omega]
def bL (P:Program):Nat→TypeId→List PV→Prop
 | 0,_,_=>False
 | n+1,t,cs=>match P.underlying t with
  | some .bool=>∃b,cs=[.bool b]
  | some (.int k)=>∃n,cs=[.int k n]∧(Lit.int k n).wf=true
  | some .string=>∃s,cs=[.str s]∧s.size≤maxLen
  | some (.slice e)=>∃xs,cs=[.sl (P.cellsOf e) xs]∧xs.length≤maxLen∧∀x∈xs,∃ps,x=PV.mk (aggT P e) ps∧bL P n e ps
  | some (.struct fs)=>cs.length=P.cellsOf t∧∀f∈fs.toList,bL P n f.type ((cs.drop f.offset).take (P.cellsOf f.type))
  | some (.array len e)=>cs.length=P.cellsOf t∧∀f∈iR P e len 0,bL P n f.type ((cs.drop f.offset).take (P.cellsOf f.type))
  | _=>False
def ky (P:Program):Nat→List Field→Nat→Bool
 | off,[],total=>Nat.beq off total
 | off,f :: fs,total=>Nat.beq f.offset off&&ky P (off+P.cellsOf f.type) fs total
theorem xy {P:Program} {e:TypeId} {total:Nat}:∀(n off:Nat),off+n*P.cellsOf e=total→ky P off (iR P e n off) total=true
 | 0,off,h=>by simp only[iR,ky];rw[show off=total by omega];exact Nat.beq_refl _
 | n+1,off,h=>by
  simp only[iR,ky,rj,Bool.and_eq_true]
  exact⟨Nat.beq_refl _,xy n _ (by rw[Nat.add_mul]at h;omega)⟩
def closedT (P:Program) (S:List TypeId):Bool:=S.all fun t=>match P.underlying t with
 | some .bool | some (.int _) | some .string=>Nat.beq (P.cellsOf t) 1
 | some (.slice e)=>S.contains e&&Nat.blt 0 (P.cellsOf e)&&Nat.beq (P.cellsOf t) 1
 | some (.struct fs)=>fs.toList.all (fun f=>S.contains f.type)&&ky P 0 fs.toList (P.cellsOf t)
 | some (.array len e)=>S.contains e&&Nat.beq (len*P.cellsOf e) (P.cellsOf t)
 | _=>false
def oL (w:World) (ps:List PV) (cs:List Value):Prop:=ps.length=cs.length∧(∀c∈ps,c.one=true)∧∀(i:Nat) (c:PV) (v:Value),ps[i]? = some c→cs[i]? = some v→aG w (fun _=>False) dg c v
theorem xz {α:Type} {Q:Nat→α→Prop}:∀(n:Nat),(∀i,i<n→∃x,Q i x)→∃l:List α,l.length=n∧∀(i:Nat) (x:α),l[i]? = some x→Q i x
 | 0,_=>⟨[],rfl,fun i x h=>by simp at h⟩
 | n+1,h=>by
  obtain⟨l,h1,h2⟩:=xz n fun i hi=>h i (by omega)
  obtain⟨x,hx⟩:=h n (by omega)
  refine⟨l++[x],by simp[h1],fun i y hy=>?_⟩
  by_cases hi:i<l.length
  ·rw[List.getElem?_append_left hi]at hy;exact h2 i y hy
  ·rw[List.getElem?_append_right (by omega)]at hy
   have:i=n:=by
    have:=(List.getElem?_eq_some_iff.1 hy).1
    simp at this
    omega
   subst this
   rw[h1]at hy
   simp at hy
   exact hy ▸ hx
theorem xA {sz:Nat} (hp:0<sz):∀{xs:List PV},(∀x∈xs,x.cells.length=sz)→∀{k:Nat} {c:PV},(bj xs)[k]? = some c→∃x,xs[k / sz]? = some x∧x.cells[k % sz]? = some c
 | [],_,k,c,h=>by simp[bj]at h
 | y :: ys,hw,k,c,h=>by
  have h1:=hw y List.mem_cons_self
  simp only[bj,List.flatMap_cons]at h
  by_cases hk:k<sz
  ·rw[List.getElem?_append_left (by omega)]at h
   exact⟨y,by rw[Nat.div_eq_of_lt hk];rfl,by rw[Nat.mod_eq_of_lt hk];exact h⟩
  ·rw[List.getElem?_append_right (by omega),h1]at h
   obtain⟨x,h2,h3⟩:=xA hp (xs:=ys) (fun z hz=>hw z (List.mem_cons_of_mem _ hz)) h
   refine⟨x,?_,?_⟩
   ·rw[show k / sz=(k-sz) / sz+1 by rw[← Nat.add_div_right _ hp];congr 1;omega];simpa using h2
   ·rw[show k % sz=(k-sz) % sz by rw[← Nat.add_mod_right (k-sz)];congr 1;omega];exact h3
theorem BU {a:Bool} {ps:List PV} (ho:∀c∈ps,c.one=true) (hl:a=false→ps.length=1):(PV.mk a ps).cells=ps:=by
 unfold PV.mk
 cases a with
 | true=>rfl
 | false=>
  match ps,hl rfl with
  | [c],_=>
   have:=ho c List.mem_cons_self
   cases c<;>first | rfl | simp[PV.one]at this
section
variable {H:Type} {enc:TypeId×Value→H} {P:Program} {w:World} {sp:Nat→Bool} {held:Bool} {S:List TypeId}
theorem xB (hS:closedT P S=true) {t:TypeId} (ht:t∈S):(match P.underlying t with
 | some .bool | some (.int _) | some .string=>Nat.beq (P.cellsOf t) 1
 | some (.slice e)=>S.contains e&&Nat.blt 0 (P.cellsOf e)&&Nat.beq (P.cellsOf t) 1
 | some (.struct fs)=>fs.toList.all (fun f=>S.contains f.type)&&ky P 0 fs.toList (P.cellsOf t)
 | some (.array len e)=>S.contains e&&Nat.beq (len*P.cellsOf e) (P.cellsOf t)
 | _=>false)=true:=by
 unfold closedT at hS
 rw[List.all_eq_true]at hS
 exact hS t ht
theorem uf (hS:closedT P S=true) {t:TypeId} (ht:t∈S) (ha:aggT P t=false):P.cellsOf t=1:=by
 have h:=xB hS ht
 unfold aggT at ha
 split at h<;>simp_all
theorem xC {n:Nat} {cs:List Value} {total:Nat} (hcs:cs.length=total):∀(fs:List Field) (off:Nat),ky P off fs total=true→off≤total →
  (∀f∈fs,∃p,bL P n f.type p∧p.length=P.cellsOf f.type∧oL w p ((cs.drop f.offset).take (P.cellsOf f.type))) →
  ∃ps,oL w ps (cs.drop off)∧∀f∈fs,off≤f.offset∧bL P n f.type ((ps.drop (f.offset-off)).take (P.cellsOf f.type))
 | [],off,ht,_,_=>by
  have:off=total:=Nat.eq_of_beq_eq_true ht
  refine⟨[],⟨by simp;omega,by simp,fun i c v h=>by simp at h⟩,by simp⟩
 | f :: fs,off,ht,hle,h=>by
  simp only[ky,Bool.and_eq_true]at ht
  have hoff:f.offset=off:=Nat.eq_of_beq_eq_true ht.1
  obtain⟨p,h1,h2,h3⟩:=h f List.mem_cons_self
  have hfit:off+P.cellsOf f.type≤total:=by
   have:=h3.1
   rw[h2,hoff,List.length_take,List.length_drop]at this
   omega
  obtain⟨ps,h4,h5⟩:=xC hcs fs (off+P.cellsOf f.type) ht.2 hfit fun g hg=>h g (List.mem_cons_of_mem _ hg)
  refine⟨p++ps,⟨?_,?_,?_⟩,?_⟩
  ·have:=h4.1;simp only[List.length_append,List.length_drop]at this ⊢;omega
  ·intro c hc
   rcases List.mem_append.1 hc with hc | hc
   ·exact h3.2.1 c hc
   ·exact h4.2.1 c hc
  ·intro i c v hc hv
   by_cases hi:i<p.length
   ·rw[List.getElem?_append_left hi]at hc
    refine h3.2.2 i c v hc ?_
    rw[List.getElem?_take,if_pos (by omega),hoff];exact hv
   ·rw[List.getElem?_append_right (by omega)]at hc
    refine h4.2.2 _ c v hc ?_
    rw[List.getElem?_drop]at hv ⊢
    rw[← hv];congr 1;omega
  ·intro g hg
   rcases List.mem_cons.1 hg with rfl | hg
   ·refine⟨by omega,?_⟩
    rw[hoff,Nat.sub_self,List.drop_zero,List.take_append_of_le_length (by omega),List.take_of_length_le (by omega)];exact h1
   ·obtain⟨h6,h7⟩:=h5 g hg
    refine⟨by omega,?_⟩
    rw[List.drop_append,List.drop_of_length_le (by omega),List.nil_append,show g.offset-off-p.length=g.offset-(off+P.cellsOf f.type) by omega];exact h7
theorem ug (hS:closedT P S=true):∀(n:Nat) (t:TypeId) (cs:List Value) (x:DataW H×List MemPlace),t∈S→DataW.trod enc P w 0 sp held n t cs=some x→∃ps,bL P n t ps∧ps.length=P.cellsOf t∧oL w ps cs
 | 0,t,cs,x,_,h=>by simp[DataW.trod]at h
 | n+1,t,cs,x,ht,h=>by
  have hc:=xB hS ht
  cases hu:P.underlying t with
  | none=>rw[hu]at hc;simp at hc
  | some d=>
   rw[hu]at hc
   cases d with
   | bool=>
    obtain⟨b,rfl,_⟩:=DataW.trod_bool hu h
    exact⟨[.bool b],by simp[bL,hu],by rw[Nat.eq_of_beq_eq_true hc];rfl,rfl,by simp[PV.one],fun i c v h1 h2=>by cases i<;>simp at h1 h2;subst h1 h2;exact .bool _ _⟩
   | int k=>
    obtain⟨z,rfl,_,hw⟩:=DataW.trod_int hu h
    exact⟨[.int k z],by simp[bL,hu,hw],by rw[Nat.eq_of_beq_eq_true hc];rfl,rfl,by simp[PV.one],fun i c v h1 h2=>by cases i<;>simp at h1 h2;subst h1 h2;exact .int _ _ _⟩
   | string=>
    obtain⟨z,rfl,_,hw⟩:=DataW.trod_string hu h
    exact⟨[.str z],by simp[bL,hu,hw],by rw[Nat.eq_of_beq_eq_true hc];rfl,rfl,by simp[PV.one],fun i c v h1 h2=>by cases i<;>simp at h1 h2;subst h1 h2;exact .str _ _⟩
   | struct fs=>
    simp only[Bool.and_eq_true,List.all_eq_true]at hc
    obtain⟨xs,m,hm,_,hl,hxl,hf⟩:=DataW.trod_struct hu h
    obtain rfl:m=n:=by omega
    obtain⟨ps,h1,h2⟩:=xC (n:=m) (w:=w) hl fs.toList 0 hc.2 (Nat.zero_le _) (fun f hfm=>by
     obtain⟨i,hi⟩:=List.getElem?_of_mem hfm
     rw[Array.getElem?_toList]at hi
     have hi':i<xs.length:=by rw[hxl];exact(Array.getElem?_eq_some_iff.1 hi).1
     have:=hf i f hi
     rw[List.getElem?_eq_getElem hi']at this
     obtain⟨p,k1,k2,k3⟩:=ug hS m f.type _ _ (by have:=hc.1 f hfm;simpa using this) this
     exact⟨p,k1,k2,k3⟩)
    rw[List.drop_zero]at h1
    have hl':ps.length=P.cellsOf t:=h1.1.trans hl
    refine⟨ps,?_,hl',h1⟩
    simp only[bL,hu]
    exact⟨hl',fun f hfm=>by have:=(h2 f hfm).2;rwa [Nat.sub_zero]at this⟩
   | array len e=>
    simp only[Bool.and_eq_true]at hc
    obtain⟨xs,m,hm,_,hl,hxl,hf⟩:=DataW.trod_array hu h
    obtain rfl:m=n:=by omega
    have hlen:len*P.cellsOf e=P.cellsOf t:=Nat.eq_of_beq_eq_true hc.2
    obtain⟨ps,h1,h2⟩:=xC (n:=m) (w:=w) hl (iR P e len 0) 0 (xy len 0 (by omega)) (Nat.zero_le _) (fun f hfm=>by
     obtain⟨q1,i,q2,q3⟩:=xx hfm
     have hi':i<xs.length:=by omega
     have:=hf i q2
     rw[List.getElem?_eq_getElem hi']at this
     obtain⟨p,k1,k2,k3⟩:=ug hS m e _ _ (by simpa using hc.1) this
     rw[Nat.zero_add]at q3
     rw[q1,q3]
     exact⟨p,k1,k2,k3⟩)
    rw[List.drop_zero]at h1
    have hl':ps.length=P.cellsOf t:=h1.1.trans hl
    refine⟨ps,?_,hl',h1⟩
    simp only[bL,hu]
    exact⟨hl',fun f hfm=>by have:=(h2 f hfm).2;rwa [Nat.sub_zero]at this⟩
   | slice e=>
    simp only[Bool.and_eq_true,Nat.blt_eq]at hc
    have he:e∈S:=by have:=hc.1.1;simpa using this
    rcases DataW.trod_slice hu h with ⟨rfl,_⟩ | ⟨a,len,cap,elems,rest,m,hm,rfl,_,_,hle,hcap,hlen,hel,_⟩
    ·refine⟨[.sl (P.cellsOf e) []],?_,by rw[Nat.eq_of_beq_eq_true hc.2];rfl,rfl,by simp[PV.one],fun i c v h1 h2=>by cases i<;>simp at h1 h2;subst h1 h2;exact .sl0 _ _ _⟩
     simp only[bL,hu]
     exact⟨[],rfl,Nat.zero_le _,by simp⟩
    ·obtain rfl:m=n:=by omega
     obtain⟨l,hll,hlq⟩:=xz (Q:=fun i (ps:List PV)=>bL P m e ps∧ps.length=P.cellsOf e∧(∀c∈ps,c.one=true)∧∀(j:Nat) (c:PV),ps[j]? = some c→∃v,w.cell? (a.add (i*P.cellsOf e+j))=some v∧aG w (fun _=>False) dg c v) len fun i hi=>by
      have h1:=hel i hi
      rw[List.getElem?_eq_getElem (by omega),Option.bind_eq_some_iff]at h1
      obtain⟨cs',h2,h3⟩:=h1
      obtain⟨ps,k1,k2,k3,k4,k5⟩:=ug hS m e cs' _ he h3
      obtain⟨_,q1,q2⟩:=World.cells?_some h2
      refine⟨ps,k1,k2,k4,fun j c hj=>?_⟩
      have hjl:j<cs'.length:=by rw[← k3];exact(List.getElem?_eq_some_iff.1 hj).1
      refine⟨cs'[j],?_,k5 j c _ hj (List.getElem?_eq_getElem hjl)⟩
      rw[← rz,q2 j (by omega)];exact List.getElem?_eq_getElem hjl
     let xs:=l.map (PV.mk (aggT P e))
     have hxl:xs.length=len:=by simp[xs,hll]
     have hcell:∀ps∈l,(PV.mk (aggT P e) ps).cells=ps:=by
      intro ps hps
      obtain⟨i,hi⟩:=List.getElem?_of_mem hps
      obtain⟨q1,q2,q3,_⟩:=hlq i ps hi
      exact BU q3 fun ha=>by rw[q2,uf hS he ha]
     have hw:∀x∈xs,x.cells.length=P.cellsOf e:=by
      intro x hx
      obtain⟨ps,hps,rfl⟩:=List.mem_map.1 hx
      rw[hcell ps hps]
      obtain⟨i,hi⟩:=List.getElem?_of_mem hps
      exact(hlq i ps hi).2.1
     have hfl:∀(k:Nat) (c:PV),(bj xs)[k]? = some c→∃v,w.cell? (a.add k)=some v∧aG w (fun _=>False) dg c v∧c.one=true:=by
      intro k c hk
      obtain⟨x,h1,h2⟩:=xA hc.1.2 hw hk
      simp only[xs,List.getElem?_map,Option.map_eq_some_iff]at h1
      obtain⟨ps,h3,rfl⟩:=h1
      rw[hcell ps (List.mem_of_getElem? h3)]at h2
      obtain⟨_,_,q3,q4⟩:=hlq _ ps h3
      obtain⟨v,q5,q6⟩:=q4 _ c h2
      rw[Nat.mul_comm,Nat.div_add_mod]at q5
      exact⟨v,q5,q6,q3 c (List.mem_of_getElem? h2)⟩
     refine⟨[.sl (P.cellsOf e) xs],?_,by rw[Nat.eq_of_beq_eq_true hc.2];rfl,rfl,by simp[PV.one],fun i c v h1 h2=>?_⟩
     ·simp only[bL,hu]
      refine⟨xs,rfl,by omega,fun x hx=>?_⟩
      obtain⟨ps,hps,rfl⟩:=List.mem_map.1 hx
      obtain⟨i,hi⟩:=List.getElem?_of_mem hps
      exact⟨ps,rfl,(hlq i ps hi).1⟩
     ·cases i<;>simp at h1 h2
      subst h1 h2
      rw[← hxl]
      refine .sl _ _ _ _ _ (fun k=>(w.cell? (a.add k)).getD Go.undef) hc.1.2 hw (fun c hc'=>?_) (by omega) (fun _ h=>h) (fun k c hk=>?_) (fun k c hk=>?_)
      ·obtain⟨k,hk⟩:=List.getElem?_of_mem hc'
       obtain⟨_,_,_,h⟩:=hfl k c hk
       exact h
      ·obtain⟨v,h1,_⟩:=hfl k c hk
       rw[h1];rfl
      ·obtain⟨v,h1,h2,_⟩:=hfl k c hk
       rw[h1];exact h2
   | _=>simp at hc
theorem GU (hS:closedT P S=true) {t:TypeId} {v:Value} {d:DataW H} {ps:List MemPlace} (ht:t∈S) (h:DataW.Trod enc P w 0 sp held t v d ps) (hv:aggT P t=false→v.cells = #[v]) (hv':aggT P t=true→∃cs,v = .agg cs) :
  ∃n cs,bL P n t cs∧aG w (fun _=>False) dg (PV.mk (aggT P t) cs) v:=by
 obtain⟨n,h⟩:=h
 obtain⟨cs,h1,h2,h3,h4,h5⟩:=ug hS n t _ _ ht h
 refine⟨n,cs,h1,?_⟩
 cases ha:aggT P t with
 | true=>
  obtain⟨us,rfl⟩:=hv' ha
  exact .agg _ _ _ (by simpa [Value.cells] using h3) fun i c v hc hv=>h5 i c v hc (by simpa [Value.cells] using hv)
 | false=>
  have hl:=uf hS ht ha
  match cs,h2.trans hl with
  | [c],_=>exact h5 0 c v rfl (by rw[hv ha];rfl)
end
theorem xD {P:Program} {w:World} {r:Reach} {base:Nat} {t:TypeId} {v:Value} (h:Value.okWide P w r base t v):(aggT P t=false→v.cells = #[v])∧(aggT P t=true→∃cs,v = .agg cs):=by
 unfold Value.okWide at h
 unfold aggT
 cases hu:P.underlying t with
 | none=>
  rw[hu]at h
  refine⟨fun _=>?_,fun h=>by cases h⟩
  cases v<;>first | rfl | (simp[Cell.okWide,Cell.ok,hu]at h)
 | some d=>
  rw[hu]at h
  cases d<;>first
   | (obtain⟨cs,rfl,_⟩:=h;exact⟨fun h=>(by cases h),fun _=>⟨_,rfl⟩⟩)
   | (refine⟨fun _=>?_,fun h=>by cases h⟩;cases v<;>first | rfl | (simp[Cell.okWide,Cell.ok,hu]at h))
theorem arg_open {H:Type} {enc:TypeId×Value→H} {P:Program} {w:World} {sp:Nat→Bool} {held:Bool} {S:List TypeId} (hS:closedT P S=true) {t:TypeId} {v:Value} {d:DataW H} {ps:List MemPlace} {r:Reach} {base:Nat} (ht:S.contains t=true)
  (hval:Value.okWide P w r base t v) (h:DataW.Trod enc P w 0 sp held t v d ps):∃n cs,bL P n t cs∧aG w (fun _=>False) dg (PV.mk (aggT P t) cs) v:=
 GU hS (by simpa using ht) h (xD hval).1 (xD hval).2
theorem GV {P:Program} {f:FuncId} {args:List PV} (h:Ok P f args [] [] (.bool true) [] []) {w:World} {vals:List Value} (hl:vals.length=args.length) (hr:∀(i:Nat) (pv:PV) (v:Value),args[i]? = some pv→vals[i]? = some v→aG w (fun _=>False) dg pv v) :
  Calls P f vals.toArray w fun e w'=>e = .returned (.bool true)∧Below w.heap.size w w':=by
 have hm:∀g,¬aT (bV [] [] 1 ⟨fun _=>False,fun _=>none⟩) dg g:=by
  rintro g (h | ⟨d,n,o,v,h1,_,h3,_⟩)
  ·exact h
  ·cases h3
 refine(h w ⟨fun _=>False,fun _=>none⟩ dg vals ⟨fun d n o ho=>?_,fun d n d' n' o o' v v' g h1 h2 h3=>(by cases h3),fun d n _=>rfl,fun d n o v g h1 h2=>(by cases h2),fun g hg=>hg.elim⟩ hl (fun i pv v hp hv=>?_)).mono ?_
 ·simp[bV]at ho
 ·exact(hr i pv v hp hv).mono (fun _ _ _=>rfl) (fun b _ hb=>absurd hb (hm b)) (fun _ _ _ h=>h)
 ·rintro e w' ⟨v,J',rfl,_,_,hrep,hfr⟩
  cases hrep
  refine⟨rfl,hfr.os,hfr.tape,hfr.output,hfr.size,fun k hk=>hfr.block k hk fun hb=>?_⟩
  exact hm k (.inr hb)
def RA (w:World):List PV→List Value→Prop
 | [],[]=>True
 | p :: ps,v :: vs=>aG w (fun _=>False) dg p v∧RA w ps vs
 | _,_=>False
theorem xE {w:World}:∀{ps:List PV} {vs:List Value},RA w ps vs→vs.length=ps.length∧∀(i:Nat) (pv:PV) (v:Value),ps[i]? = some pv→vs[i]? = some v→aG w (fun _=>False) dg pv v
 | [],[],_=>⟨rfl,fun i p v h=>by simp at h⟩
 | p :: ps,[],h=>h.elim
 | [],v :: vs,h=>h.elim
 | p :: ps,v :: vs,h=>by
  obtain⟨h1,h2⟩:=xE h.2
  refine⟨by simp[h1],fun i q u hq hu=>?_⟩
  cases i with
  | zero=>simp at hq hu;subst hq hu;exact h.1
  | succ i=>exact h2 i q u (by simpa using hq) (by simpa using hu)
theorem law_calls {P:Program} {f:FuncId} {args:List PV} (h:Ok P f args [] [] (.bool true) [] []) {w:World} {vals:List Value} (hr:RA w args vals) :
  Calls P f vals.toArray w fun e w'=>e = .returned (.bool true)∧Below w.heap.size w w':=GV h (xE hr).1 (xE hr).2
theorem GW {P:Program} {n:Nat} {t e:TypeId} {cs:List PV} (h:bL P n t cs) (ht:P.underlying t=some (.slice e)) (he:P.underlying e=some (.int .u8)) (hc:P.cellsOf e=1):∃b:List UInt8,cs=[.sl 1 (rE b)]∧b.length≤maxLen:=by
 cases n with
 | zero=>exact h.elim
 | succ n=>
  simp only[bL,ht]at h
  obtain⟨xs,rfl,hm,hx⟩:=h
  rw[hc]
  have hag:aggT P e=false:=by simp[aggT,he]
  have:∃b:List UInt8,xs=rE b:=by
   clear hm
   induction xs with
   | nil=>exact⟨[],rfl⟩
   | cons x xs ih=>
    obtain⟨b,rfl⟩:=ih fun y hy=>hx y (List.mem_cons_of_mem _ hy)
    obtain⟨ps,rfl,hs⟩:=hx x List.mem_cons_self
    cases n with
    | zero=>exact hs.elim
    | succ n=>
     simp only[bL,he]at hs
     obtain⟨z,rfl,hz⟩:=hs
     refine⟨UInt8.ofNat z.toNat :: b,?_⟩
     have hz':0≤z∧z≤255:=by
      simpa [Lit.wf,IntKind.min,IntKind.max,IntKind.signed,IntKind.bits] using hz
     simp only[rE,List.map_cons,hag,PV.mk,List.headD,Bool.false_eq_true,if_false]
     congr 2
     have:(UInt8.ofNat z.toNat).toNat=z.toNat:=by
      simp;omega
     rw[this];omega
  obtain⟨b,rfl⟩:=this
  exact⟨b,rfl,by rwa [HE]at hm⟩
theorem GX {P:Program} {n:Nat} {t:TypeId} {k:IntKind} {cs:List PV} (h:bL P n t cs) (ht:P.underlying t=some (.int k)):∃z,cs=[.int k z]∧(Lit.int k z).wf=true:=by
 cases n with
 | zero=>exact h.elim
 | succ n=>simpa only[bL,ht] using h
theorem GY {P:Program} {n len c:Nat} {t e:TypeId} {cs:List PV} (h:bL P n t cs) (ht:P.underlying t=some (.array len e)) (hc:P.cellsOf e=c) :
  cs.length=P.cellsOf t∧∃m,∀i,i<len→bL P m e ((cs.drop (i*c)).take c):=by
 cases n with
 | zero=>exact h.elim
 | succ n=>
  simp only[bL,ht]at h
  refine⟨h.1,n,fun i hi=>?_⟩
  have:=h.2 _ (List.mem_of_getElem? (BT (P:=P) (e:=e) (off:=0) hi))
  simp only[rj,Nat.zero_add,hc]at this
  exact this
theorem GZ {P:Program} {n:Nat} {t:TypeId} {cs:List PV} (h:bL P n t cs) (ht:P.underlying t=some .bool):∃b,cs=[.bool b]:=by
 cases n with
 | zero=>exact h.elim
 | succ n=>simpa only[bL,ht] using h
theorem G0 {P:Program} {n:Nat} {t:TypeId} {cs:List PV} (h:bL P n t cs) (ht:P.underlying t=some .string):∃s,cs=[.str s]∧s.size≤maxLen:=by
 cases n with
 | zero=>exact h.elim
 | succ n=>simpa only[bL,ht] using h
end Go.Proofs.YtjklegmimpehlaaGreat.Ab
