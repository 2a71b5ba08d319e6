import Derived.Test.YtjklegmimpehlaaGreatAbArg
namespace Go.Proofs.YtjklegmimpehlaaGreat.Ab
open Go Go.RowKit
set_option linter.unusedVariables false
set_option linter.unusedSimpArgs false
def lp:List Nat→Nat
 | []=>0
 | x :: l=>x+lp l
def oM:List Nat→Nat
 | []=>0
 | x :: l=>max x (oM l)
theorem G1 {l:List Nat} {b:Nat} (h:∀v∈l,v≤b):oM l≤b:=by
 induction l with
 | nil=>exact Nat.zero_le _
 | cons x l ih=>
  have h1:=h x List.mem_cons_self
  have h2:=ih fun v hv=>h v (List.mem_cons_of_mem _ hv)
  simp only[oM];omega
theorem BV {l:List Nat} {v:Nat} (h:v∈l):v≤oM l:=by
 induction l with
 | nil=>cases h
 | cons x l ih=>
  simp only[oM]
  rcases List.mem_cons.1 h with rfl | h
  ·omega
  ·have:=ih h;omega
mutual
def dB {H:Type}:DataW H→Nat
 | .lit _=>0
 | .nil=>0
 | .ptr _=>0
 | .slice elems _=>elems.length+dBAll elems
 | .agg parts=>dBAll parts
 | .iface _ _=>0
 | .map _=>0
 | .held _=>0
def dBAll {H:Type}:List (DataW H)→Nat
 | []=>0
 | d :: r=>dB d+dBAll r
end
theorem G2 {H:Type} {d:DataW H} {l:List (DataW H)} (h:d∈l):dB d≤dBAll l:=by
 induction l with
 | nil=>cases h
 | cons x r ih=>
  simp only[dBAll]
  rcases List.mem_cons.1 h with rfl | e
  ·omega
  ·have:=ih e;omega
def bulkS (P:Program):Nat→TypeId→List PV→Nat
 | 0,_,_=>0
 | n+1,t,cs=>match P.underlying t with
  | some (.slice e)=>(match cs with | [.sl _ xs]=>xs.length+lp (xs.map fun x=>bulkS P n e x.cells) | _=>0)
  | some (.struct fs)=>oM (fs.toList.map fun f=>bulkS P n f.type ((cs.drop f.offset).take (P.cellsOf f.type)))
  | _=>0
theorem BW {H:Type} {f:List PV→Nat}:∀(l:List (List PV)) (E:List (DataW H)),l.length=E.length→(∀(i:Nat) ps,l[i]? = some ps→∃d,E[i]? = some d∧f ps≤dB d)→lp (l.map f)≤dBAll E
 | [],_,_,_=>Nat.zero_le _
 | p :: l,[],h,_=>by simp at h
 | p :: l,d :: E,h,hq=>by
  have h1:=BW (f:=f) l E (by simpa using h) fun i ps hi=>by
   have:=hq (i+1) ps (by simpa using hi)
   simpa using this
  obtain⟨d',q1,q2⟩:=hq 0 p rfl
  simp at q1
  subst q1
  simp only[List.map_cons,lp,dBAll];omega
section
variable {H:Type} {enc:TypeId×Value→H} {P:Program} {w:World} {sp:Nat→Bool} {held:Bool} {S:List TypeId}
theorem xF {Q:Field→List PV→Prop} {cs:List Value} {total:Nat} (hcs:cs.length=total):∀(fs:List Field) (off:Nat),ky P off fs total=true→off≤total →
  (∀f∈fs,∃p,Q f p∧p.length=P.cellsOf f.type∧oL w p ((cs.drop f.offset).take (P.cellsOf f.type))) →
  ∃ps,oL w ps (cs.drop off)∧∀f∈fs,off≤f.offset∧Q f ((ps.drop (f.offset-off)).take (P.cellsOf f.type))
 | [],off,ht,_,_=>by
  have:off=total:=Nat.eq_of_beq_eq_true ht
  refine⟨[],⟨by simp;omega,by simp,fun i c v h=>by simp at h⟩,by simp⟩
 | f :: fs,off,ht,hle,h=>by
  simp only[ky,Bool.and_eq_true]at ht
  have hoff:f.offset=off:=Nat.eq_of_beq_eq_true ht.1
  obtain⟨p,h1,h2,h3⟩:=h f List.mem_cons_self
  have hfit:off+P.cellsOf f.type≤total:=by
   have:=h3.1
   rw[h2,hoff,List.length_take,List.length_drop]at this
   omega
  obtain⟨ps,h4,h5⟩:=xF hcs fs (off+P.cellsOf f.type) ht.2 hfit fun g hg=>h g (List.mem_cons_of_mem _ hg)
  refine⟨p++ps,⟨?_,?_,?_⟩,?_⟩
  ·have:=h4.1;simp only[List.length_append,List.length_drop]at this ⊢;omega
  ·intro c hc
   rcases List.mem_append.1 hc with hc | hc
   ·exact h3.2.1 c hc
   ·exact h4.2.1 c hc
  ·intro i c v hc hv
   by_cases hi:i<p.length
   ·rw[List.getElem?_append_left hi]at hc
    refine h3.2.2 i c v hc ?_
    rw[List.getElem?_take,if_pos (by omega),hoff];exact hv
   ·rw[List.getElem?_append_right (by omega)]at hc
    refine h4.2.2 _ c v hc ?_
    rw[List.getElem?_drop]at hv ⊢
    rw[← hv];congr 1;omega
  ·intro g hg
   rcases List.mem_cons.1 hg with rfl | hg
   ·refine⟨by omega,?_⟩
    rw[hoff,Nat.sub_self,List.drop_zero,List.take_append_of_le_length (by omega),List.take_of_length_le (by omega)];exact h1
   ·obtain⟨h6,h7⟩:=h5 g hg
    refine⟨by omega,?_⟩
    rw[List.drop_append,List.drop_of_length_le (by omega),List.nil_append,show g.offset-off-p.length=g.offset-(off+P.cellsOf f.type) by omega];exact h7
theorem uh (hS:closedT P S=true):∀(n:Nat) (t:TypeId) (cs:List Value) (x:DataW H×List MemPlace),t∈S→DataW.trod enc P w 0 sp held n t cs=some x→∃ps,(bL P n t ps∧bulkS P n t ps≤dB x.1)∧ps.length=P.cellsOf t∧oL w ps cs
 | 0,t,cs,x,_,h=>by simp[DataW.trod]at h
 | n+1,t,cs,x,ht,h=>by
  have hc:=xB hS ht
  cases hu:P.underlying t with
  | none=>rw[hu]at hc;simp at hc
  | some d=>
   rw[hu]at hc
   cases d with
   | bool=>
    obtain⟨b,rfl,_⟩:=DataW.trod_bool hu h
    exact⟨[.bool b],⟨by simp[bL,hu],by simp[bulkS,hu]⟩,by rw[Nat.eq_of_beq_eq_true hc];rfl,rfl,by simp[PV.one],fun i c v h1 h2=>by cases i<;>simp at h1 h2;subst h1 h2;exact .bool _ _⟩
   | int k=>
    obtain⟨z,rfl,_,hw⟩:=DataW.trod_int hu h
    exact⟨[.int k z],⟨by simp[bL,hu,hw],by simp[bulkS,hu]⟩,by rw[Nat.eq_of_beq_eq_true hc];rfl,rfl,by simp[PV.one],fun i c v h1 h2=>by cases i<;>simp at h1 h2;subst h1 h2;exact .int _ _ _⟩
   | string=>
    obtain⟨z,rfl,_,hw⟩:=DataW.trod_string hu h
    exact⟨[.str z],⟨by simp[bL,hu,hw],by simp[bulkS,hu]⟩,by rw[Nat.eq_of_beq_eq_true hc];rfl,rfl,by simp[PV.one],fun i c v h1 h2=>by cases i<;>simp at h1 h2;subst h1 h2;exact .str _ _⟩
   | struct fs=>
    simp only[Bool.and_eq_true,List.all_eq_true]at hc
    obtain⟨xs,m,hm,hx0,hl,hxl,hf⟩:=DataW.trod_struct hu h
    obtain rfl:m=n:=by omega
    obtain⟨ps,h1,h2⟩:=xF (Q:=fun f p=>bL P m f.type p∧∃d∈xs.map (·.1),bulkS P m f.type p≤dB d) (w:=w) hl fs.toList 0 hc.2 (Nat.zero_le _) (fun f hfm=>by
     obtain⟨i,hi⟩:=List.getElem?_of_mem hfm
     rw[Array.getElem?_toList]at hi
     have hi':i<xs.length:=by rw[hxl];exact(Array.getElem?_eq_some_iff.1 hi).1
     have:=hf i f hi
     rw[List.getElem?_eq_getElem hi']at this
     obtain⟨p,⟨k1,k4⟩,k2,k3⟩:=uh hS m f.type _ _ (by have:=hc.1 f hfm;simpa using this) this
     exact⟨p,⟨k1,_,List.mem_map.2 ⟨_,List.getElem_mem hi',rfl⟩,k4⟩,k2,k3⟩)
    rw[List.drop_zero]at h1
    have hl':ps.length=P.cellsOf t:=h1.1.trans hl
    refine⟨ps,⟨?_,?_⟩,hl',h1⟩
    ·simp only[bL,hu]
     exact⟨hl',fun f hfm=>by have:=(h2 f hfm).2.1;rwa [Nat.sub_zero]at this⟩
    ·simp only[bulkS,hu,hx0,dB]
     refine G1 fun v hv=>?_
     obtain⟨f,hfm,rfl⟩:=List.mem_map.1 hv
     obtain⟨d,hd,hle⟩:=(h2 f hfm).2.2
     rw[Nat.sub_zero]at hle
     exact Nat.le_trans hle (G2 hd)
   | array len e=>
    simp only[Bool.and_eq_true]at hc
    obtain⟨xs,m,hm,_,hl,hxl,hf⟩:=DataW.trod_array hu h
    obtain rfl:m=n:=by omega
    have hlen:len*P.cellsOf e=P.cellsOf t:=Nat.eq_of_beq_eq_true hc.2
    obtain⟨ps,h1,h2⟩:=xF (Q:=fun f p=>bL P m f.type p) (w:=w) hl (iR P e len 0) 0 (xy len 0 (by omega)) (Nat.zero_le _) (fun f hfm=>by
     obtain⟨q1,i,q2,q3⟩:=xx hfm
     have hi':i<xs.length:=by omega
     have:=hf i q2
     rw[List.getElem?_eq_getElem hi']at this
     obtain⟨p,⟨k1,_⟩,k2,k3⟩:=uh hS m e _ _ (by simpa using hc.1) this
     rw[Nat.zero_add]at q3
     rw[q1,q3]
     exact⟨p,k1,k2,k3⟩)
    rw[List.drop_zero]at h1
    have hl':ps.length=P.cellsOf t:=h1.1.trans hl
    refine⟨ps,⟨?_,by simp[bulkS,hu]⟩,hl',h1⟩
    simp only[bL,hu]
    exact⟨hl',fun f hfm=>by have:=(h2 f hfm).2;rwa [Nat.sub_zero]at this⟩
   | slice e=>
    simp only[Bool.and_eq_true,Nat.blt_eq]at hc
    have he:e∈S:=by have:=hc.1.1;simpa using this
    rcases DataW.trod_slice hu h with ⟨rfl,_⟩ | ⟨a,len,cap,elems,rest,m,hm,rfl,hx0,_,hle,hcap,hlen,hel,_⟩
    ·refine⟨[.sl (P.cellsOf e) []],⟨?_,by simp[bulkS,hu,lp]⟩,by rw[Nat.eq_of_beq_eq_true hc.2];rfl,rfl,by simp[PV.one],fun i c v h1 h2=>by cases i<;>simp at h1 h2;subst h1 h2;exact .sl0 _ _ _⟩
     simp only[bL,hu]
     exact⟨[],rfl,Nat.zero_le _,by simp⟩
    ·obtain rfl:m=n:=by omega
     obtain⟨l,hll,hlq⟩:=xz (Q:=fun i (ps:List PV)=>(bL P m e ps∧∃x,elems[i]? = some x∧bulkS P m e ps≤dB x.1)∧ps.length=P.cellsOf e∧(∀c∈ps,c.one=true)∧∀(j:Nat) (c:PV),ps[j]? = some c→∃v,w.cell? (a.add (i*P.cellsOf e+j))=some v∧aG w (fun _=>False) dg c v) len fun i hi=>by
      have h1:=hel i hi
      rw[List.getElem?_eq_getElem (by omega),Option.bind_eq_some_iff]at h1
      obtain⟨cs',h2,h3⟩:=h1
      obtain⟨ps,⟨k1,k6⟩,k2,k3,k4,k5⟩:=uh hS m e cs' _ he h3
      obtain⟨_,q1,q2⟩:=World.cells?_some h2
      refine⟨ps,⟨k1,_,List.getElem?_eq_getElem (by omega),k6⟩,k2,k4,fun j c hj=>?_⟩
      have hjl:j<cs'.length:=by rw[← k3];exact(List.getElem?_eq_some_iff.1 hj).1
      refine⟨cs'[j],?_,k5 j c _ hj (List.getElem?_eq_getElem hjl)⟩
      rw[← rz,q2 j (by omega)];exact List.getElem?_eq_getElem hjl
     let xs:=l.map (PV.mk (aggT P e))
     have hxl:xs.length=len:=by simp[xs,hll]
     have hcell:∀ps∈l,(PV.mk (aggT P e) ps).cells=ps:=by
      intro ps hps
      obtain⟨i,hi⟩:=List.getElem?_of_mem hps
      obtain⟨q1,q2,q3,_⟩:=hlq i ps hi
      exact BU q3 fun ha=>by rw[q2,uf hS he ha]
     have hw:∀x∈xs,x.cells.length=P.cellsOf e:=by
      intro x hx
      obtain⟨ps,hps,rfl⟩:=List.mem_map.1 hx
      rw[hcell ps hps]
      obtain⟨i,hi⟩:=List.getElem?_of_mem hps
      exact(hlq i ps hi).2.1
     have hfl:∀(k:Nat) (c:PV),(bj xs)[k]? = some c→∃v,w.cell? (a.add k)=some v∧aG w (fun _=>False) dg c v∧c.one=true:=by
      intro k c hk
      obtain⟨x,h1,h2⟩:=xA hc.1.2 hw hk
      simp only[xs,List.getElem?_map,Option.map_eq_some_iff]at h1
      obtain⟨ps,h3,rfl⟩:=h1
      rw[hcell ps (List.mem_of_getElem? h3)]at h2
      obtain⟨_,_,q3,q4⟩:=hlq _ ps h3
      obtain⟨v,q5,q6⟩:=q4 _ c h2
      rw[Nat.mul_comm,Nat.div_add_mod]at q5
      exact⟨v,q5,q6,q3 c (List.mem_of_getElem? h2)⟩
     refine⟨[.sl (P.cellsOf e) xs],⟨?_,?_⟩,by rw[Nat.eq_of_beq_eq_true hc.2];rfl,rfl,by simp[PV.one],fun i c v h1 h2=>?_⟩
     ·simp only[bL,hu]
      refine⟨xs,rfl,by omega,fun x hx=>?_⟩
      obtain⟨ps,hps,rfl⟩:=List.mem_map.1 hx
      obtain⟨i,hi⟩:=List.getElem?_of_mem hps
      exact⟨ps,rfl,(hlq i ps hi).1.1⟩
     ·simp only[bulkS,hu,hx0,dB]
      have hsum:lp (xs.map fun x=>bulkS P m e x.cells)≤dBAll (elems.map (·.1)):=by
       have he1:(xs.map fun x=>bulkS P m e x.cells)=l.map (fun ps=>bulkS P m e ps):=by
        rw[List.map_map]
        exact List.map_congr_left fun ps hps=>by simp only[Function.comp];rw[hcell ps hps]
       rw[he1]
       refine BW l _ (by simp[hll,hlen]) fun i ps hi=>?_
       obtain⟨⟨_,x,q2,q3⟩,_⟩:=hlq i ps hi
       exact⟨x.1,by rw[List.getElem?_map,q2];rfl,q3⟩
      rw[hxl,List.length_map,hlen]
      omega
     ·cases i<;>simp at h1 h2
      subst h1 h2
      rw[← hxl]
      refine .sl _ _ _ _ _ (fun k=>(w.cell? (a.add k)).getD Go.undef) hc.1.2 hw (fun c hc'=>?_) (by omega) (fun _ h=>h) (fun k c hk=>?_) (fun k c hk=>?_)
      ·obtain⟨k,hk⟩:=List.getElem?_of_mem hc'
       obtain⟨_,_,_,h⟩:=hfl k c hk
       exact h
      ·obtain⟨v,h1,_⟩:=hfl k c hk
       rw[h1];rfl
      ·obtain⟨v,h1,h2,_⟩:=hfl k c hk
       rw[h1];exact h2
   | _=>simp at hc
theorem arg_openU (hS:closedT P S=true) {t:TypeId} {v:Value} {d:DataW H} {ps:List MemPlace} {r:Reach} {base:Nat} (ht:S.contains t=true)
  (hval:Value.okWide P w r base t v) (h:DataW.Trod enc P w 0 sp held t v d ps):∃n cs,(bL P n t cs∧bulkS P n t cs≤dB d)∧aG w (fun _=>False) dg (PV.mk (aggT P t) cs) v:=by
 have ht':t∈S:=by simpa using ht
 obtain⟨hv,hv'⟩:=xD hval
 obtain⟨n,h⟩:=h
 obtain⟨cs,h1,h2,h3,h4,h5⟩:=uh hS n t _ _ ht' h
 refine⟨n,cs,h1,?_⟩
 cases ha:aggT P t with
 | true=>
  obtain⟨us,rfl⟩:=hv' ha
  exact .agg _ _ _ (by simpa [Value.cells] using h3) fun i c v hc hv=>h5 i c v hc (by simpa [Value.cells] using hv)
 | false=>
  have hl:=uf hS ht' ha
  match cs,h2.trans hl with
  | [c],_=>exact h5 0 c v rfl (by rw[hv ha];rfl)
end
end Go.Proofs.YtjklegmimpehlaaGreat.Ab
