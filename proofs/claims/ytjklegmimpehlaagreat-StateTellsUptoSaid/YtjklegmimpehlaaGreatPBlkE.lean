/- Episodes, told plainly: which may be, and how one is written. -/
import Derived.Test.YtjklegmimpehlaaGreatPSpanC
import Derived.Test.YtjklegmimpehlaaGreatPSumB
import Derived.Test.YtjklegmimpehlaaGreatXBlk
namespace Go.Proofs.YtjklegmimpehlaaGreat.Ab
open Go Go.RowKit
set_option linter.unusedVariables false
set_option linter.unusedSimpArgs false
def fc (b:List UInt8):List UInt8:=b++gI (jc b).toNat
def kG (b:List UInt8):Option (List UInt8):=if b.length<4 then none else if gI (jc (b.take (b.length-4))).toNat=b.drop (b.length-4)then some (b.take (b.length-4))else none
theorem yk (b:List UInt8):(jc b).toNat<4294967296:=(jc b).isLt
theorem IX (b:List UInt8) (hb:b.length≤100000000):vO b=some (fc b):=by
 rw[vO,aD (by omega),EC b (by omega),Option.bind_some,KW b _ (by omega)]
 rfl
theorem IY {l:List UInt8} (h:l.length=4):∃a b c d,l=[a,b,c,d]:=by
 match l,h with
 | [a,b,c,d],_=>exact⟨a,b,c,d,rfl⟩
theorem Dr (b:List UInt8) (hb:b.length≤100000000):match kG b with
  | none=>∃x,nO b=some (x,false)
  | some p=>nO b=some (p,true):=by
 unfold kG
 by_cases h:b.length<4
 ·rw[if_pos h]
  refine⟨[],?_⟩
  rw[nO,dz (by omega) (by omega),ay (by omega),eI]
 ·rw[if_neg h]
  have hw:IntKind.i64.wrap ((b.length:Int)-4)=((b.length-4:Nat):Int):=by rw[dz (by omega) (by omega)];omega
  obtain⟨c0,c1,c2,c3,hd⟩:=IY (l:=b.drop (b.length-4)) (by rw[List.length_drop];omega)
  have hsum:=yk (b.take (b.length-4))
  have hcode:nO b=some (b.take (b.length-4),(((kP c0 c1 c2 c3:Nat):Int) == ((jc (b.take (b.length-4))).toNat:Int))):=by
   simp only[nO,hw,aw (by omega:¬((b.length-4:Nat):Int)<0),Bool.false_eq_true,if_false,aD (by omega:(0:Int)≤((b.length-4:Nat):Int)),aD (by omega:((b.length-4:Nat):Int)≤(b.length:Int)),Int.toNat_natCast,hd]
   rw[KY c0 c1 c2 c3 [] (by simp),Option.bind_some]
   simp only[if_true]
   rw[EC _ (by rw[List.length_take];omega),Option.bind_some]
  rw[hcode,hd]
  by_cases e:gI (jc (b.take (b.length-4))).toNat=[c0,c1,c2,c3]
  ·rw[if_pos e]
   rw[← EF]at e
   have:=KV hsum (by simp only[kP];have:=c0.toNat_lt;have:=c1.toNat_lt;have:=c2.toNat_lt;have:=c3.toNat_lt;omega) e
   rw[← this]
   simp
  ·rw[if_neg e]
   refine⟨b.take (b.length-4),?_⟩
   rw[show(((kP c0 c1 c2 c3:Nat):Int) == ((jc (b.take (b.length-4))).toNat:Int))=false from ?_]
   rw[beq_eq_false_iff_ne]
   intro h2
   have h3:kP c0 c1 c2 c3=(jc (b.take (b.length-4))).toNat:=by omega
   exact e (by rw[← h3,EF])
theorem IZ (b:List UInt8) (hb:b.length≤100000000):vQ b=some (fc b):=by
 rw[vQ,aD (by omega),ED b (by omega),Option.bind_some,EG _ (yk b),Option.bind_some,aD (by rw[List.length_append,vq];omega)]
 rfl
theorem Ds (b:List UInt8) (hb:b.length≤100000000):pF b=some (match kG b with | none=>([],false) | some p=>(p,true)):=by
 unfold kG
 by_cases h:b.length<4
 ·rw[if_pos h,pF,dz (by omega) (by omega),ay (by omega),eI]
  rfl
 ·rw[if_neg h]
  have hw:IntKind.i64.wrap ((b.length:Int)-4)=((b.length-4:Nat):Int):=by rw[dz (by omega) (by omega)];omega
  simp only[pF,hw,aw (by omega:¬((b.length-4:Nat):Int)<0),Bool.false_eq_true,if_false,aD (by omega:(0:Int)≤((b.length-4:Nat):Int)),aD (by omega:((b.length-4:Nat):Int)≤(b.length:Int)),Int.toNat_natCast]
  rw[ED _ (by rw[List.length_take];omega),Option.bind_some,EG _ (yk _),Option.bind_some,yo,yo]
  by_cases e:gI (jc (b.take (b.length-4))).toNat=b.drop (b.length-4)
  ·rw[if_pos e,e]
   simp only[beq_self_eq_true,Bool.not_true,Bool.false_eq_true,if_false,Option.bind_some,Sum.elim_inl,zu,hw,aD (by omega:(0:Int)≤((b.length-4:Nat):Int)),aD (by omega:((b.length-4:Nat):Int)≤(b.length:Int)),Int.toNat_natCast]
  ·rw[if_neg e,show(gI (jc (b.take (b.length-4))).toNat == b.drop (b.length-4))=false from by simpa using e]
   rfl
theorem Dt (x:List UInt8):kG (fc x)=some x:=by
 have h1:(fc x).length-4=x.length:=by simp[fc,vq]
 rw[kG,if_neg (by simp[fc,vq]),h1,fc,List.take_left,List.drop_left,if_pos rfl]
def gB (l:List aL):List UInt8:=l.flatMap ej
theorem I0 (a b:List aL):gB (a++b)=gB a++gB b:=by simp[gB]
theorem yl:∀(l:List aL),(∀s∈l,i8 s∧dR s=true)→(gB l).length≤400*l.length
 | [],_=>by simp[gB]
 | s :: l,h=>by
  have h1:=h s List.mem_cons_self
  have h2:=yl l fun m hm=>h m (List.mem_cons_of_mem _ hm)
  have h3:=JP h1.1 h1.2
  simp only[gB,List.flatMap_cons,List.length_append,List.length_cons]at h2 ⊢;omega
end Go.Proofs.YtjklegmimpehlaaGreat.Ab
namespace Go.Proofs.YtjklegmimpehlaaGreat.Ab
open Go Go.RowKit
set_option linter.unusedVariables false
set_option linter.unusedSimpArgs false
def cn (n:Int):Bool:=decide (0≤n)&&decide (n≤1099511627776)
theorem o7 {n:Int} (h:cn n=true):0≤n∧n≤1099511627776:=by simpa [cn] using h
theorem I1 (n:Int):vR n=some (!cn n):=by
 unfold vR cn
 by_cases h:n<0
 ·rw[ay h,eI,aw (by omega:¬0≤n)];rfl
 ·rw[aw h,d3,ay (by omega:0≤n),Bool.true_and]
  congr 1
  by_cases h2:n≤1099511627776
  ·rw[ay h2,aw (by omega)];rfl
  ·rw[aw h2,ay (by omega)];rfl
theorem ni (l:List Int) (hl:l.length≤1000000000):kT l=some (l.all cn):=by
 obtain⟨v,g1,g2⟩:=mr (body:=fun(q:Int)=>pG l q) (fun n=>!cn n) l hl (fun j hj=>by
  simp only[pG,ay (by omega:(j:Int)<(l.length:Int)),if_true,aD (by omega:(0:Int)≤(j:Int)),Int.toNat_natCast,List.getElem?_eq_getElem hj,Option.bind_some,I1,cw (by omega:j<1099511627776)]) (by simp only[pG,aw (by omega:¬(l.length:Int)<(l.length:Int)),Bool.false_eq_true,if_false])
 rw[kT,zw,vS,g1,Option.bind_some,g2,Option.bind_some]
 congr 1
 rw[Bool.eq_iff_iff];simp
theorem mo (n:Int):fN n=some (cn n):=by
 unfold fN cn
 by_cases h:0≤n
 ·rw[ay h,eI];rfl
 ·rw[aw h,d3];rfl
theorem I2 (l:List aL) (hl:l.length≤1000000):wx l=some (l.all dR):=by
 obtain⟨v,g1,g2⟩:=mr (body:=fun(q:Int)=>qj l q) (fun s=>!dR s) l (by omega) (fun j hj=>by
  simp only[qj,ay (by omega:(j:Int)<(l.length:Int)),if_true,aD (by omega:(0:Int)≤(j:Int)),Int.toNat_natCast,List.getElem?_eq_getElem hj,Option.bind_some,Am,D5,cw (by omega:j<1099511627776)]) (by simp only[qj,aw (by omega:¬(l.length:Int)<(l.length:Int)),Bool.false_eq_true,if_false])
 rw[wx,An,ww,g1,Option.bind_some,g2,Option.bind_some]
 congr 1
 rw[Bool.eq_iff_iff];simp
def kH (e:az) (i:Nat):Bool:=match e.Spans[i]? with | none=>false | some s=>!decide (s.Trace=e.Trace)||(e.Spans.take i).any (fun x=>decide (x.Id=s.Id))
def eB (e:az):Bool:=cn e.First&&(cn e.Last&&(!e.Spans.isEmpty&&(e.Spans.all dR&&!(List.range e.Spans.length).any (kH e))))
def nj (l:List aL):List Int:=l.foldl (fun k s=>kC k s.Id) []
theorem I3 {ks:List Int} {v n:Int}:n∈kC ks v↔n∈ks∨n=v:=by
 unfold kC
 split
 ·rename_i h
  exact⟨.inl,fun q=>q.elim id fun e=>e ▸ h⟩
 ·simp
theorem Du (n:Int):∀(l:List aL) (acc:List Int),n∈l.foldl (fun k s=>kC k s.Id) acc↔n∈acc∨∃s∈l,s.Id=n
 | [],acc=>by simp
 | x :: l,acc=>by
  rw[List.foldl_cons,Du n l,I3]
  constructor
  ·rintro((h | h) | ⟨s,h1,h2⟩)
   ·exact .inl h
   ·exact .inr ⟨x,List.mem_cons_self,h.symm⟩
   ·exact .inr ⟨s,List.mem_cons_of_mem _ h1,h2⟩
  ·rintro(h | ⟨s,h1,h2⟩)
   ·exact .inl (.inl h)
   ·rcases List.mem_cons.1 h1 with rfl | h1
    ·exact .inl (.inr h2.symm)
    ·exact .inr ⟨s,h1,h2⟩
theorem Dv (l:List aL) (n:Int):decide (n∈nj l)=l.any (fun x=>decide (x.Id=n)):=by
 rw[Bool.eq_iff_iff,decide_eq_true_iff,nj,Du]
 simp
theorem I4 {l:List aL} {k:Nat} (hk:k<l.length):kC (nj (l.take k)) l[k].Id=nj (l.take (k+1)):=by
 rw[List.take_succ_eq_append_getElem hk,nj,nj,List.foldl_append];rfl
theorem Dw (e:az) (hl:e.Spans.length≤1000000):pH e=some (eB e):=by
 have hk0:sC e=some (!(List.range e.Spans.length).any (kH e)):=by
  have:=mq (body:=fun(s:List Int×Int)=>nR e s.1 s.2) (l:=List.range e.Spans.length) (kH e) (fun k=>(nj (e.Spans.take k),(k:Int))) true false (by simp;omega) (fun k hk hb hk2=>by
    have hk':k<e.Spans.length:=by simpa using hk
    rw[List.getElem_range]at hk2
    simp only[kH,List.getElem?_eq_getElem hk',Bool.or_eq_false_iff,Bool.not_eq_false']at hk2
    simp only[nR,ay (by omega:(k:Int)<(e.Spans.length:Int)),if_true,aD (by omega:(0:Int)≤(k:Int)),Int.toNat_natCast,List.getElem?_eq_getElem hk',Option.bind_some,eu,hk2.1,Dv,hk2.2,Bool.not_true,Bool.false_eq_true,if_false,Sum.elim_inl,vT,cw (by omega:k<1099511627776),I4 hk']) (fun k hk hb hk2=>by
    have hk':k<e.Spans.length:=by simpa using hk
    rw[List.getElem_range]at hk2
    simp only[kH,List.getElem?_eq_getElem hk']at hk2
    simp only[nR,ay (by omega:(k:Int)<(e.Spans.length:Int)),if_true,aD (by omega:(0:Int)≤(k:Int)),Int.toNat_natCast,List.getElem?_eq_getElem hk',Option.bind_some,eu,Dv]
    cases h1:decide (e.Spans[k].Trace=e.Trace)with
    | false=>rfl
    | true=>
     rw[h1,Bool.not_true,Bool.false_or]at hk2
     simp only[Bool.not_true,Bool.false_eq_true,if_false,hk2,if_true,Option.bind_some,Sum.elim_inr]) (fun hb=>by
    simp only[List.length_range,nR,aw (by omega:¬(e.Spans.length:Int)<(e.Spans.length:Int)),Bool.false_eq_true,if_false])
  rw[sC]
  refine this.trans ?_
  cases (List.range e.Spans.length).any (kH e)<;>rfl
 rw[pH,ni _ (by simp),Option.bind_some,eB]
 simp only[List.all_cons,List.all_nil,Bool.and_true]
 cases h1:cn e.First
 ·rfl
 cases h2:cn e.Last
 ·rfl
 by_cases h3:e.Spans=[]
 ·rw[h3];rfl
 ·have:e.Spans.length≠0:=fun q=>h3 (List.length_eq_zero_iff.1 q)
  rw[show(((e.Spans.length:Nat):Int) == 0)=false from by simpa using h3,show e.Spans.isEmpty=false from by simpa using h3,I2 _ hl]
  cases h4:e.Spans.all dR
  ·rfl
  ·simp only[Bool.and_self,Bool.not_true,Bool.false_eq_true,if_false,Option.bind_some,Sum.elim_inl,hk0,Bool.not_false,Bool.true_and]
def nl (e:az) (i:Nat):Bool:=match e.Spans[i]? with | none=>false | some s=>!dR s||kH e i
theorem I5 (e:az):(List.range e.Spans.length).any (nl e)=(!e.Spans.all dR||(List.range e.Spans.length).any (kH e)):=by
 rw[Bool.eq_iff_iff]
 simp only[List.any_eq_true,List.mem_range,Bool.or_eq_true,Bool.not_eq_true',nl]
 constructor
 ·rintro⟨i,hi,h⟩
  rw[List.getElem?_eq_getElem hi]at h
  simp only[Bool.or_eq_true,Bool.not_eq_true']at h
  rcases h with h | h
  ·left
   rw[← Bool.not_eq_true,List.all_eq_true]
   intro q
   rw[q _ (List.getElem_mem hi)]at h
   cases h
  ·exact .inr ⟨i,hi,h⟩
 ·rintro(h | ⟨i,hi,h⟩)
  ·rw[← Bool.not_eq_true,List.all_eq_true]at h
   have:∃x∈e.Spans,dR x=false:=Classical.byContradiction fun q=>h fun x hx=>by
    cases c:dR x with
    | true=>rfl
    | false=>exact absurd ⟨x,hx,c⟩ q
   obtain⟨x,hx,c⟩:=this
   obtain⟨i,hi,rfl⟩:=List.getElem_of_mem hx
   exact⟨i,hi,by rw[List.getElem?_eq_getElem hi];simp[c]⟩
  ·exact⟨i,hi,by rw[List.getElem?_eq_getElem hi];simp[h]⟩
theorem I6 (e:az) (hl:e.Spans.length≤1000000):vV e=some (eB e):=by
 have hin:∀(k:Nat) (hk:k<e.Spans.length),sE e (k:Int)=some (if(e.Spans.take k).any (fun x=>decide (x.Id=e.Spans[k].Id))then .inr false else .inl ((k+1:Nat):Int)):=by
  intro k hk
  rw[sE]
  have:=mq (body:=fun(q:Int)=>nS e (k:Int) q) (l:=e.Spans.take k) (fun x=>decide (x.Id=e.Spans[k].Id)) (fun j=>(j:Int)) (.inl ((k+1:Nat):Int)) (.inr false) (by simp;omega) (fun j hj hb hj2=>by
    have hjk:j<k:=by simp at hj;omega
    have hjl:j<e.Spans.length:=by omega
    rw[List.getElem_take]at hj2
    simp only[nS,ay (by omega:(j:Int)<(k:Int)),if_true,aD (by omega:(0:Int)≤(j:Int)),aD (by omega:(0:Int)≤(k:Int)),Int.toNat_natCast,List.getElem?_eq_getElem hjl,List.getElem?_eq_getElem hk,Option.bind_some,show(e.Spans[j].Id == e.Spans[k].Id)=false from by simpa using hj2,Bool.false_eq_true,if_false,cw (by omega:j<1099511627776)]) (fun j hj hb hj2=>by
    have hjk:j<k:=by simp at hj;omega
    have hjl:j<e.Spans.length:=by omega
    rw[List.getElem_take]at hj2
    simp only[nS,ay (by omega:(j:Int)<(k:Int)),if_true,aD (by omega:(0:Int)≤(j:Int)),aD (by omega:(0:Int)≤(k:Int)),Int.toNat_natCast,List.getElem?_eq_getElem hjl,List.getElem?_eq_getElem hk,Option.bind_some,show(e.Spans[j].Id == e.Spans[k].Id)=true from by simpa using hj2]) (fun hb=>by
    have:(e.Spans.take k).length=k:=by simp;omega
    simp only[this,nS,aw (by omega:¬(k:Int)<(k:Int)),Bool.false_eq_true,if_false,cw (by omega:k<1099511627776)])
  exact this
 have hk0:sF e=some (!(List.range e.Spans.length).any (nl e)):=by
  have:=mq (body:=fun(s:Int)=>nT e s) (l:=List.range e.Spans.length) (nl e) (fun k=>(k:Int)) true false (by simp;omega) (fun k hk hb hk2=>by
    have hk':k<e.Spans.length:=by simpa using hk
    rw[List.getElem_range]at hk2
    simp only[nl,kH,List.getElem?_eq_getElem hk',Bool.or_eq_false_iff,Bool.not_eq_false']at hk2
    simp only[nT,ay (by omega:(k:Int)<(e.Spans.length:Int)),if_true,aD (by omega:(0:Int)≤(k:Int)),Int.toNat_natCast,List.getElem?_eq_getElem hk',Option.bind_some,yE,hk2.1,eu,hk2.2.1,Bool.not_true,Bool.false_eq_true,if_false,Sum.elim_inl,hin k hk',hk2.2.2]) (fun k hk hb hk2=>by
    have hk':k<e.Spans.length:=by simpa using hk
    rw[List.getElem_range]at hk2
    simp only[nl,kH,List.getElem?_eq_getElem hk']at hk2
    simp only[nT,ay (by omega:(k:Int)<(e.Spans.length:Int)),if_true,aD (by omega:(0:Int)≤(k:Int)),Int.toNat_natCast,List.getElem?_eq_getElem hk',Option.bind_some,yE,eu]
    cases h0:dR e.Spans[k]with
    | false=>rfl
    | true=>
    cases h1:decide (e.Spans[k].Trace=e.Trace)with
    | false=>rfl
    | true=>
     rw[h0,h1,Bool.not_true,Bool.false_or,Bool.false_or]at hk2
     simp only[Bool.not_true,Bool.false_eq_true,if_false,hk2,if_true,Option.bind_some,Sum.elim_inl,hin k hk']) (fun hb=>by
    simp only[List.length_range,nT,aw (by omega:¬(e.Spans.length:Int)<(e.Spans.length:Int)),Bool.false_eq_true,if_false])
  rw[sF]
  refine this.trans ?_
  cases (List.range e.Spans.length).any (nl e)<;>rfl
 rw[vV,mo,Option.bind_some,mo,eB]
 cases h1:cn e.First
 ·rfl
 cases h2:cn e.Last
 ·rfl
 by_cases h3:e.Spans=[]
 ·rw[h3];rfl
 ·rw[show(((e.Spans.length:Nat):Int) == 0)=false from by simpa using h3,show e.Spans.isEmpty=false from by simpa using h3]
  simp only[Bool.not_true,Bool.false_eq_true,if_false,Option.bind_some,Sum.elim_inl,hk0,I5,Bool.not_false,Bool.true_and,Bool.not_or,Bool.not_not]
theorem Dx {e:az} (h:eB e=true):cn e.First=true∧cn e.Last=true∧e.Spans≠[]∧∀s∈e.Spans,dR s=true:=by
 simp only[eB,Bool.and_eq_true,Bool.not_eq_true',List.all_eq_true]at h
 exact⟨h.1,h.2.1,by simpa using h.2.2.1,h.2.2.2.1⟩
def hZ (e:az):List UInt8:=bC [e.First,e.Last]++(bC [df e.Sure]++(bC [(e.Spans.length:Int)]++gB e.Spans))
def np (e:az):Prop:=cI e.Trace.Hi∧cI e.Trace.Lo∧∀s∈e.Spans,i8 s
theorem fD {n:Int} (h:cn n=true):cI n:=⟨(o7 h).1,by have:=(o7 h).2;omega⟩
theorem rN {n:Nat} (h:n≤1000000000):cI (n:Int):=⟨by omega,by omega⟩
theorem ym (b:Bool):cI (df b):=⟨(nB b).1,by have:=(nB b).2;omega⟩
theorem lA {n:Int} (h:cI n):(bC [n]).length≤10:=ie [n] (by simpa using h)
theorem jU {m n:Int} (k:cI m) (h:cI n):(bC [m,n]).length≤20:=ie [m,n] (by simpa using ⟨k,h⟩)
theorem I7 (w:aE) (e:az) (hw:np e) (h:eB e=true) (hl:e.Spans.length≤1000) (hb:w.B.length≤900000000):vU w e=some ⟨w.B++hZ e⟩:=by
 obtain⟨h1,h2,h3,h4⟩:=Dx h
 have c1:=o7 h1
 have c2:=o7 h2
 have a1:=jU (fD h1) (fD h2)
 have a2:=lA (ym e.Sure)
 have a3:=lA (rN (n:=e.Spans.length) (by omega))
 rw[vU,gn _ _ (by simp only[List.mem_cons,List.not_mem_nil,or_false];rintro n (rfl | rfl)<;>omega) (by simp only[List.length_cons,List.length_nil];omega),Option.bind_some,
  yt _ _ (by simp only[List.length_append];omega),Option.bind_some,gn _ _ (fun n hn=>by rw[List.mem_singleton.1 hn];omega) (by simp only[List.length_cons,List.length_nil,List.length_append];omega),Option.bind_some]
 have hB:w.B++hZ e=(w.B++bC [e.First,e.Last]++bC [df e.Sure]++bC [(e.Spans.length:Int)])++gB e.Spans:=by simp[hZ]
 rw[hB]
 dsimp only
 generalize hC:w.B++bC [e.First,e.Last]++bC [df e.Sure]++bC [(e.Spans.length:Int)]=C
 have hCl:C.length≤900000100:=by rw[← hC];simp only[List.length_append];omega
 refine fd (l:=e.Spans) (fun k r q=>q=(C++gB (e.Spans.take k),(k:Int))∧r=⟨C++gB e.Spans⟩) (by omega) ?_ ?_ ⟨by simp[gB],rfl⟩
 ·rintro k hk r q ⟨rfl,rfl⟩
  have hle:=yl (e.Spans.take k) fun s hs=>⟨hw.2.2 s (List.mem_of_mem_take hs),h4 s (List.mem_of_mem_take hs)⟩
  have hle2:(e.Spans.take k).length≤1000:=by simp;omega
  refine .inl ⟨(C++gB (e.Spans.take (k+1)),((k+1:Nat):Int)),?_,rfl,rfl⟩
  simp only[sD,ay (by omega:(k:Int)<(e.Spans.length:Int)),if_true,aD (by omega:(0:Int)≤(k:Int)),Int.toNat_natCast,List.getElem?_eq_getElem hk,Option.bind_some]
  rw[JR _ _ (hw.2.2 _ (List.getElem_mem hk)) (h4 _ (List.getElem_mem hk)) (by simp only[List.length_append];omega),Option.bind_some,cw (by omega),List.take_succ_eq_append_getElem hk,I0]
  simp[gB]
 ·rintro r q ⟨rfl,rfl⟩
  simp only[sD,aw (by omega:¬(e.Spans.length:Int)<(e.Spans.length:Int)),Bool.false_eq_true,if_false,List.take_length]
end Go.Proofs.YtjklegmimpehlaaGreat.Ab
