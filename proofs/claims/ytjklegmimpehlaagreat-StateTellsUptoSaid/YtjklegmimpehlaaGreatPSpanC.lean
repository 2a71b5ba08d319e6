/- Spans as bytes, told plainly: how one is read. -/
import Derived.Test.YtjklegmimpehlaaGreatXSpan2
import Derived.Test.YtjklegmimpehlaaGreatPKit
import Derived.Test.YtjklegmimpehlaaGreatPRW
namespace Go.Proofs.YtjklegmimpehlaaGreat.Ab
open Go Go.RowKit
set_option linter.unusedVariables false
set_option linter.unusedSimpArgs false
theorem mB {k:Nat} (h:k<1099511627776):IntKind.i64.wrap ((k:Int)+1)=((k+1:Nat):Int):=by rw[dz (by omega) (by omega)];push_cast;rfl
theorem eu (a b:Trace):((a.Hi == b.Hi)&&((a.Lo == b.Lo)&&true))=decide (a=b):=by
 cases a;cases b
 simp only[Trace.mk.injEq,Bool.and_true]
 rw[Bool.eq_iff_iff];simp
def u5 (s:aL):Prop:=s.Service.size≤100∧s.Op.size≤100∧s.Attrs.length≤20∧∀a∈s.Attrs,a.Key.size≤100∧a.Value.size≤100
theorem JK (s:aL):∃b,n8 s=some b∧(b=true→u5 s):=by
 by_cases h1:(100:Int)<(s.Service.size:Int)
 ·exact⟨false,by simp[n8,h1],by simp⟩
 by_cases h2:(100:Int)<(s.Op.size:Int)
 ·exact⟨false,by simp[n8,h1,h2],by simp⟩
 by_cases h3:(20:Int)<(s.Attrs.length:Int)
 ·exact⟨false,by simp[n8,h1,h2,h3],by simp⟩
 have hloop:∃b,am (fun(q:Int)=>mO s q) Fu 0=some b∧(b=true→∀a∈s.Attrs,a.Key.size≤100∧a.Value.size≤100):=by
  refine lq (fun n (q:Int)=>∃k:Nat,k≤s.Attrs.length∧n=s.Attrs.length-k∧q=(k:Int)∧∀a∈s.Attrs.take k,a.Key.size≤100∧a.Value.size≤100) _ ?_ Fu s.Attrs.length 0 ⟨0,by omega,by omega,rfl,by simp⟩ (by rw[oN];omega)
  rintro n q ⟨k,hk,rfl,rfl,ha⟩
  by_cases e:k=s.Attrs.length
  ·refine .inr ⟨true,?_,fun _=>by rwa [e,List.take_length]at ha⟩
   simp only[mO,aw (by omega:¬(k:Int)<(s.Attrs.length:Int)),Bool.false_eq_true,if_false]
  ·have hk2:k<s.Attrs.length:=by omega
   by_cases e1:(100:Int)<(s.Attrs[k].Key.size:Int)
   ·refine .inr ⟨false,?_,by simp⟩
    simp only[mO,ay (by omega:(k:Int)<(s.Attrs.length:Int)),if_true,aD (by omega:(0:Int)≤(k:Int)),Int.toNat_natCast,List.getElem?_eq_getElem hk2,Option.bind_some,ay e1]
   by_cases e2:(100:Int)<(s.Attrs[k].Value.size:Int)
   ·refine .inr ⟨false,?_,by simp⟩
    simp only[mO,ay (by omega:(k:Int)<(s.Attrs.length:Int)),if_true,aD (by omega:(0:Int)≤(k:Int)),Int.toNat_natCast,List.getElem?_eq_getElem hk2,Option.bind_some,aw e1,Bool.false_eq_true,if_false,ay e2]
   refine .inl ⟨((k+1:Nat):Int),s.Attrs.length-(k+1),?_,by omega,k+1,by omega,rfl,rfl,fun a h=>?_⟩
   ·simp only[mO,ay (by omega:(k:Int)<(s.Attrs.length:Int)),if_true,aD (by omega:(0:Int)≤(k:Int)),Int.toNat_natCast,List.getElem?_eq_getElem hk2,Option.bind_some,aw e1,Bool.false_eq_true,if_false,aw e2,mB (by omega:k<1099511627776)]
   ·rw[List.take_succ_eq_append_getElem hk2]at h
    rcases List.mem_append.1 h with h | h
    ·exact ha a h
    ·rw[List.mem_singleton.1 h];omega
 obtain⟨b,hb,hb2⟩:=hloop
 refine⟨b,?_,fun h=>⟨by omega,by omega,by omega,hb2 h⟩⟩
 simp only[n8,h1,h2,h3,decide_false,Bool.false_eq_true,if_false,Option.bind_some,Sum.elim_inl,wn,hb]
theorem JL (l:List aL):∃b,sY l=some b∧(b=true→l.length≤60∧∀s∈l,u5 s):=by
 by_cases h1:(60:Int)<(l.length:Int)
 ·exact⟨false,by simp[sY,h1],by simp⟩
 have hloop:∃b,am (fun(q:Int)=>oa l q) Fu 0=some b∧(b=true→∀s∈l,u5 s):=by
  refine lq (fun n (q:Int)=>∃k:Nat,k≤l.length∧n=l.length-k∧q=(k:Int)∧∀a∈l.take k,u5 a) _ ?_ Fu l.length 0 ⟨0,by omega,by omega,rfl,by simp⟩ (by rw[oN];omega)
  rintro n q ⟨k,hk,rfl,rfl,ha⟩
  by_cases e:k=l.length
  ·refine .inr ⟨true,?_,fun _=>by rwa [e,List.take_length]at ha⟩
   simp only[oa,aw (by omega:¬(k:Int)<(l.length:Int)),Bool.false_eq_true,if_false]
  ·have hk2:k<l.length:=by omega
   obtain⟨b,hb,hb2⟩:=JK l[k]
   cases b with
   | false=>
    refine .inr ⟨false,?_,by simp⟩
    simp only[oa,ay (by omega:(k:Int)<(l.length:Int)),if_true,aD (by omega:(0:Int)≤(k:Int)),Int.toNat_natCast,List.getElem?_eq_getElem hk2,Option.bind_some,hb,Bool.not_false]
   | true=>
    refine .inl ⟨((k+1:Nat):Int),l.length-(k+1),?_,by omega,k+1,by omega,rfl,rfl,fun a h=>?_⟩
    ·simp only[oa,ay (by omega:(k:Int)<(l.length:Int)),if_true,aD (by omega:(0:Int)≤(k:Int)),Int.toNat_natCast,List.getElem?_eq_getElem hk2,Option.bind_some,hb,Bool.not_true,Bool.false_eq_true,if_false,mB (by omega:k<1099511627776)]
    ·rw[List.take_succ_eq_append_getElem hk2]at h
     rcases List.mem_append.1 h with h | h
     ·exact ha a h
     ·rw[List.mem_singleton.1 h];exact hb2 rfl
 obtain⟨b,hb,hb2⟩:=hloop
 refine⟨b,?_,fun h=>⟨by omega,hb2 h⟩⟩
 simp only[sY,h1,decide_false,Bool.false_eq_true,if_false,hb]
theorem lF {α:Type} [DecidableEq α] {body:Int→Option (Int⊕Bool)} (a b:List α) (hl:a.length=b.length) (ha:a.length≤1000000000)
  (h:∀(k:Nat) (h1:k<a.length) (h2:k<b.length),body (k:Int)=if a[k]=b[k]then some (.inl ((k+1:Nat):Int))else some (.inr false)) (hend:body (a.length:Int)=some (.inr true)):am body Fu 0=some (decide (a=b)):=by
 refine fd (l:=a) (fun k r s=>s=(k:Int)∧a.take k=b.take k∧r=decide (a=b)) (by omega) ?_ ?_ ⟨rfl,rfl,rfl⟩
 ·rintro k hk r s ⟨rfl,he,rfl⟩
  have hkb:k<b.length:=by omega
  rw[h k hk hkb]
  by_cases hx:a[k]=b[k]
  ·rw[if_pos hx]
   exact .inl ⟨_,rfl,rfl,by rw[List.take_succ_eq_append_getElem hk,List.take_succ_eq_append_getElem hkb,he,hx],rfl⟩
  ·rw[if_neg hx,aw (fun e=>hx (by subst e;rfl))]
   exact .inr rfl
 ·rintro r s ⟨rfl,he,rfl⟩
  have:a=b:=by rw[List.take_length,hl,List.take_length]at he;exact he
  rw[hend,ay this]
theorem D3 (a b:bf):((ByteArray.toList a.Key == ByteArray.toList b.Key)&&((ByteArray.toList a.Value == ByteArray.toList b.Value)&&true))=decide (a=b):=by
 cases a;cases b
 simp only[bf.mk.injEq,Bool.and_true,ea]
 rw[Bool.eq_iff_iff];simp
theorem D4 {a b:aL} (h1:a.Trace=b.Trace) (h2:a.Id=b.Id) (h3:a.Parent=b.Parent) (h4:a.Service=b.Service) (h5:a.Op=b.Op) (h6:a.Start=b.Start) (h7:a.Dur=b.Dur) (h8:a.Err=b.Err) (h9:a.Attrs=b.Attrs):a=b:=by
 cases a;cases b;simp_all
theorem JM (a b:aL) (ha:a.Attrs.length≤1000000):iL a b=some (decide (a=b)):=by
 have no:∀(p:Prop),p→(a=b→¬p)→some false=some (decide (a=b)):=fun p hp h=>by rw[aw (fun e=>h e hp)]
 by_cases h1:a.Trace=b.Trace
 case neg=>rw[← no _ h1 (fun e h=>h (by rw[e]))];simp only[iL,eu,aw h1,Bool.not_false,if_true,Option.bind_some,Sum.elim_inr]
 by_cases h2:a.Id=b.Id
 case neg=>rw[← no _ h2 (fun e h=>h (by rw[e]))];simp[iL,eu,h1,h2]
 by_cases h3:a.Parent=b.Parent
 case neg=>rw[← no _ h3 (fun e h=>h (by rw[e]))];simp[iL,eu,h1,h2,h3]
 by_cases h4:a.Service=b.Service
 case neg=>rw[← no _ h4 (fun e h=>h (by rw[e]))];simp[iL,eu,ea,h1,h2,h3,h4]
 by_cases h5:a.Op=b.Op
 case neg=>rw[← no _ h5 (fun e h=>h (by rw[e]))];simp[iL,eu,ea,h1,h2,h3,h4,h5]
 by_cases h6:a.Start=b.Start
 case neg=>rw[← no _ h6 (fun e h=>h (by rw[e]))];simp[iL,eu,ea,h1,h2,h3,h4,h5,h6]
 by_cases h7:a.Dur=b.Dur
 case neg=>rw[← no _ h7 (fun e h=>h (by rw[e]))];simp[iL,eu,ea,h1,h2,h3,h4,h5,h6,h7]
 by_cases h8:a.Err=b.Err
 case neg=>rw[← no _ h8 (fun e h=>h (by rw[e]))];simp[iL,eu,ea,h1,h2,h3,h4,h5,h6,h7,h8]
 by_cases h9:a.Attrs.length=b.Attrs.length
 case neg=>
  have:((a.Attrs.length:Int) != (b.Attrs.length:Int))=true:=by simp only[bne_iff_ne,ne_eq];omega
  rw[← no _ h9 (fun e h=>h (by rw[e]))];simp[iL,eu,ea,h1,h2,h3,h4,h5,h6,h7,h8,this]
 have hloop:wq a b=some (decide (a.Attrs=b.Attrs)):=by
  refine lF a.Attrs b.Attrs h9 (by omega) (fun k hk hk2=>?_) ?_
  ·simp only[sZ,ay (by omega:(k:Int)<(a.Attrs.length:Int)),if_true,aD (by omega:(0:Int)≤(k:Int)),Int.toNat_natCast,List.getElem?_eq_getElem hk,List.getElem?_eq_getElem hk2,Option.bind_some,D3,mB (by omega:k<1099511627776)]
   by_cases e:a.Attrs[k]=b.Attrs[k]
   ·simp[e]
   ·simp[e]
  ·simp only[sZ,aw (by omega:¬(a.Attrs.length:Int)<(a.Attrs.length:Int)),Bool.false_eq_true,if_false]
 have hd:decide (a=b)=decide (a.Attrs=b.Attrs):=by
  by_cases e:a.Attrs=b.Attrs
  ·rw[ay e,ay (D4 h1 h2 h3 h4 h5 h6 h7 h8 e)]
  ·rw[aw e,aw (fun e2=>e (by rw[e2]))]
 have e0:((a.Attrs.length:Int) != (b.Attrs.length:Int))=false:=by simp[h9]
 rw[hd,← hloop]
 simp only[iL,eu,ea,h1,h2,h3,h4,h5,h6,h7,h8,e0,decide_true,Bool.and_self,Bool.and_true,Bool.not_true,bne_self_eq_false,beq_self_eq_true,Bool.false_eq_true,if_false,Option.bind_some,Sum.elim_inl]
theorem JN (a b:List aL) (ha:a.length≤1000000) (hs:∀s∈a,s.Attrs.length≤1000000):s5 a b=some (decide (a=b)):=by
 by_cases hl:a.length=b.length
 ·have h0:((a.length:Int) != (b.length:Int))=false:=by simp[hl]
  rw[s5,dD h0]
  refine lF a b hl (by omega) (fun k hk hk2=>?_) ?_
  ·simp only[s4,ay (by omega:(k:Int)<(a.length:Int)),if_true,aD (by omega:(0:Int)≤(k:Int)),Int.toNat_natCast,List.getElem?_eq_getElem hk,List.getElem?_eq_getElem hk2,Option.bind_some,JM _ _ (hs _ (List.getElem_mem hk)),mB (by omega:k<1099511627776)]
   by_cases e:a[k]=b[k]
   ·simp[e]
   ·simp[e]
  ·simp only[s4,aw (by omega:¬(a.length:Int)<(a.length:Int)),Bool.false_eq_true,if_false]
 ·have h0:((a.length:Int) != (b.length:Int))=true:=by simp only[bne_iff_ne,ne_eq];omega
  rw[s5,dM h0,aw (by rintro rfl;exact hl rfl)]
end Go.Proofs.YtjklegmimpehlaaGreat.Ab
namespace Go.Proofs.YtjklegmimpehlaaGreat.Ab
open Go Go.RowKit
set_option linter.unusedVariables false
set_option linter.unusedSimpArgs false
def dt (s:ByteArray):Bool:=decide (1≤s.size)&&decide (s.size≤16)
def iE (l:List bf) (i:Nat):Bool:=match l[i]? with | none=>false | some a=>!dt a.Key||decide (16<a.Value.size)||(l.take i).any (fun x=>decide (x.Key=a.Key))
def r8 (l:List bf):Bool:=!(List.range l.length).any (iE l)
def dR (s:aL):Bool:=dt s.Service&&dt s.Op&&decide (0≤s.Start)&&decide (s.Start≤1099511627776)&&decide (0≤s.Dur)&&decide (s.Dur≤1073741824)&&decide (s.Attrs.length≤4)&&r8 s.Attrs
theorem kM (s:ByteArray):gL s=some (dt s):=by
 unfold gL dt
 by_cases h:1≤s.size
 ·simp only[ay (by omega:(1:Int)≤(s.size:Int)),if_true,ay h,Bool.true_and]
  congr 2
  exact propext ⟨fun h=>by omega,fun h=>by omega⟩
 ·simp only[aw (by omega:¬(1:Int)≤(s.size:Int)),Bool.false_eq_true,if_false,aw h,Bool.false_and]
theorem u6 (n a b:Int):gb n a b=some (decide (a≤n)&&decide (n≤b)):=by
 unfold gb
 by_cases h:a≤n
 ·simp[h]
 ·simp[h]
theorem u7 (s:ByteArray):gb (s.size:Int) 1 16=some (dt s):=by
 rw[u6,dt]
 congr 2
 ·congr 1;exact propext ⟨fun h=>by omega,fun h=>by omega⟩
 ·congr 1;exact propext ⟨fun h=>by omega,fun h=>by omega⟩
theorem JO (l:List bf) (hl:l.length≤1000000):wv l=some (r8 l&&decide (l.length≤4)):=by
 have hc:∀(k:Nat) (hk:k<l.length),wt (l.take k) l[k]=some ((l.take k).any (fun x=>decide (x.Key=l[k].Key))):=by
  intro k hk
  obtain⟨r,h1,h2⟩:=mr (body:=fun(s:Int)=>qi (l.take k) l[k] s) (fun x:bf=>decide (x.Key=l[k].Key)) (l.take k) (by simp;omega) (fun j hj=>by
   simp only[qi,ay (by omega:(j:Int)<((l.take k).length:Int)),if_true,aD (by omega:(0:Int)≤(j:Int)),Int.toNat_natCast,List.getElem?_eq_getElem hj,Option.bind_some,wr,ea,cw (by simp at hj;omega:j<1099511627776)]) (by simp only[qi,aw (by omega:¬((l.take k).length:Int)<((l.take k).length:Int)),Bool.false_eq_true,if_false])
  rw[wt,ws,h1,Option.bind_some,h2]
 have hloop:=mq (body:=fun(s:Int)=>od l s) (l:=List.range l.length) (iE l) (fun k=>(k:Int)) (.inl ()) (.inr false) (by simp;omega) (fun k hk hb hk2=>by
   have hk':k<l.length:=by simpa using hk
   rw[List.getElem_range]at hk2
   simp only[iE,List.getElem?_eq_getElem hk',Bool.or_eq_false_iff,Bool.not_eq_false']at hk2
   simp only[od,ay (by omega:(k:Int)<(l.length:Int)),if_true,aD (by omega:(0:Int)≤(k:Int)),aD (by omega:(k:Int)≤(l.length:Int)),Int.toNat_natCast,List.getElem?_eq_getElem hk',Option.bind_some,kM,hk2.1.1,Bool.not_true,Bool.false_eq_true,if_false,hc k hk',hk2.2,cw (by omega:k<1099511627776)]
   rw[aw (by have:=of_decide_eq_false hk2.1.2;omega)]
   rfl) (fun k hk hb hk2=>by
   have hk':k<l.length:=by simpa using hk
   rw[List.getElem_range]at hk2
   simp only[iE,List.getElem?_eq_getElem hk']at hk2
   simp only[od,ay (by omega:(k:Int)<(l.length:Int)),if_true,aD (by omega:(0:Int)≤(k:Int)),aD (by omega:(k:Int)≤(l.length:Int)),Int.toNat_natCast,List.getElem?_eq_getElem hk',Option.bind_some,kM,hc k hk']
   cases h1:dt l[k].Key with
   | false=>simp
   | true=>
    by_cases h2:16<l[k].Value.size
    ·simp only[ay (by omega:(16:Int)<(l[k].Value.size:Int)),if_true,Bool.not_true,Bool.false_eq_true,if_false]
    ·rw[h1,aw h2]at hk2
     simp only[Bool.not_true,Bool.false_or]at hk2
     simp only[aw (by omega:¬(16:Int)<(l[k].Value.size:Int)),hk2,Bool.not_true,Bool.false_eq_true,if_false,if_true]) (fun hb=>by
   simp only[List.length_range,od,aw (by omega:¬(l.length:Int)<(l.length:Int)),Bool.false_eq_true,if_false])
 have e0:(((0:Nat):Int))=0:=rfl
 rw[wv,← e0,hloop,r8]
 cases hb:(List.range l.length).any (iE l)with
 | true=>rfl
 | false=>
  simp only[Bool.false_eq_true,if_false,Option.bind_some,Sum.elim_inl,wu,Bool.not_false,Bool.true_and]
  congr 2
  exact propext ⟨fun h=>by omega,fun h=>by omega⟩
theorem D5 (s:aL):s6 s=some (dR s):=by
 unfold s6 dR
 rw[kM,kM]
 simp only[Option.bind_some]
 cases h1:dt s.Service
 ·simp
 cases h2:dt s.Op
 ·simp
 by_cases h3:0≤s.Start
 case neg=>simp[h3]
 by_cases h4:s.Start≤1099511627776
 case neg=>simp[h3,h4]
 by_cases h5:0≤s.Dur
 case neg=>simp[h3,h4,h5]
 by_cases h6:s.Dur≤1073741824
 case neg=>simp[h3,h4,h5,h6]
 by_cases h7:s.Attrs.length≤4
 case neg=>
  simp[h3,h4,h5,h6,h7]
  intro h;omega
 rw[JO _ (by omega)]
 simp[h3,h4,h5,h6,h7,(by omega:(s.Attrs.length:Int)≤4)]
theorem yE (s:aL):ta s=some (dR s):=by
 unfold ta dR
 rw[u7,u7,u6,u6]
 simp only[Option.bind_some]
 cases h1:dt s.Service
 ·simp
 cases h2:dt s.Op
 ·simp
 cases h3:(decide (0≤s.Start)&&decide (s.Start≤1099511627776))
 ·simp[h3]
 cases h4:(decide (0≤s.Dur)&&decide (s.Dur≤1073741824))
 ·simp only[Bool.not_true,Bool.false_eq_true,if_false,Bool.not_false,if_true,Option.bind_some,Sum.elim_inr,Bool.true_and,h3]
  rw[h4];rfl
 by_cases h7:s.Attrs.length≤4
 case neg=>
  simp only[Bool.not_true,Bool.false_eq_true,if_false,ay (by omega:(4:Int)<(s.Attrs.length:Int)),if_true,Option.bind_some,Sum.elim_inr,aw h7,Bool.and_false,Bool.false_and]
 simp only[Bool.not_true,Bool.false_eq_true,if_false,aw (by omega:¬(4:Int)<(s.Attrs.length:Int)),Option.bind_some,Sum.elim_inl,ay h7,Bool.and_true,Bool.true_and,h3]
 rw[show(decide (0≤s.Dur)&&decide (s.Dur≤1073741824))=true from h4,Bool.true_and]
 have hin:∀(k:Nat) (hk:k<s.Attrs.length),s9 s (k:Int)=some (if(s.Attrs.take k).any (fun x=>decide (x.Key=s.Attrs[k].Key))then .inr false else .inl ((k+1:Nat):Int)):=by
  intro k hk
  rw[s9]
  have:=mq (body:=fun(q:Int)=>oe s (k:Int) q) (l:=s.Attrs.take k) (fun x=>decide (x.Key=s.Attrs[k].Key)) (fun j=>(j:Int)) (.inl ((k+1:Nat):Int)) (.inr false) (by simp;omega) (fun j hj hb hj2=>by
    have hjk:j<k:=by simp at hj;omega
    have hjl:j<s.Attrs.length:=by omega
    rw[List.getElem_take]at hj2
    simp only[oe,ay (by omega:(j:Int)<(k:Int)),if_true,aD (by omega:(0:Int)≤(j:Int)),aD (by omega:(0:Int)≤(k:Int)),Int.toNat_natCast,List.getElem?_eq_getElem hjl,List.getElem?_eq_getElem hk,Option.bind_some,ea,hj2,Bool.false_eq_true,if_false,cw (by omega:j<1099511627776)]) (fun j hj hb hj2=>by
    have hjk:j<k:=by simp at hj;omega
    have hjl:j<s.Attrs.length:=by omega
    rw[List.getElem_take]at hj2
    simp only[oe,ay (by omega:(j:Int)<(k:Int)),if_true,aD (by omega:(0:Int)≤(j:Int)),aD (by omega:(0:Int)≤(k:Int)),Int.toNat_natCast,List.getElem?_eq_getElem hjl,List.getElem?_eq_getElem hk,Option.bind_some,ea,hj2]) (fun hb=>by
    have:(s.Attrs.take k).length=k:=by simp;omega
    simp only[this,oe,aw (by omega:¬(k:Int)<(k:Int)),Bool.false_eq_true,if_false,cw (by omega:k<1099511627776)])
  exact this
 rw[wz]
 have hloop:=mq (body:=fun(q:Int)=>og s q) (l:=List.range s.Attrs.length) (iE s.Attrs) (fun k=>(k:Int)) true false (by simp;omega) (fun k hk hb hk2=>by
   have hk':k<s.Attrs.length:=by simpa using hk
   rw[List.getElem_range]at hk2
   simp only[iE,List.getElem?_eq_getElem hk',Bool.or_eq_false_iff,Bool.not_eq_false']at hk2
   simp only[og,ay (by omega:(k:Int)<(s.Attrs.length:Int)),if_true,aD (by omega:(0:Int)≤(k:Int)),Int.toNat_natCast,List.getElem?_eq_getElem hk',Option.bind_some,u7,hk2.1.1,Bool.not_true,Bool.false_eq_true,if_false]
   rw[aw (by have:=of_decide_eq_false hk2.1.2;omega)]
   simp only[Bool.false_eq_true,if_false,Option.bind_some,Sum.elim_inl,hin k hk',hk2.2]) (fun k hk hb hk2=>by
   have hk':k<s.Attrs.length:=by simpa using hk
   rw[List.getElem_range]at hk2
   simp only[iE,List.getElem?_eq_getElem hk']at hk2
   simp only[og,ay (by omega:(k:Int)<(s.Attrs.length:Int)),if_true,aD (by omega:(0:Int)≤(k:Int)),Int.toNat_natCast,List.getElem?_eq_getElem hk',Option.bind_some,u7]
   cases h1:dt s.Attrs[k].Key with
   | false=>simp
   | true=>
    by_cases h2:16<s.Attrs[k].Value.size
    ·simp only[ay (by omega:(16:Int)<(s.Attrs[k].Value.size:Int)),if_true,Bool.not_true,Bool.false_eq_true,if_false,Option.bind_some,Sum.elim_inr]
    ·rw[h1,aw h2]at hk2
     simp only[Bool.not_true,Bool.false_or]at hk2
     simp only[aw (by omega:¬(16:Int)<(s.Attrs[k].Value.size:Int)),Bool.not_true,Bool.false_eq_true,if_false,Option.bind_some,Sum.elim_inl,hin k hk',hk2,if_true]) (fun hb=>by
   simp only[List.length_range,og,aw (by omega:¬(s.Attrs.length:Int)<(s.Attrs.length:Int)),Bool.false_eq_true,if_false])
 have e0:(((0:Nat):Int))=0:=rfl
 rw[← e0,hloop,r8]
 cases (List.range s.Attrs.length).any (iE s.Attrs)<;>rfl
theorem r9 {s:aL} (h:dR s=true):1≤s.Service.size∧s.Service.size≤16∧s.Op.size≤16∧0≤s.Start∧s.Start≤1099511627776∧0≤s.Dur∧s.Dur≤1073741824∧s.Attrs.length≤4∧∀a∈s.Attrs,a.Key.size≤16∧a.Value.size≤16:=by
 simp only[dR,dt,Bool.and_eq_true,decide_eq_true_eq]at h
 obtain⟨⟨⟨⟨⟨⟨⟨h1,h2⟩,h3⟩,h4⟩,h5⟩,h6⟩,h7⟩,h8⟩:=h
 refine⟨h1.1,h1.2,h2.2,h3,h4,h5,h6,h7,fun a ha=>?_⟩
 obtain⟨i,hi,rfl⟩:=List.getElem_of_mem ha
 have h9:iE s.Attrs i=false:=by
  cases e:iE s.Attrs i with
  | false=>rfl
  | true=>
   have:(List.range s.Attrs.length).any (iE s.Attrs)=true:=List.any_eq_true.2 ⟨i,by simpa using hi,e⟩
   rw[r8,this]at h8;cases h8
 simp only[iE,List.getElem?_eq_getElem hi,Bool.or_eq_false_iff,Bool.not_eq_false',dt,Bool.and_eq_true,decide_eq_true_eq,decide_eq_false_iff_not]at h9
 exact⟨h9.1.1.2,by have:=h9.1.2;omega⟩
def d5 (l:List bf):List UInt8:=l.flatMap fun a=>co a.Key++co a.Value
def ej (s:aL):List UInt8:=
 bP s.Trace.Hi.toNat++(bP s.Trace.Lo.toNat++(bP s.Id.toNat++(bP s.Parent.toNat++(co s.Service++(co s.Op++(bP s.Start.toNat++(bP s.Dur.toNat++(bP (df s.Err).toNat++(bP s.Attrs.length++d5 s.Attrs)))))))))
def i8 (s:aL):Prop:=cI s.Trace.Hi∧cI s.Trace.Lo∧cI s.Id∧cI s.Parent
theorem D6 (a b:List bf):d5 (a++b)=d5 a++d5 b:=by simp[d5]
theorem u9:∀(l:List bf),(∀a∈l,a.Key.size≤16∧a.Value.size≤16)→(d5 l).length≤52*l.length
 | [],_=>by simp[d5]
 | a :: l,h=>by
  have h1:=h a List.mem_cons_self
  have h2:=u9 l fun m hm=>h m (List.mem_cons_of_mem _ hm)
  have h3:=jW a.Key (by omega)
  have h4:=jW a.Value (by omega)
  simp only[d5,List.flatMap_cons,List.length_append,List.length_cons]at h2 ⊢;omega
theorem nB (b:Bool):0≤df b∧df b≤1:=by unfold df;split<;>omega
theorem gG {n:Int} (h:n<18446744073709551616):(bP n.toNat).length≤10:=ib (by omega)
theorem JP {s:aL} (hw:i8 s) (h:dR s=true):(ej s).length≤400:=by
 obtain⟨h1,h2,h3,h4,h5,h6,h7,h8,h9⟩:=r9 h
 obtain⟨w1,w2,w3,w4⟩:=hw
 have a1:=gG w1.2
 have a2:=gG w2.2
 have a3:=gG w3.2
 have a4:=gG w4.2
 have a5:=jW s.Service (by omega)
 have a6:=jW s.Op (by omega)
 have a7:=gG (n:=s.Start) (by omega)
 have a8:=gG (n:=s.Dur) (by omega)
 have a9:=gG (n:=df s.Err) (by have:=(nB s.Err).2;omega)
 have b1:=ib (n:=s.Attrs.length) (by omega)
 have b2:=u9 s.Attrs h9
 simp only[ej,List.length_append];omega
theorem JQ (s:aL):0<(ej s).length:=by
 have:=gC s.Trace.Hi.toNat
 simp only[ej,List.length_append];omega
theorem JR (w:aE) (s:aL) (hw:i8 s) (h:dR s=true) (hl:w.B.length≤1000000000):wy w s=some ⟨w.B++ej s⟩:=by
 obtain⟨h1,h2,h3,h4,h5,h6,h7,h8,h9⟩:=r9 h
 obtain⟨w1,w2,w3,w4⟩:=hw
 have u4:∀n∈[s.Trace.Hi,s.Trace.Lo,s.Id,s.Parent],cI n:=fun n hn=>by
  simp only[List.mem_cons,List.not_mem_nil,or_false]at hn
  rcases hn with rfl | rfl | rfl | rfl<;>assumption
 have t2:∀x∈[s.Service,s.Op],x.size≤16:=fun x hx=>by
  simp only[List.mem_cons,List.not_mem_nil,or_false]at hx
  rcases hx with rfl | rfl<;>omega
 have n2:∀n∈[s.Start,s.Dur],0≤n∧n<9223372036854775808:=fun n hn=>by
  simp only[List.mem_cons,List.not_mem_nil,or_false]at hn
  rcases hn with rfl | rfl<;>omega
 have l1:=ie _ u4
 have l2:=uX _ 16 (by omega) t2
 have l3:=ie [s.Start,s.Dur] fun n hn=>⟨(n2 n hn).1,by have:=(n2 n hn).2;omega⟩
 have l4:=ie [df s.Err] fun n hn=>by rw[List.mem_singleton.1 hn];exact⟨(nB _).1,by have:=(nB s.Err).2;omega⟩
 have l5:=ie [(s.Attrs.length:Int)] fun n hn=>by rw[List.mem_singleton.1 hn];exact⟨by omega,by omega⟩
 simp only[List.length_cons,List.length_nil]at l1 l2 l3 l4 l5
 rw[wy,rR _ _ u4 (by simp only[List.length_cons,List.length_nil];omega),Option.bind_some,
  pe _ _ 16 (by omega) t2 (by simp only[List.length_cons,List.length_nil,List.length_append];omega),Option.bind_some,
  gn _ _ n2 (by simp only[List.length_cons,List.length_nil,List.length_append];omega),Option.bind_some,
  yt _ _ (by simp only[List.length_append];omega),Option.bind_some,
  gn _ _ (fun n hn=>by rw[List.mem_singleton.1 hn];omega) (by simp only[List.length_cons,List.length_nil,List.length_append];omega),Option.bind_some]
 dsimp only
 have hB:w.B++ej s=(w.B++bC [s.Trace.Hi,s.Trace.Lo,s.Id,s.Parent]++dA [s.Service,s.Op]++bC [s.Start,s.Dur]++bC [df s.Err]++bC [(s.Attrs.length:Int)])++d5 s.Attrs:=by
  simp[ej,bC,dA]
 rw[hB]
 generalize hC:w.B++bC [s.Trace.Hi,s.Trace.Lo,s.Id,s.Parent]++dA [s.Service,s.Op]++bC [s.Start,s.Dur]++bC [df s.Err]++bC [(s.Attrs.length:Int)]=C
 have hCl:C.length≤1000001000:=by rw[← hC];simp only[List.length_append];omega
 refine fd (l:=s.Attrs) (fun k r q=>q=(C++d5 (s.Attrs.take k),(k:Int))∧r=⟨C++d5 s.Attrs⟩) (by omega) ?_ ?_ ⟨by simp[d5],rfl⟩
 ·rintro k hk r q ⟨rfl,rfl⟩
  have hm:=h9 s.Attrs[k] (List.getElem_mem hk)
  have hle:=u9 (s.Attrs.take k) fun y hy=>h9 y (List.mem_of_mem_take hy)
  have hle2:(s.Attrs.take k).length≤4:=by simp;omega
  refine .inl ⟨(C++d5 (s.Attrs.take (k+1)),((k+1:Nat):Int)),?_,rfl,rfl⟩
  simp only[s7,ay (by omega:(k:Int)<(s.Attrs.length:Int)),if_true,aD (by omega:(0:Int)≤(k:Int)),Int.toNat_natCast,List.getElem?_eq_getElem hk,Option.bind_some]
  rw[pe _ _ 16 (by omega) (fun x hx=>by
   simp only[List.mem_cons,List.not_mem_nil,or_false]at hx
   rcases hx with rfl | rfl<;>omega) (by simp only[List.length_cons,List.length_nil,List.length_append];omega),Option.bind_some,cw (by omega),List.take_succ_eq_append_getElem hk,D6,List.append_assoc]
  simp[d5,dA]
 ·rintro r q ⟨rfl,rfl⟩
  simp only[s7,aw (by omega:¬(s.Attrs.length:Int)<(s.Attrs.length:Int)),Bool.false_eq_true,if_false,List.take_length]
def QO (s:aL):List UInt8:=if dR s=true then ej s else[]
theorem JS (b:List UInt8) (s:aL) (hw:i8 s) (h:dR s=true) (hl:b.length≤1000000000):wA b s=some (b++ej s):=by
 obtain⟨h1,h2,h3,h4,h5,h6,h7,h8,h9⟩:=r9 h
 obtain⟨w1,w2,w3,w4⟩:=hw
 have pI:∀(c:List UInt8) (n:Int),cI n→c.length≤1099511627700→dm c n=some (c++bP n.toNat):=fun c n hn hc=>by
  obtain⟨m,rfl⟩:=Int.eq_ofNat_of_zero_le hn.1
  exact uS c m (by have:=hn.2;omega) hc
 have l1:=gG w1.2
 have l2:=gG w2.2
 have l3:=gG w3.2
 have l4:=gG w4.2
 have l5:=jW s.Service (by omega)
 have l6:=jW s.Op (by omega)
 have l7:=gG (n:=s.Start) (by omega)
 have l8:=gG (n:=s.Dur) (by omega)
 have hb:=nB s.Err
 have l9:=gG (n:=df s.Err) (by omega)
 have m1:=gG (n:=(s.Attrs.length:Int)) (by omega)
 have hbit:mP s.Err=some (df s.Err):=by unfold mP df;cases s.Err<;>rfl
 simp only[Int.toNat_natCast]at m1
 rw[wA,pI _ _ w1 (by omega),Option.bind_some,pI _ _ w2 (by simp only[List.length_append];omega),Option.bind_some,pI _ _ w3 (by simp only[List.length_append];omega),Option.bind_some,pI _ _ w4 (by simp only[List.length_append];omega),Option.bind_some,
  ns _ _ (by simp only[List.length_append];omega) (by omega),Option.bind_some,ns _ _ (by simp only[List.length_append];omega) (by omega),Option.bind_some,
  fL h4 (by omega),pI _ _ ⟨h4,by omega⟩ (by simp only[List.length_append];omega),Option.bind_some,fL h6 (by omega),pI _ _ ⟨h6,by omega⟩ (by simp only[List.length_append];omega),Option.bind_some,
  hbit,Option.bind_some,pI _ _ ⟨hb.1,by omega⟩ (by simp only[List.length_append];omega),Option.bind_some,fL (by omega) (by omega),pI _ _ ⟨by omega,by omega⟩ (by simp only[List.length_append];omega),Option.bind_some]
 have hB:b++ej s=(b++bP s.Trace.Hi.toNat++bP s.Trace.Lo.toNat++bP s.Id.toNat++bP s.Parent.toNat++co s.Service++co s.Op++bP s.Start.toNat++bP s.Dur.toNat++bP (df s.Err).toNat++bP (Int.toNat (s.Attrs.length:Int)))++d5 s.Attrs:=by
  simp[ej]
 rw[hB]
 generalize hC:b++bP s.Trace.Hi.toNat++bP s.Trace.Lo.toNat++bP s.Id.toNat++bP s.Parent.toNat++co s.Service++co s.Op++bP s.Start.toNat++bP s.Dur.toNat++bP (df s.Err).toNat++bP (Int.toNat (s.Attrs.length:Int))=C
 have hCl:C.length≤1000001000:=by rw[← hC];simp only[List.length_append,Int.toNat_natCast];omega
 refine fd (l:=s.Attrs) (fun k r q=>q=(C++d5 (s.Attrs.take k),(k:Int))∧r=C++d5 s.Attrs) (by omega) ?_ ?_ ⟨by simp[d5],rfl⟩
 ·rintro k hk r q ⟨rfl,rfl⟩
  have hm:=h9 s.Attrs[k] (List.getElem_mem hk)
  have hle:=u9 (s.Attrs.take k) fun y hy=>h9 y (List.mem_of_mem_take hy)
  have hle2:(s.Attrs.take k).length≤4:=by simp;omega
  have hk1:=jW s.Attrs[k].Key (by omega)
  refine .inl ⟨(C++d5 (s.Attrs.take (k+1)),((k+1:Nat):Int)),?_,rfl,rfl⟩
  simp only[tc,ay (by omega:(k:Int)<(s.Attrs.length:Int)),if_true,aD (by omega:(0:Int)≤(k:Int)),Int.toNat_natCast,List.getElem?_eq_getElem hk,Option.bind_some]
  rw[ns _ _ (by simp only[List.length_append];omega) (by omega),Option.bind_some,ns _ _ (by simp only[List.length_append];omega) (by omega),Option.bind_some,cw (by omega),List.take_succ_eq_append_getElem hk,D6,List.append_assoc]
  simp[d5]
 ·rintro r q ⟨rfl,rfl⟩
  simp only[tc,aw (by omega:¬(s.Attrs.length:Int)<(s.Attrs.length:Int)),Bool.false_eq_true,if_false,List.take_length]
end Go.Proofs.YtjklegmimpehlaaGreat.Ab
namespace Go.Proofs.YtjklegmimpehlaaGreat.Ab
open Go Go.RowKit
set_option linter.unusedVariables false
set_option linter.unusedSimpArgs false
def eD:Nat→List UInt8→Option (List bf×List UInt8)
 | 0,b=>some ([],b)
 | k+1,b=>match pT b with
  | none=>none
  | some (x,b1)=>match pT b1 with
   | none=>none
   | some (v,b2)=>match eD k b2 with
    | none=>none
    | some (l,r)=>some (⟨x,v⟩ :: l,r)
def fY (b0:List UInt8):Option (aL×List UInt8):=match pW b0 with
 | none=>none
 | some (hi,b1)=>match pW b1 with
  | none=>none
  | some (lo,b2)=>match pW b2 with
   | none=>none
   | some (id,b3)=>match pW b3 with
    | none=>none
    | some (pa,b4)=>match pT b4 with
     | none=>none
     | some (sv,b5)=>match pT b5 with
      | none=>none
      | some (op,b6)=>match dC 1099511627776 b6 with
       | none=>none
       | some (st,b7)=>match dC 1073741824 b7 with
        | none=>none
        | some (du,b8)=>match dC 1 b8 with
         | none=>none
         | some (er,b9)=>match dC 4 b9 with
          | none=>none
          | some (n,b10)=>match eD n.toNat b10 with
           | none=>none
           | some (l,r)=>some (⟨⟨hi,lo⟩,id,pa,sv,op,st,du,er == 1,l⟩,r)
theorem yF {n:Int} (h0:0≤n) (h1:n≤1):df (n == 1)=n:=by
 have:n=0∨n=1:=by omega
 rcases this with rfl | rfl<;>rfl
theorem yG (b:Bool):(df b == 1)=b:=by cases b<;>rfl
theorem D7:∀(k:Nat) (b r:List UInt8) (l:List bf),eD k b=some (l,r)→l.length=k∧b=d5 l++r
 | 0,b,r,l,h=>by
  simp only[eD,Option.some.injEq,Prod.mk.injEq]at h
  obtain⟨rfl,rfl⟩:=h
  exact⟨rfl,by simp[d5]⟩
 | k+1,b,r,l,h=>by
  simp only[eD]at h
  split at h
  ·cases h
  ·rename_i x b1 h1
   split at h
   ·cases h
   ·rename_i v b2 h2
    split at h
    ·cases h
    ·rename_i l2 r2 h3
     simp only[Option.some.injEq,Prod.mk.injEq]at h
     obtain⟨rfl,rfl⟩:=h
     obtain⟨h4,h5⟩:=D7 k _ _ _ h3
     refine⟨by simp[h4],?_⟩
     rw[eU h1,eU h2,h5]
     simp[d5]
theorem D8:∀(l:List bf) (r:List UInt8),(∀a∈l,a.Key.size≤16∧a.Value.size≤16)→eD l.length (d5 l++r)=some (l,r)
 | [],r,_=>by simp[eD,d5]
 | a :: l,r,h=>by
  have h1:=h a List.mem_cons_self
  have e:d5 (a :: l)++r=co a.Key++(co a.Value++(d5 l++r)):=by simp[d5]
  simp only[List.length_cons,eD,e,mx a.Key (by omega),mx a.Value (by omega),D8 l r fun x hx=>h x (List.mem_cons_of_mem _ hx)]
theorem yH {b r:List UInt8} {s:aL} (h:fY b=some (s,r)):i8 s∧s.Attrs.length≤4∧b=ej s++r:=by
 unfold fY at h
 split at h
 ·cases h
 rename_i hi b1 h1
 split at h
 ·cases h
 rename_i lo b2 h2
 split at h
 ·cases h
 rename_i id b3 h3
 split at h
 ·cases h
 rename_i pa b4 h4
 split at h
 ·cases h
 rename_i sv b5 h5
 split at h
 ·cases h
 rename_i op b6 h6
 split at h
 ·cases h
 rename_i st b7 h7
 split at h
 ·cases h
 rename_i du b8 h8
 split at h
 ·cases h
 rename_i er b9 h9
 split at h
 ·cases h
 rename_i n b10 h10
 split at h
 ·cases h
 rename_i l r' h11
 simp only[Option.some.injEq,Prod.mk.injEq]at h
 obtain⟨rfl,rfl⟩:=h
 have k1:=fe h1
 have k2:=fe h2
 have k3:=fe h3
 have k4:=fe h4
 have k5:=eU h5
 have k6:=eU h6
 have k7:=ed h7
 have k8:=ed h8
 have k9:=ed h9
 have k10:=ed h10
 have k11:=D7 _ _ _ _ h11
 have hn:=k10.1.1
 refine⟨⟨k1.1,k2.1,k3.1,k4.1⟩,by show l.length≤4;rw[k11.1];have:=k10.2.1;omega,?_⟩
 rw[k1.2,k2.2,k3.2,k4.2,k5,k6,k7.2.2,k8.2.2,k9.2.2,k10.2.2,k11.2]
 simp only[ej,yF k9.1.1 k9.2.1,k11.1,List.append_assoc]
theorem JT {s:aL} (hw:i8 s) (h:dR s=true) (r:List UInt8):fY (ej s++r)=some (s,r):=by
 obtain⟨h1,h2,h3,h4,h5,h6,h7,h8,h9⟩:=r9 h
 obtain⟨w1,w2,w3,w4⟩:=hw
 have hb:=nB s.Err
 have hn:bP s.Attrs.length=bP (Int.toNat (s.Attrs.length:Int)):=by simp
 unfold fY
 simp only[ej,List.append_assoc,mu w1,mu w2,mu w3,mu w4,mx s.Service (by omega),mx s.Op (by omega),mw h4 h5 (by omega),mw h6 h7 (by omega),mw hb.1 hb.2 (by omega),hn,mw (n:=(s.Attrs.length:Int)) (top:=4) (by omega) (by omega) (by omega)]
 simp only[Int.toNat_natCast,D8 s.Attrs r h9,yG]
theorem yI {l:List bf} (h:l.length≤100):l.length*32≤140737488355328∧l.length≤140737488355328:=by omega
theorem D9 (x:Int×Z) (acc:List bf):∀(m i N:Nat),(i:Int)+m=x.1→m<N→acc.length+m≤50→i+m≤50 →
  ∃acc',am (fun(s:List UInt8×Bool×List bf×Int)=>gv x s.1 s.2.1 s.2.2.1 s.2.2.2) N ([],true,acc,(i:Int))=some ([],true,acc'):=by
 intro m
 induction m generalizing acc with
 | zero=>
  intro i N hi hN _ _
  obtain⟨N',rfl⟩:∃N',N=N'+1:=⟨N-1,by omega⟩
  exact⟨acc,eC (by simp only[gv,aw (by omega:¬(i:Int)<x.1),Bool.false_eq_true,if_false])⟩
 | succ m ih=>
  intro i N hi hN ha hi2
  obtain⟨N',rfl⟩:∃N',N=N'+1:=⟨N-1,by omega⟩
  obtain⟨acc',h⟩:=ih (acc++[⟨aa [],aa []⟩]) (i+1) N' (by omega) (by omega) (by simp;omega) (by omega)
  refine⟨acc',?_⟩
  rw[eb (s':=([],true,acc++[⟨aa [],aa []⟩],((i+1:Nat):Int)))]
  ·exact h
  ·simp only[gv,ay (by omega:(i:Int)<x.1),if_true,iB,Option.bind_some]
   rw[aD (yI (by simp;omega)),cw (by omega)]
theorem JU (x:Int×Z):∀(m i N:Nat) (b:List UInt8) (acc:List bf),(i:Int)+m=x.1→m<N→acc.length+m≤50→i+m≤50→b.length≤1099511627776 →
  (∀l r,eD m b=some (l,r)→am (fun(s:List UInt8×Bool×List bf×Int)=>gv x s.1 s.2.1 s.2.2.1 s.2.2.2) N (b,false,acc,(i:Int))=some (r,false,acc++l)) ∧
  (eD m b=none→∃acc',am (fun(s:List UInt8×Bool×List bf×Int)=>gv x s.1 s.2.1 s.2.2.1 s.2.2.2) N (b,false,acc,(i:Int))=some ([],true,acc')):=by
 intro m
 induction m with
 | zero=>
  intro i N b acc hi hN _ _ _
  obtain⟨N',rfl⟩:∃N',N=N'+1:=⟨N-1,by omega⟩
  refine⟨fun l r h=>?_,fun h=>by cases h⟩
  simp only[eD,Option.some.injEq,Prod.mk.injEq]at h
  obtain⟨rfl,rfl⟩:=h
  exact eC (by simp only[gv,aw (by omega:¬(i:Int)<x.1),Bool.false_eq_true,if_false,List.append_nil])
 | succ m ih=>
  intro i N b acc hi hN ha hi2 hb
  obtain⟨N',rfl⟩:∃N',N=N'+1:=⟨N-1,by omega⟩
  have hfit:∀a:bf,(acc++[a]).length*32≤140737488355328∧(acc++[a]).length≤140737488355328:=fun a=>yI (by simp;omega)
  cases h1:pT b with
  | none=>
   refine⟨fun l r h=>by simp[eD,h1]at h,fun _=>?_⟩
   obtain⟨acc',h⟩:=D9 x (acc++[⟨aa [],aa []⟩]) m (i+1) N' (by omega) (by omega) (by simp;omega) (by omega)
   refine⟨acc',?_⟩
   rw[eb (s':=([],true,acc++[⟨aa [],aa []⟩],((i+1:Nat):Int)))]
   ·exact h
   ·simp only[gv,ay (by omega:(i:Int)<x.1),if_true,nu hb h1,Option.bind_some,iB,aD (hfit _),cw (by omega:i<1099511627776)]
  | some p=>
   obtain⟨k,b1⟩:=p
   have hb1:=cU (eU h1) hb
   cases h2:pT b1 with
   | none=>
    refine⟨fun l r h=>by simp[eD,h1,h2]at h,fun _=>?_⟩
    obtain⟨acc',h⟩:=D9 x (acc++[⟨k,aa []⟩]) m (i+1) N' (by omega) (by omega) (by simp;omega) (by omega)
    refine⟨acc',?_⟩
    rw[eb (s':=([],true,acc++[⟨k,aa []⟩],((i+1:Nat):Int)))]
    ·exact h
    ·simp only[gv,ay (by omega:(i:Int)<x.1),if_true,fm hb h1,Option.bind_some,nu hb1 h2,aD (hfit _),cw (by omega:i<1099511627776)]
   | some p=>
    obtain⟨v,b2⟩:=p
    have hb2:=cU (eU h2) hb1
    have hstep:am (fun(s:List UInt8×Bool×List bf×Int)=>gv x s.1 s.2.1 s.2.2.1 s.2.2.2) (N'+1) (b,false,acc,(i:Int))=am (fun(s:List UInt8×Bool×List bf×Int)=>gv x s.1 s.2.1 s.2.2.1 s.2.2.2) N' (b2,false,acc++[⟨k,v⟩],((i+1:Nat):Int)):=
     eb (by simp only[gv,ay (by omega:(i:Int)<x.1),if_true,fm hb h1,Option.bind_some,fm hb1 h2,aD (hfit _),cw (by omega:i<1099511627776)])
    obtain⟨g1,g2⟩:=ih (i+1) N' b2 (acc++[⟨k,v⟩]) (by omega) (by omega) (by simp;omega) (by omega) hb2
    rw[hstep]
    refine⟨fun l r h=>?_,fun h=>?_⟩
    ·simp only[eD,h1,h2]at h
     split at h
     ·cases h
     ·rename_i l2 r2 h3
      simp only[Option.some.injEq,Prod.mk.injEq]at h
      obtain⟨rfl,rfl⟩:=h
      rw[g1 _ _ h3];simp
    ·simp only[eD,h1,h2]at h
     split at h
     ·rename_i h3;exact g2 h3
     ·cases h
theorem i9 (x4 x6 x8 x10:Int×Z) (x12 x14:ByteArray×Z) (x16 x18:Int×Z) (x20:Bool×Z) (acc:List bf):∃s,s8 x4 x6 x8 x10 x12 x14 x16 x18 x20 [] true acc=some (s,⟨[],true⟩):=by
 simp only[s8,if_true]
 exact⟨_,rfl⟩
theorem jY (q:Z) (B:List UInt8) (f:Bool) (acc:List bf):am (fun(s:List UInt8×Bool×List bf×Int)=>gv ((0:Int),q) s.1 s.2.1 s.2.2.1 s.2.2.2) Fu (B,f,acc,0)=some (B,f,acc):=
 uW (by simp only[gv,aw (by omega:¬(0:Int)<0),Bool.false_eq_true,if_false])
theorem Ea (b:List UInt8) (hb:b.length≤1099511627776):match fY b with
  | none=>∃s,eF ⟨b,false⟩=some (s,⟨[],true⟩)
  | some (s,r)=>eF ⟨b,false⟩=some (s,⟨r,!dR s⟩):=by
 have T1:(0:Int)≤1099511627776:=by omega
 have T2:(1099511627776:Int)<9223372036854775808:=by omega
 have T3:(0:Int)≤1073741824:=by omega
 have T4:(1073741824:Int)<9223372036854775808:=by omega
 have T5:(0:Int)≤4:=by omega
 have T6:(4:Int)<9223372036854775808:=by omega
 unfold fY
 cases h1:pW b with
 | none=>simp only[eF,my hb h1,i7,iB,dY T1 T2,dY T3 T4,dY T5 T6,lC,Option.bind_some,jY];exact i9 _ _ _ _ _ _ _ _ _ _
 | some p=>
 obtain⟨hi,b1⟩:=p
 have hb1:=cU (fe h1).2 hb
 dsimp only
 cases h2:pW b1 with
 | none=>simp only[eF,cO hb h1,my hb1 h2,i7,iB,dY T1 T2,dY T3 T4,dY T5 T6,lC,Option.bind_some,jY];exact i9 _ _ _ _ _ _ _ _ _ _
 | some p=>
 obtain⟨lo,b2⟩:=p
 have hb2:=cU (fe h2).2 hb1
 dsimp only
 cases h3:pW b2 with
 | none=>simp only[eF,cO hb h1,cO hb1 h2,my hb2 h3,i7,iB,dY T1 T2,dY T3 T4,dY T5 T6,lC,Option.bind_some,jY];exact i9 _ _ _ _ _ _ _ _ _ _
 | some p=>
 obtain⟨id,b3⟩:=p
 have hb3:=cU (fe h3).2 hb2
 dsimp only
 cases h4:pW b3 with
 | none=>simp only[eF,cO hb h1,cO hb1 h2,cO hb2 h3,my hb3 h4,i7,iB,dY T1 T2,dY T3 T4,dY T5 T6,lC,Option.bind_some,jY];exact i9 _ _ _ _ _ _ _ _ _ _
 | some p=>
 obtain⟨pa,b4⟩:=p
 have hb4:=cU (fe h4).2 hb3
 dsimp only
 cases h5:pT b4 with
 | none=>simp only[eF,cO hb h1,cO hb1 h2,cO hb2 h3,cO hb3 h4,nu hb4 h5,i7,iB,dY T1 T2,dY T3 T4,dY T5 T6,lC,Option.bind_some,jY];exact i9 _ _ _ _ _ _ _ _ _ _
 | some p=>
 obtain⟨sv,b5⟩:=p
 have hb5:=cU (eU h5) hb4
 dsimp only
 cases h6:pT b5 with
 | none=>simp only[eF,cO hb h1,cO hb1 h2,cO hb2 h3,cO hb3 h4,fm hb4 h5,nu hb5 h6,i7,iB,dY T1 T2,dY T3 T4,dY T5 T6,lC,Option.bind_some,jY];exact i9 _ _ _ _ _ _ _ _ _ _
 | some p=>
 obtain⟨op,b6⟩:=p
 have hb6:=cU (eU h6) hb5
 dsimp only
 cases h7:dC 1099511627776 b6 with
 | none=>simp only[eF,cO hb h1,cO hb1 h2,cO hb2 h3,cO hb3 h4,fm hb4 h5,fm hb5 h6,nt T1 T2 hb6 h7,i7,iB,dY T1 T2,dY T3 T4,dY T5 T6,lC,Option.bind_some,jY];exact i9 _ _ _ _ _ _ _ _ _ _
 | some p=>
 obtain⟨st,b7⟩:=p
 have hb7:=cU (ed h7).2.2 hb6
 dsimp only
 cases h8:dC 1073741824 b7 with
 | none=>simp only[eF,cO hb h1,cO hb1 h2,cO hb2 h3,cO hb3 h4,fm hb4 h5,fm hb5 h6,gD T1 T2 hb6 h7,nt T3 T4 hb7 h8,i7,iB,dY T1 T2,dY T3 T4,dY T5 T6,lC,Option.bind_some,jY];exact i9 _ _ _ _ _ _ _ _ _ _
 | some p=>
 obtain⟨du,b8⟩:=p
 have hb8:=cU (ed h8).2.2 hb7
 dsimp only
 cases h9:dC 1 b8 with
 | none=>simp only[eF,cO hb h1,cO hb1 h2,cO hb2 h3,cO hb3 h4,fm hb4 h5,fm hb5 h6,gD T1 T2 hb6 h7,gD T3 T4 hb7 h8,Jm hb8 h9,i7,iB,dY T5 T6,Option.bind_some,jY];exact i9 _ _ _ _ _ _ _ _ _ _
 | some p=>
 obtain⟨er,b9⟩:=p
 have hb9:=cU (ed h9).2.2 hb8
 dsimp only
 cases h10:dC 4 b9 with
 | none=>simp only[eF,cO hb h1,cO hb1 h2,cO hb2 h3,cO hb3 h4,fm hb4 h5,fm hb5 h6,gD T1 T2 hb6 h7,gD T3 T4 hb7 h8,yv hb8 h9,nt T5 T6 hb9 h10,Option.bind_some,jY];exact i9 _ _ _ _ _ _ _ _ _ _
 | some p=>
 obtain⟨n,b10⟩:=p
 have hn:=ed h10
 have hb10:=cU hn.2.2 hb9
 dsimp only
 obtain⟨n',rfl⟩:=Int.eq_ofNat_of_zero_le hn.1.1
 have hn4:n'≤4:=by have:=hn.2.1;omega
 obtain⟨g1,g2⟩:=JU ((n':Int),⟨b10,false⟩) n' 0 Fu b10 [] (by simp) (by rw[kI];omega) (by simp;omega) (by omega) hb10
 simp only[Int.toNat_natCast]
 cases h11:eD n' b10 with
 | none=>
  obtain⟨acc,hg⟩:=g2 h11
  simp only[Int.natCast_zero]at hg
  simp only[eF,cO hb h1,cO hb1 h2,cO hb2 h3,cO hb3 h4,fm hb4 h5,fm hb5 h6,gD T1 T2 hb6 h7,gD T3 T4 hb7 h8,yv hb8 h9,gD T5 T6 hb9 h10,Option.bind_some]
  rw[hg,Option.bind_some]
  exact i9 _ _ _ _ _ _ _ _ _ _
 | some p=>
  obtain⟨l,r⟩:=p
  have hg:=g1 _ _ h11
  simp only[Int.natCast_zero]at hg
  simp only[eF,cO hb h1,cO hb1 h2,cO hb2 h3,cO hb3 h4,fm hb4 h5,fm hb5 h6,gD T1 T2 hb6 h7,gD T3 T4 hb7 h8,yv hb8 h9,gD T5 T6 hb9 h10,Option.bind_some]
  rw[hg,Option.bind_some]
  simp only[s8,Bool.false_eq_true,if_false,List.nil_append,D5,Option.bind_some]
theorem Eb {b r:List UInt8} {s:aL} (hb:b.length≤1099511627776) (h:fY b=some (s,r)):eF ⟨b,false⟩=some (s,⟨r,!dR s⟩):=by
 have:=Ea b hb;rw[h]at this;exact this
theorem JV {b:List UInt8} (hb:b.length≤1099511627776) (h:fY b=none):∃s,eF ⟨b,false⟩=some (s,⟨[],true⟩):=by
 have:=Ea b hb;rw[h]at this;exact this
theorem vf {b:List UInt8} (hl:b.length≤1099511627776):fF ⟨b,true⟩=some (0,⟨[],true⟩):=by
 simp only[fF,uT b (by omega),Option.bind_some,if_true,qc,Sum.elim_inr]
theorem JW {b:List UInt8} (hl:b.length≤1099511627776):∃s,eF ⟨b,true⟩=some (s,⟨[],true⟩):=by
 have T1:(0:Int)≤1099511627776:=by omega
 have T2:(1099511627776:Int)<9223372036854775808:=by omega
 have T3:(0:Int)≤1073741824:=by omega
 have T4:(1073741824:Int)<9223372036854775808:=by omega
 have T5:(0:Int)≤4:=by omega
 have T6:(4:Int)<9223372036854775808:=by omega
 simp only[eF,vf hl,i7,iB,dY T1 T2,dY T3 T4,dY T5 T6,lC,Option.bind_some,jY]
 exact i9 _ _ _ _ _ _ _ _ _ _
def jZ (b:List UInt8):Option (aL×List UInt8):=match fY b with | none=>none | some (s,r)=>if dR s=true then some (s,r)else none
def JX:aL:=⟨⟨0,0⟩,0,0,aa [],aa [],0,0,false,[]⟩
def QP (b:List UInt8):aL×Int×Int:=match jZ b with | none=>(JX,0,2) | some (s,r)=>(s,((b.length-r.length:Nat):Int),0)
theorem Ec {s:aL} (hw:i8 s) (h:dR s=true) (r:List UInt8):jZ (ej s++r)=some (s,r):=by
 simp only[jZ,JT hw h r,h,if_true]
theorem pm {b r:List UInt8} {s:aL} (h:jZ b=some (s,r)):i8 s∧dR s=true∧b=ej s++r:=by
 unfold jZ at h
 split at h
 ·cases h
 ·rename_i s' r' hp
  split at h
  ·rename_i hr
   injection h with h;injection h with e1 e2;subst e1 e2
   have:=yH hp
   exact⟨this.1,hr,this.2.2⟩
  ·cases h
theorem JY (x:Int×Z):∀(m i N:Nat) (b:List UInt8) (acc:List bf),(i:Int)+m=x.1→m<N→acc.length+m≤50→i+m≤50→b.length≤1099511627776 →
  (∀l r,eD m b=some (l,r)→am (fun(s:List UInt8×Bool×List bf×Int)=>gM x s.1 s.2.1 s.2.2.1 s.2.2.2) N (b,false,acc,(i:Int))=some (r,false,acc++l)) ∧
  (eD m b=none→∃B acc',B.length≤b.length∧am (fun(s:List UInt8×Bool×List bf×Int)=>gM x s.1 s.2.1 s.2.2.1 s.2.2.2) N (b,false,acc,(i:Int))=some (B,true,acc')):=by
 intro m
 induction m with
 | zero=>
  intro i N b acc hi hN _ _ _
  obtain⟨N',rfl⟩:∃N',N=N'+1:=⟨N-1,by omega⟩
  refine⟨fun l r h=>?_,fun h=>by cases h⟩
  simp only[eD,Option.some.injEq,Prod.mk.injEq]at h
  obtain⟨rfl,rfl⟩:=h
  exact eC (by simp only[gM,aw (by omega:¬(i:Int)<x.1),Bool.false_eq_true,if_false,Option.bind_some,Sum.elim_inr,List.append_nil])
 | succ m ih=>
  intro i N b acc hi hN ha hi2 hb
  obtain⟨N',rfl⟩:∃N',N=N'+1:=⟨N-1,by omega⟩
  have hfit:∀a:bf,(acc++[a]).length*32≤140737488355328∧(acc++[a]).length≤140737488355328:=fun a=>yI (by simp;omega)
  have stop:∀(B:List UInt8) (a:List bf),am (fun(s:List UInt8×Bool×List bf×Int)=>gM x s.1 s.2.1 s.2.2.1 s.2.2.2) N' (B,true,a,((i+1:Nat):Int))=some (B,true,a):=by
   intro B a
   obtain⟨N2,rfl⟩:∃N2,N'=N2+1:=⟨N'-1,by omega⟩
   refine eC ?_
   simp only[gM]
   by_cases h:((i+1:Nat):Int)<x.1
   ·simp only[ay h,if_true,Bool.not_true,Bool.false_eq_true,if_false,Option.bind_some,Sum.elim_inr]
   ·simp only[aw h,Bool.false_eq_true,if_false,Option.bind_some,Sum.elim_inr]
  cases h1:pT b with
  | none=>
   refine⟨fun l r h=>by simp[eD,h1]at h,fun _=>⟨b,acc++[⟨aa [],aa []⟩],Nat.le_refl _,?_⟩⟩
   rw[eb (s':=(b,true,acc++[⟨aa [],aa []⟩],((i+1:Nat):Int)))]
   ·exact stop _ _
   ·simp only[gM,ay (by omega:(i:Int)<x.1),if_true,Bool.not_false,Option.bind_some,Sum.elim_inl,td,ny hb h1,kJ hb,aD (hfit _),cw (by omega:i<1099511627776)]
  | some p=>
   obtain⟨k,b1⟩:=p
   have hb1:=cU (eU h1) hb
   have hbb:=cU (eU h1) (Nat.le_refl b.length)
   cases h2:pT b1 with
   | none=>
    refine⟨fun l r h=>by simp[eD,h1,h2]at h,fun _=>⟨b1,acc++[⟨k,aa []⟩],hbb,?_⟩⟩
    rw[eb (s':=(b1,true,acc++[⟨k,aa []⟩],((i+1:Nat):Int)))]
    ·exact stop _ _
    ·simp only[gM,ay (by omega:(i:Int)<x.1),if_true,Bool.not_false,Option.bind_some,Sum.elim_inl,td,fp hb h1,ny hb1 h2,aD (hfit _),cw (by omega:i<1099511627776)]
   | some p=>
    obtain⟨v,b2⟩:=p
    have hb2:=cU (eU h2) hb1
    have hbb2:=cU (eU h2) (Nat.le_refl b1.length)
    have hstep:am (fun(s:List UInt8×Bool×List bf×Int)=>gM x s.1 s.2.1 s.2.2.1 s.2.2.2) (N'+1) (b,false,acc,(i:Int))=am (fun(s:List UInt8×Bool×List bf×Int)=>gM x s.1 s.2.1 s.2.2.1 s.2.2.2) N' (b2,false,acc++[⟨k,v⟩],((i+1:Nat):Int)):=
     eb (by simp only[gM,ay (by omega:(i:Int)<x.1),if_true,Bool.not_false,Option.bind_some,Sum.elim_inl,td,fp hb h1,fp hb1 h2,aD (hfit _),cw (by omega:i<1099511627776)])
    obtain⟨g1,g2⟩:=ih (i+1) N' b2 (acc++[⟨k,v⟩]) (by omega) (by omega) (by simp;omega) (by omega) hb2
    rw[hstep]
    refine⟨fun l r h=>?_,fun h=>?_⟩
    ·simp only[eD,h1,h2]at h
     split at h
     ·cases h
     ·rename_i l2 r2 h3
      simp only[Option.some.injEq,Prod.mk.injEq]at h
      obtain⟨rfl,rfl⟩:=h
      rw[g1 _ _ h3];simp
    ·simp only[eD,h1,h2]at h
     split at h
     ·rename_i h3
      obtain⟨B,acc',k1,k2⟩:=g2 h3
      exact⟨B,acc',by omega,k2⟩
     ·cases h
theorem j0 (b:List UInt8) (x4 x6 x8 x10:Int×Z) (x12 x14:ByteArray×Z) (x16 x18 x20:Int×Z) (acc:List bf) {m:Nat} (hm:b.length≤m):∃s r,tf x4 x6 x8 x10 x12 x14 x16 x18 x20 b true acc=some (s,r)∧r.Bad=true∧r.B.length≤m:=by
 simp only[tf,if_true]
 exact⟨_,_,rfl,rfl,hm⟩
theorem j6 (q:Z) (B:List UInt8) (f:Bool) (acc:List bf):am (fun(s:List UInt8×Bool×List bf×Int)=>gM ((0:Int),q) s.1 s.2.1 s.2.2.1 s.2.2.2) Fu (B,f,acc,0)=some (B,f,acc):=
 uW (by simp only[gM,aw (by omega:¬(0:Int)<0),Bool.false_eq_true,if_false,Option.bind_some,Sum.elim_inr])
theorem Ed (b:List UInt8) (hb:b.length≤1099511627776):match fY b with
  | none=>∃s r,eO ⟨b,false⟩=some (s,r)∧r.Bad=true∧r.B.length≤b.length
  | some (s,r)=>eO ⟨b,false⟩=some (s,⟨r,!dR s⟩):=by
 have T1:(0:Int)≤1099511627776:=by omega
 have T2:(1099511627776:Int)<9223372036854775808:=by omega
 have T3:(0:Int)≤1073741824:=by omega
 have T4:(1073741824:Int)<9223372036854775808:=by omega
 have T5:(0:Int)≤4:=by omega
 have T6:(4:Int)<9223372036854775808:=by omega
 have T7:(0:Int)≤1:=by omega
 have T8:(1:Int)<9223372036854775808:=by omega
 unfold fY
 cases h1:pW b with
 | none=>simp only[eO,pf hb h1,lD hb,kJ hb,dx T1 T2 hb,dx T3 T4 hb,dx T5 T6 hb,dx T7 T8 hb,Option.bind_some,j6];exact j0 _ _ _ _ _ _ _ _ _ _ _ (Nat.le_refl _)
 | some p=>
 obtain⟨hi,b1⟩:=p
 have hb1:=cU (fe h1).2 hb
 have e1:=cU (fe h1).2 (Nat.le_refl b.length)
 dsimp only
 cases h2:pW b1 with
 | none=>simp only[eO,cV hb h1,pf hb1 h2,lD hb1,kJ hb1,dx T1 T2 hb1,dx T3 T4 hb1,dx T5 T6 hb1,dx T7 T8 hb1,Option.bind_some,j6];exact j0 _ _ _ _ _ _ _ _ _ _ _ e1
 | some p=>
 obtain⟨lo,b2⟩:=p
 have hb2:=cU (fe h2).2 hb1
 have e2:=cU (fe h2).2 e1
 dsimp only
 cases h3:pW b2 with
 | none=>simp only[eO,cV hb h1,cV hb1 h2,pf hb2 h3,lD hb2,kJ hb2,dx T1 T2 hb2,dx T3 T4 hb2,dx T5 T6 hb2,dx T7 T8 hb2,Option.bind_some,j6];exact j0 _ _ _ _ _ _ _ _ _ _ _ e2
 | some p=>
 obtain⟨id,b3⟩:=p
 have hb3:=cU (fe h3).2 hb2
 have e3:=cU (fe h3).2 e2
 dsimp only
 cases h4:pW b3 with
 | none=>simp only[eO,cV hb h1,cV hb1 h2,cV hb2 h3,pf hb3 h4,kJ hb3,dx T1 T2 hb3,dx T3 T4 hb3,dx T5 T6 hb3,dx T7 T8 hb3,Option.bind_some,j6];exact j0 _ _ _ _ _ _ _ _ _ _ _ e3
 | some p=>
 obtain⟨pa,b4⟩:=p
 have hb4:=cU (fe h4).2 hb3
 have e4:=cU (fe h4).2 e3
 dsimp only
 cases h5:pT b4 with
 | none=>simp only[eO,cV hb h1,cV hb1 h2,cV hb2 h3,cV hb3 h4,ny hb4 h5,kJ hb4,dx T1 T2 hb4,dx T3 T4 hb4,dx T5 T6 hb4,dx T7 T8 hb4,Option.bind_some,j6];exact j0 _ _ _ _ _ _ _ _ _ _ _ e4
 | some p=>
 obtain⟨sv,b5⟩:=p
 have hb5:=cU (eU h5) hb4
 have e5:=cU (eU h5) e4
 dsimp only
 cases h6:pT b5 with
 | none=>simp only[eO,cV hb h1,cV hb1 h2,cV hb2 h3,cV hb3 h4,fp hb4 h5,ny hb5 h6,dx T1 T2 hb5,dx T3 T4 hb5,dx T5 T6 hb5,dx T7 T8 hb5,Option.bind_some,j6];exact j0 _ _ _ _ _ _ _ _ _ _ _ e5
 | some p=>
 obtain⟨op,b6⟩:=p
 have hb6:=cU (eU h6) hb5
 have e6:=cU (eU h6) e5
 dsimp only
 cases h7:dC 1099511627776 b6 with
 | none=>
  obtain⟨q,hq,hx⟩:=nv T1 T2 hb6 h7
  have hq':q.length≤1099511627776:=by omega
  simp only[eO,cV hb h1,cV hb1 h2,cV hb2 h3,cV hb3 h4,fp hb4 h5,fp hb5 h6,hx,dx T3 T4 hq',dx T5 T6 hq',dx T7 T8 hq',Option.bind_some,j6];exact j0 _ _ _ _ _ _ _ _ _ _ _ (by omega)
 | some p=>
 obtain⟨st,b7⟩:=p
 have hb7:=cU (ed h7).2.2 hb6
 have e7:=cU (ed h7).2.2 e6
 dsimp only
 cases h8:dC 1073741824 b7 with
 | none=>
  obtain⟨q,hq,hx⟩:=nv T3 T4 hb7 h8
  have hq':q.length≤1099511627776:=by omega
  simp only[eO,cV hb h1,cV hb1 h2,cV hb2 h3,cV hb3 h4,fp hb4 h5,fp hb5 h6,fW T1 T2 hb6 h7,hx,dx T5 T6 hq',dx T7 T8 hq',Option.bind_some,j6];exact j0 _ _ _ _ _ _ _ _ _ _ _ (by omega)
 | some p=>
 obtain⟨du,b8⟩:=p
 have hb8:=cU (ed h8).2.2 hb7
 have e8:=cU (ed h8).2.2 e7
 dsimp only
 cases h9:dC 1 b8 with
 | none=>
  obtain⟨q,hq,hx⟩:=nv T7 T8 hb8 h9
  have hq':q.length≤1099511627776:=by omega
  simp only[eO,cV hb h1,cV hb1 h2,cV hb2 h3,cV hb3 h4,fp hb4 h5,fp hb5 h6,fW T1 T2 hb6 h7,fW T3 T4 hb7 h8,hx,dx T5 T6 hq',Option.bind_some,j6];exact j0 _ _ _ _ _ _ _ _ _ _ _ (by omega)
 | some p=>
 obtain⟨er,b9⟩:=p
 have hb9:=cU (ed h9).2.2 hb8
 have e9:=cU (ed h9).2.2 e8
 dsimp only
 cases h10:dC 4 b9 with
 | none=>
  obtain⟨q,hq,hx⟩:=nv T5 T6 hb9 h10
  simp only[eO,cV hb h1,cV hb1 h2,cV hb2 h3,cV hb3 h4,fp hb4 h5,fp hb5 h6,fW T1 T2 hb6 h7,fW T3 T4 hb7 h8,fW T7 T8 hb8 h9,hx,Option.bind_some,j6];exact j0 _ _ _ _ _ _ _ _ _ _ _ (by omega)
 | some p=>
 obtain⟨n,b10⟩:=p
 have hn:=ed h10
 have hb10:=cU hn.2.2 hb9
 have e10:=cU hn.2.2 e9
 dsimp only
 obtain⟨n',rfl⟩:=Int.eq_ofNat_of_zero_le hn.1.1
 have hn4:n'≤4:=by have:=hn.2.1;omega
 obtain⟨g1,g2⟩:=JY ((n':Int),⟨b10,false⟩) n' 0 Fu b10 [] (by simp) (by rw[kI];omega) (by simp;omega) (by omega) hb10
 simp only[Int.toNat_natCast]
 cases h11:eD n' b10 with
 | none=>
  obtain⟨B,acc,hB,hg⟩:=g2 h11
  simp only[Int.natCast_zero]at hg
  simp only[eO,cV hb h1,cV hb1 h2,cV hb2 h3,cV hb3 h4,fp hb4 h5,fp hb5 h6,fW T1 T2 hb6 h7,fW T3 T4 hb7 h8,fW T7 T8 hb8 h9,fW T5 T6 hb9 h10,Option.bind_some]
  rw[hg,Option.bind_some]
  exact j0 B _ _ _ _ _ _ _ _ _ _ (show B.length≤b.length by omega)
 | some p=>
  obtain⟨l,r⟩:=p
  have hg:=g1 _ _ h11
  simp only[Int.natCast_zero]at hg
  simp only[eO,cV hb h1,cV hb1 h2,cV hb2 h3,cV hb3 h4,fp hb4 h5,fp hb5 h6,fW T1 T2 hb6 h7,fW T3 T4 hb7 h8,fW T7 T8 hb8 h9,fW T5 T6 hb9 h10,Option.bind_some]
  rw[hg,Option.bind_some]
  simp only[tf,Bool.false_eq_true,if_false,List.nil_append,yE,Option.bind_some]
theorem Ee {b r:List UInt8} {s:aL} (hb:b.length≤1099511627776) (h:fY b=some (s,r)):eO ⟨b,false⟩=some (s,⟨r,!dR s⟩):=by
 have:=Ed b hb;rw[h]at this;exact this
theorem JZ {b:List UInt8} (hb:b.length≤1099511627776) (h:fY b=none):∃s r,eO ⟨b,false⟩=some (s,r)∧r.Bad=true∧r.B.length≤b.length:=by
 have:=Ed b hb;rw[h]at this;exact this
end Go.Proofs.YtjklegmimpehlaaGreat.Ab
