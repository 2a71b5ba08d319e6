/- Blocks that are few and small. -/
import Derived.Test.YtjklegmimpehlaaGreatXSt4
import Derived.Test.YtjklegmimpehlaaGreatPSpanC
namespace Go.Proofs.YtjklegmimpehlaaGreat.Ab
open Go Go.RowKit
set_option linter.unusedVariables false
set_option linter.unusedSimpArgs false
def uQ (e:az):Prop:=e.Spans.length≤60∧∀s∈e.Spans,s.Attrs.length≤20
theorem yn (l:List az):∃b,qA l=some b∧(b=true→l.length≤120∧∀e∈l,uQ e):=by
 refine lq (fun n (q:Int×Int)=>∃(k c:Nat),k≤l.length∧k≤c∧c≤1061∧n=2000-k∧q=((c:Int),(k:Int))∧∀a∈l.take k,uQ a) _ ?_ Fu 2000 (0,0) ⟨0,0,by omega,by omega,by omega,rfl,rfl,by simp⟩ (by rw[oN];omega)
 rintro n q ⟨k,c,hk,hc,hc2,rfl,rfl,ha⟩
 by_cases e:k=l.length
 ·refine .inr ⟨decide ((c:Int)≤120),?_,fun h=>⟨by have:=of_decide_eq_true h;omega,by rwa [e,List.take_length]at ha⟩⟩
  simp only[ow,aw (by omega:¬(k:Int)<(l.length:Int)),Bool.false_eq_true,if_false,Option.bind_some,Sum.elim_inr]
 have hk2:k<l.length:=by omega
 by_cases e1:c<1000
 ·obtain⟨b,hb,hb2⟩:=JL l[k].Spans
  cases b with
  | false=>
   refine .inr ⟨false,?_,by simp⟩
   simp only[ow,xk,ay (by omega:(k:Int)<(l.length:Int)),ay (by omega:(c:Int)<1000),if_true,aD (by omega:(0:Int)≤(k:Int)),Int.toNat_natCast,List.getElem?_eq_getElem hk2,Option.bind_some,Sum.elim_inl,hb,Bool.not_false]
  | true=>
   have hlen:=(hb2 rfl).1
   refine .inl ⟨(((c+1+l[k].Spans.length:Nat):Int),((k+1:Nat):Int)),2000-(k+1),?_,by omega,k+1,_,by omega,by omega,by omega,rfl,rfl,fun a h=>?_⟩
   ·simp only[ow,xk,ay (by omega:(k:Int)<(l.length:Int)),ay (by omega:(c:Int)<1000),if_true,aD (by omega:(0:Int)≤(k:Int)),Int.toNat_natCast,List.getElem?_eq_getElem hk2,Option.bind_some,Sum.elim_inl,hb,Bool.not_true,Bool.false_eq_true,if_false,mB (by omega:k<1099511627776),mB (by omega:c<1099511627776)]
    rw[dz (by omega) (by omega)]
    push_cast;rfl
   ·rw[List.take_succ_eq_append_getElem hk2]at h
    rcases List.mem_append.1 h with h | h
    ·exact ha a h
    ·rw[List.mem_singleton.1 h];exact⟨hlen,fun s hs=>((hb2 rfl).2 s hs).2.2.1⟩
 ·refine .inr ⟨false,?_,by simp⟩
  simp only[ow,ay (by omega:(k:Int)<(l.length:Int)),aw (by omega:¬(c:Int)<1000),aw (by omega:¬(c:Int)≤120),if_true,Bool.false_eq_true,if_false,Option.bind_some,Sum.elim_inr]
theorem Dy {l:List Block} {k:Nat} (hk:k<l.length):(l.take (k+1)).flatMap (·.Episodes)=(l.take k).flatMap (·.Episodes)++l[k].Episodes:=by
 rw[List.take_succ_eq_append_getElem hk,List.flatMap_append];simp
theorem I8 {l:List Block} (k:Nat):((l.take k).flatMap (·.Episodes)).length≤(l.flatMap (·.Episodes)).length:=by
 conv=>rhs;rw[← List.take_append_drop k l,List.flatMap_append,List.length_append]
 exact Nat.le_add_right _ _
structure I9 (l:List Block):Prop where
 len:l.length≤12
 eps:(l.flatMap (·.Episodes)).length≤120
 small:∀e∈l.flatMap (·.Episodes),uQ e
theorem Ja (l:List Block) (hb:(l.flatMap (·.Episodes)).length≤1048576):∃b,xl l=some b∧(b=true→I9 l):=by
 have hloop:am (fun(s:List az×Int)=>ox l s.1 s.2) Fu ([],0)=some ((l.take 20).flatMap (·.Episodes)):=by
  refine nq (fun n s r=>∃k,k≤l.length∧k≤20∧n=20-k∧s=((l.take k).flatMap (·.Episodes),(k:Int))∧r=(l.take 20).flatMap (·.Episodes)) ?_ ⟨0,by omega,by omega,rfl,rfl,rfl⟩ (by omega)
  rintro n s r ⟨k,h1,h2,rfl,rfl,rfl⟩
  by_cases e:k<l.length∧k<20
  ·refine .inl ⟨((l.take (k+1)).flatMap (·.Episodes),((k+1:Nat):Int)),20-(k+1),?_,by omega,k+1,by omega,by omega,rfl,rfl,rfl⟩
   have:=I8 (l:=l) (k+1)
   rw[Dy e.1]at this
   simp only[ox,ay (by omega:(k:Int)<(l.length:Int)),ay (by omega:(k:Int)<20),if_true,Option.bind_some,Sum.elim_inl,Bg,aD (by omega:(0:Int)≤(k:Int)),Int.toNat_natCast,List.getElem?_eq_getElem e.1,mB (by omega:k<1099511627776)]
   rw[aD (by omega),Dy e.1]
  ·refine .inr ?_
   have hr:(l.take 20).flatMap (·.Episodes)=(l.take k).flatMap (·.Episodes):=by
    by_cases q:k=20
    ·rw[q]
    ·have:k=l.length:=by omega
     rw[List.take_of_length_le (by omega),List.take_of_length_le (by omega)]
   rw[hr]
   by_cases q:k<l.length
   ·simp only[ox,ay (by omega:(k:Int)<(l.length:Int)),aw (by omega:¬(k:Int)<20),if_true,Bool.false_eq_true,if_false,Option.bind_some,Sum.elim_inr]
   ·simp only[ox,aw (by omega:¬(k:Int)<(l.length:Int)),Bool.false_eq_true,if_false,Option.bind_some,Sum.elim_inr]
 rw[xl,hloop,Option.bind_some,Bh]
 by_cases h12:(l.length:Int)≤12
 ·rw[ay h12,eI,List.take_of_length_le (by omega)]
  obtain⟨b,q1,q2⟩:=yn (l.flatMap (·.Episodes))
  rw[q1,Option.bind_some]
  exact⟨b,rfl,fun h=>⟨by omega,(q2 h).1,(q2 h).2⟩⟩
 ·rw[aw h12,d3]
  exact⟨false,rfl,fun h=>by cases h⟩
end Go.Proofs.YtjklegmimpehlaaGreat.Ab
