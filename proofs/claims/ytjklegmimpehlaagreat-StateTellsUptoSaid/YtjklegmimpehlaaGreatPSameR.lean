/- Policies: the same. -/
import Derived.Test.YtjklegmimpehlaaGreatPRuleP
import Derived.Test.YtjklegmimpehlaaGreatXSt5
namespace Go.Proofs.YtjklegmimpehlaaGreat.Ab
open Go Go.RowKit
set_option linter.unusedVariables false
set_option linter.unusedSimpArgs false
def kL:Nat→af→Prop
 | 0,_=>False
 | d+1,r=>r.Kids.length≤1000∧∀x∈r.Kids,kL d x
def jX (f:af→af→Bool):List af→List af→Bool
 | [],[]=>true
 | a :: l,b :: m=>f a b&&jX f l m
 | _,_=>false
def fX:Nat→af→af→Bool
 | 0,_,_=>false
 | d+1,a,b=>decide (a.Kind=b.Kind)&&(decide (a.N=b.N)&&(decide (a.Key=b.Key)&&(decide (a.Value=b.Value)&&jX (fX d) a.Kids b.Kids)))
theorem DW {f:af→af→Bool}:∀{l m:List af},jX f l m=true→l.length=m.length
 | [],[],_=>rfl
 | a :: l,b :: m,h=>by
  simp only[jX,Bool.and_eq_true]at h
  simp[DW h.2]
 | [],b :: m,h=>by cases h
 | a :: l,[],h=>by cases h
theorem DX {f:af→af→Bool}:∀(l:List af),(∀x∈l,f x x=true)→jX f l l=true
 | [],_=>rfl
 | a :: l,h=>by simp only[jX,h a List.mem_cons_self,DX l fun x hx=>h x (List.mem_cons_of_mem _ hx),Bool.and_self]
theorem DY:∀(d:Nat) (r:af),kL d r→fX d r r=true
 | 0,r,h=>h.elim
 | d+1,r,h=>by simp only[fX,decide_true,Bool.true_and,DX r.Kids fun x hx=>DY d x (h.2 x hx)]
theorem DZ {body:Int→Option (Int⊕Bool)} (f:af→af→Bool) (a b:List af) (hl:a.length=b.length) (ha:a.length≤1000)
  (h:∀(k:Nat) (h1:k<a.length) (h2:k<b.length),body (k:Int)=if f a[k] b[k]=true then some (.inl ((k+1:Nat):Int))else some (.inr false)) (hend:body (a.length:Int)=some (.inr true)):am body Fu 0=some (jX f a b):=by
 have key:∀(m k N:Nat),k+m=a.length→m<N→am body N (k:Int)=some (jX f (a.drop k) (b.drop k)):=by
  intro m
  induction m with
  | zero=>
   intro k N hk hN
   obtain⟨N',rfl,_⟩:=gF hN
   have e:k=a.length:=by omega
   subst e
   rw[eC hend,List.drop_length,hl,List.drop_length];rfl
  | succ m ih=>
   intro k N hk hN
   obtain⟨N',rfl,hN'⟩:=gF hN
   have h1:k<a.length:=by omega
   have h2:k<b.length:=by omega
   have hb:=h k h1 h2
   rw[List.drop_eq_getElem_cons h1,List.drop_eq_getElem_cons h2,jX]
   cases e:f a[k] b[k]with
   | false=>
    rw[e,if_neg (by decide)]at hb
    rw[eC hb];rfl
   | true=>
    rw[e,if_pos rfl]at hb
    rw[eb hb,Bool.true_and]
    exact ih (k+1) N' (by omega) (by omega)
 have:=key a.length 0 Fu (by omega) (by rw[kK];omega)
 simpa using this
theorem D0:∀(d:Nat) (a b:af) (N:Nat),kL d a→d≤N→mS N a b=some (fX d a b)∧nZ N a b=some (fX d a b):=by
 intro d
 induction d with
 | zero=>intro a b N h;exact h.elim
 | succ d ih=>
  intro a b N h hN
  obtain⟨N',rfl,hN'⟩:=gF (by omega:d<N)
  obtain⟨h1,h2⟩:=h
  have hf:∀{p:Prop} [Decidable p] {x:Bool},¬p→(decide p&&x)=false:=fun hp=>by rw[aw hp,Bool.false_and]
  rw[mS,Bn,nZ,zU,fX]
  simp only[ea]
  by_cases e1:a.Kind=b.Kind
  case neg=>exact⟨by simp[e1],by simp[e1]⟩
  by_cases e2:a.N=b.N
  case neg=>exact⟨by simp[e1,e2],by simp[e1,e2]⟩
  by_cases e3:a.Key=b.Key
  case neg=>exact⟨by simp[e1,e2,e3],by simp[e1,e2,e3]⟩
  by_cases e4:a.Value=b.Value
  case neg=>exact⟨by simp[e1,e2,e3,e4],by simp[e1,e2,e3,e4]⟩
  simp only[e1,e2,e3,e4,beq_self_eq_true,decide_true,if_true,bne_self_eq_false,Bool.not_true,Bool.false_eq_true,if_false,Bool.true_and]
  by_cases e5:a.Kids.length=b.Kids.length
  case neg=>
   have h0:((a.Kids.length:Int) != (b.Kids.length:Int))=true:=by simp only[bne_iff_ne,ne_eq];omega
   have hz:jX (fX d) a.Kids b.Kids=false:=by
    cases hq:jX (fX d) a.Kids b.Kids with
    | false=>rfl
    | true=>exact absurd (DW hq) e5
   rw[xo,h0,hz]
   exact⟨rfl,rfl⟩
  have h0:((a.Kids.length:Int) != (b.Kids.length:Int))=false:=by simp[e5]
  rw[xo,h0,d3,d3]
  constructor
  ·have hz:=DZ (body:=fun(s:Int)=>qF (mS N') a.Kids b.Kids s) (fX d) a.Kids b.Kids e5 h1 (fun k k1 k2=>by
    simp only[qF,ay (by omega:(k:Int)<(a.Kids.length:Int)),if_true,aD (by omega:(0:Int)≤(k:Int)),Int.toNat_natCast,List.getElem?_eq_getElem k1,List.getElem?_eq_getElem k2,Option.bind_some,(ih a.Kids[k] b.Kids[k] N' (h2 _ (List.getElem_mem k1)) hN').1,ig (by omega:k<1099511627776)]
    cases fX d a.Kids[k] b.Kids[k]<;>rfl) (by simp only[qF,aw (by omega:¬(a.Kids.length:Int)<(a.Kids.length:Int)),Bool.false_eq_true,if_false])
   rw[hz]
   rfl
  ·rw[Option.bind_some,Sum.elim_inl,wg]
   refine DZ (fX d) a.Kids b.Kids e5 h1 (fun k k1 k2=>?_) ?_
   ·simp only[sL,ay (by omega:(k:Int)<(a.Kids.length:Int)),if_true,aD (by omega:(0:Int)≤(k:Int)),Int.toNat_natCast,List.getElem?_eq_getElem k1,List.getElem?_eq_getElem k2,Option.bind_some,(ih a.Kids[k] b.Kids[k] N' (h2 _ (List.getElem_mem k1)) hN').2,ig (by omega:k<1099511627776)]
    cases fX d a.Kids[k] b.Kids[k]<;>rfl
   ·simp only[sL,aw (by omega:¬(a.Kids.length:Int)<(a.Kids.length:Int)),Bool.false_eq_true,if_false]
theorem D1:∀(d:Nat) (r:af),ph d r→kL d r
 | 0,r,h=>h
 | d+1,r,h=>⟨by have:=h.2.2.1;omega,fun x hx=>D1 d x (h.2.2.2 x hx)⟩
theorem D2:∀(d:Nat) (r:af),dl d r=true→bQ d r≤1000→kL d r
 | 0,r,h,_=>by cases h
 | d+1,r,h,hn=>by
  simp only[dl,Bool.and_eq_true,List.all_eq_true]at h
  simp only[bQ]at hn
  have hpos:∀x∈r.Kids,1≤bQ d x:=fun x hx=>by
   cases d with
   | zero=>exact absurd (h.2 x hx) (by simp[dl])
   | succ d=>exact pg d x
  have:=nz (bQ d) _ hpos
  exact⟨by omega,fun x hx=>D2 d x (h.2 x hx) (by have:=rZ (bQ d) r.Kids x hx;omega)⟩
end Go.Proofs.YtjklegmimpehlaaGreat.Ab
