/- Policies as bytes. -/
import Derived.Test.YtjklegmimpehlaaGreatXR2
import Derived.Test.YtjklegmimpehlaaGreatPKit
import Derived.Test.YtjklegmimpehlaaGreatPRW
namespace Go.Proofs.YtjklegmimpehlaaGreat.Ab
open Go Go.RowKit
set_option linter.unusedVariables false
set_option linter.unusedSimpArgs false
theorem kK:Fu=1208925819614629174706175+1:=rfl
theorem ig {k:Nat} (h:k<1099511627776):IntKind.i64.wrap ((k:Int)+1)=((k+1:Nat):Int):=by rw[dz (by omega) (by omega)];push_cast;rfl
theorem gF {N d:Nat} (h:d<N):∃N',N=N'+1∧d≤N':=⟨N-1,by omega,by omega⟩
def mz (s:ByteArray):Bool:=decide (1≤s.size)&&decide (s.size≤16)
theorem Jn (s:ByteArray):gL s=some (mz s):=by
 unfold gL mz
 by_cases h:1≤s.size
 ·simp only[ay (by omega:(1:Int)≤(s.size:Int)),if_true,ay h,Bool.true_and]
  congr 2
  exact propext ⟨fun h=>by omega,fun h=>by omega⟩
 ·simp only[aw (by omega:¬(1:Int)≤(s.size:Int)),Bool.false_eq_true,if_false,aw h,Bool.false_and]
theorem rV (n a b:Int):gb n a b=some (decide (a≤n)&&decide (n≤b)):=by
 unfold gb
 by_cases h:a≤n
 ·simp[h]
 ·simp[h]
theorem Jo (s:ByteArray):gb (s.size:Int) 1 16=some (mz s):=by
 rw[rV,mz]
 congr 2
 ·congr 1;exact propext ⟨fun h=>by omega,fun h=>by omega⟩
 ·congr 1;exact propext ⟨fun h=>by omega,fun h=>by omega⟩
def eJ (k:Int):Int:=if k=4 then 1073741824 else if k=7∨k=8 then 1000 else if k=9 then 1000000 else -1
def iC (r:af):Bool:=
 if r.Kind=1∨r.Kind=2 then decide (r.N=0∧r.Key=aa []∧r.Value=aa [])
 else if r.Kind=3 then decide (r.N=0∧r.Key=aa []∧r.Value=aa []∧r.Kids.length=1)
 else if r.Kind=5 then decide (r.N=0∧r.Key=aa []∧r.Value=aa []∧r.Kids.length=0)
 else if r.Kind=6 then decide (r.N=0)&&mz r.Key&&decide (r.Value.size≤16)&&decide (r.Kids.length=0)
 else decide (r.Key=aa []∧r.Value=aa []∧0≤r.N∧r.N≤eJ r.Kind∧r.Kids.length=0)
theorem DL (k:Int):pL k=some (eJ k):=by
 unfold pL eJ
 by_cases h4:k=4
 ·simp[h4]
 by_cases h7:k=7
 ·simp[h7,pK]
 by_cases h8:k=8
 ·simp[h8,pK]
 by_cases h9:k=9
 ·simp[h9,pK]
 simp[h4,h7,h8,h9,pK]
theorem uY (l:List af) (n:Nat):((l.length:Int) == (n:Int))=decide (l.length=n):=by
 rw[Bool.eq_iff_iff];simp only[beq_iff_eq,decide_eq_true_eq];omega
theorem Jp (r:af):v8 r=some (iC r):=by
 have l1:((r.Kids.length:Int) == 1)=decide (r.Kids.length=1):=uY r.Kids 1
 have l0:((r.Kids.length:Int) == 0)=decide (r.Kids.length=0):=uY r.Kids 0
 have hb:(if(ByteArray.toList r.Key == ByteArray.toList (aa []))=true then(some (ByteArray.toList r.Value == ByteArray.toList (aa [])))else(some false))=some (decide (r.Key=aa []∧r.Value=aa [])):=by
  simp only[ea]
  by_cases h1:r.Key=aa []<;>by_cases h2:r.Value=aa []<;>simp[h1,h2]
 rw[v8,hb,Option.bind_some,zC]
 generalize ht:decide (r.Key=aa []∧r.Value=aa [])=t
 by_cases k1:r.Kind=1
 ·simp only[k1,beq_self_eq_true,if_true,Option.bind_some,sH,iC,true_or]
  by_cases hn:r.N=0
  ·simp[hn,← ht]
  ·simp[hn]
 by_cases k2:r.Kind=2
 ·simp only[k2,(by decide:((2:Int) == 1)=false),Bool.false_eq_true,if_false,beq_self_eq_true,if_true,Option.bind_some,sH,iC,or_true]
  by_cases hn:r.N=0
  ·simp[hn,← ht]
  ·simp[hn]
 have e1:(r.Kind == 1)=false:=by simpa using k1
 have e2:(r.Kind == 2)=false:=by simpa using k2
 simp only[e1,e2,Bool.false_eq_true,if_false,Option.bind_some,sH,iC,k1,k2,or_self]
 by_cases k3:r.Kind=3
 ·simp only[k3,beq_self_eq_true,if_true,l1]
  by_cases hn:r.N=0<;>cases t<;>simp_all
 have e3:(r.Kind == 3)=false:=by simpa using k3
 simp only[e3,Bool.false_eq_true,if_false,k3]
 by_cases k5:r.Kind=5
 ·simp only[k5,beq_self_eq_true,if_true,l0]
  by_cases hn:r.N=0<;>cases t<;>simp_all
 have e5:(r.Kind == 5)=false:=by simpa using k5
 simp only[e5,Bool.false_eq_true,if_false,k5]
 by_cases k6:r.Kind=6
 ·simp only[k6,beq_self_eq_true,if_true,l0,Jn,Option.bind_some]
  by_cases hn:r.N=0
  case neg=>simp[hn]
  cases hk:mz r.Key
  ·simp[hn]
  by_cases hv:r.Value.size≤16
  ·simp only[hn,beq_self_eq_true,if_true,ay (by omega:(r.Value.size:Int)≤16),Option.bind_some,Sum.elim_inr,ay hv,decide_true,Bool.true_and]
  ·simp only[hn,beq_self_eq_true,if_true,aw (by omega:¬(r.Value.size:Int)≤16),Bool.false_eq_true,if_false,Option.bind_some,Sum.elim_inr,aw hv,Bool.and_false,Bool.false_and]
 have e6:(r.Kind == 6)=false:=by simpa using k6
 simp only[e6,Bool.false_eq_true,if_false,k6,Option.bind_some,Sum.elim_inl,vZ,DL,l0]
 cases t
 ·simp only[Bool.false_eq_true,if_false]
  have:¬(r.Key=aa []∧r.Value=aa []):=by simpa using ht
  rw[aw (fun h=>this ⟨h.1,h.2.1⟩)]
 ·have h2:r.Key=aa []∧r.Value=aa []:=by simpa using ht
  by_cases h0:0≤r.N<;>by_cases h3:r.N≤eJ r.Kind<;>simp[h0,h3,h2]
theorem Jq (r:af):wc r=some (iC r):=by
 have l1:((r.Kids.length:Int) == 1)=decide (r.Kids.length=1):=uY r.Kids 1
 have l0:((r.Kids.length:Int) == 0)=decide (r.Kids.length=0):=uY r.Kids 0
 have hb:(if(r.N == 0)=true then(if(ByteArray.toList r.Key == ByteArray.toList (aa []))=true then(some (ByteArray.toList r.Value == ByteArray.toList (aa [])))else(some false))else(some false))=some (decide (r.N=0∧r.Key=aa []∧r.Value=aa [])):=by
  simp only[ea]
  by_cases hn:r.N=0<;>by_cases h1:r.Key=aa []<;>by_cases h2:r.Value=aa []<;>simp[h1,h2,hn]
 have hc:(if(ByteArray.toList r.Key == ByteArray.toList (aa []))=true then(if(ByteArray.toList r.Value == ByteArray.toList (aa []))=true then(some ((List.length r.Kids:Int) == 0))else(some false))else(some false))=some (decide (r.Key=aa []∧r.Value=aa []∧r.Kids.length=0)):=by
  simp only[ea,l0]
  by_cases h1:r.Key=aa []<;>by_cases h2:r.Value=aa []<;>simp[h1,h2]
 rw[wc,hb,Option.bind_some,zI,hc,Option.bind_some,zH]
 by_cases k1:r.Kind=1
 ·simp only[k1,beq_self_eq_true,if_true,Option.bind_some,sJ,iC,true_or]
 by_cases k2:r.Kind=2
 ·simp only[k2,(by decide:((2:Int) == 1)=false),Bool.false_eq_true,if_false,beq_self_eq_true,if_true,Option.bind_some,sJ,iC,or_true]
 have e1:(r.Kind == 1)=false:=by simpa using k1
 have e2:(r.Kind == 2)=false:=by simpa using k2
 simp only[e1,e2,Bool.false_eq_true,if_false,Option.bind_some,sJ,iC,k1,k2,or_self]
 by_cases k3:r.Kind=3
 ·simp only[k3,beq_self_eq_true,if_true,l1]
  by_cases hn:r.N=0<;>by_cases h1:r.Key=aa []<;>by_cases h2:r.Value=aa []<;>simp[hn,h1,h2]
 have e3:(r.Kind == 3)=false:=by simpa using k3
 simp only[e3,Bool.false_eq_true,if_false,k3]
 by_cases k5:r.Kind=5
 ·simp only[k5,beq_self_eq_true,if_true,l0]
  by_cases hn:r.N=0<;>by_cases h1:r.Key=aa []<;>by_cases h2:r.Value=aa []<;>simp[hn,h1,h2]
 have e5:(r.Kind == 5)=false:=by simpa using k5
 simp only[e5,Bool.false_eq_true,if_false,k5]
 by_cases k6:r.Kind=6
 ·simp only[k6,beq_self_eq_true,if_true,l0,Jo,Option.bind_some]
  by_cases hn:r.N=0
  case neg=>simp[hn]
  cases hk:mz r.Key
  ·simp[hn]
  by_cases hv:r.Value.size≤16
  ·simp only[hn,beq_self_eq_true,if_true,ay (by omega:(r.Value.size:Int)≤16),ay hv,decide_true,Bool.true_and]
  ·simp only[hn,beq_self_eq_true,if_true,aw (by omega:¬(r.Value.size:Int)≤16),Bool.false_eq_true,if_false,aw hv,Bool.and_false,Bool.false_and]
 have e6:(r.Kind == 6)=false:=by simpa using k6
 simp only[e6,Bool.false_eq_true,if_false,k6,rV,Option.bind_some,eJ]
 have fin:∀(m:Int),(if(decide (r.Key=aa []∧r.Value=aa []∧r.Kids.length=0))=true then some (decide (0≤r.N)&&decide (r.N≤m))else some false)=some (decide (r.Key=aa []∧r.Value=aa []∧0≤r.N∧r.N≤m∧r.Kids.length=0)):=by
  intro m
  by_cases h1:r.Key=aa []<;>by_cases h2:r.Value=aa []<;>by_cases h3:r.Kids.length=0<;>by_cases h4:0≤r.N<;>by_cases h5:r.N≤m<;>simp[h1,h2,h3,h4,h5]
 by_cases k4:r.Kind=4
 ·simp only[k4,beq_self_eq_true,if_true];exact fin _
 have e4:(r.Kind == 4)=false:=by simpa using k4
 simp only[e4,Bool.false_eq_true,if_false,k4]
 by_cases k7:r.Kind=7
 ·simp only[k7,beq_self_eq_true,if_true,Option.bind_some,sI,rV,true_or];exact fin _
 have e7:(r.Kind == 7)=false:=by simpa using k7
 by_cases k8:r.Kind=8
 ·simp only[k8,(by decide:((8:Int) == 7)=false),Bool.false_eq_true,if_false,beq_self_eq_true,if_true,Option.bind_some,sI,rV,or_true];exact fin _
 have e8:(r.Kind == 8)=false:=by simpa using k8
 simp only[e7,e8,Bool.false_eq_true,if_false,Option.bind_some,sI,rV,k7,k8,or_self]
 by_cases k9:r.Kind=9
 ·simp only[k9,beq_self_eq_true,if_true];exact fin _
 have e9:(r.Kind == 9)=false:=by simpa using k9
 simp only[e9,Bool.false_eq_true,if_false,k9]
 rw[aw (fun h=>by have:=h.2.2.1;have:=h.2.2.2.1;omega)]
def dk (f:af→Nat):List af→Nat
 | []=>0
 | r :: l=>f r+dk f l
theorem yw (f:af→Nat):∀a b:List af,dk f (a++b)=dk f a+dk f b
 | [],b=>by simp[dk]
 | r :: a,b=>by simp only[List.cons_append,dk,yw f a b];omega
theorem rW (f:af→Nat) (l:List af) (k:Nat):dk f (l.take k)≤dk f l:=by
 conv=>rhs;rw[← List.take_append_drop k l,yw]
 omega
theorem rY (f:af→Nat) (l:List af) (k:Nat) (h:k<l.length):dk f (l.take (k+1))=dk f (l.take k)+f l[k]:=by
 rw[List.take_succ_eq_append_getElem h,yw];simp[dk]
theorem nz (f:af→Nat):∀(l:List af),(∀x∈l,1≤f x)→l.length≤dk f l
 | [],_=>by simp
 | r :: l,h=>by
  have h1:=h r List.mem_cons_self
  have h2:=nz f l fun x hx=>h x (List.mem_cons_of_mem _ hx)
  simp only[dk,List.length_cons];omega
def bQ:Nat→af→Nat
 | 0,_=>0
 | d+1,r=>1+dk (bQ d) r.Kids
def dl:Nat→af→Bool
 | 0,_=>false
 | d+1,r=>iC r&&r.Kids.all (dl d)
def ii:Nat→af→Bool
 | 0,_=>false
 | d+1,r=>r.Kids.all (ii d)
theorem DM:∀(d:Nat) (r:af),dl d r=true→ii d r=true
 | 0,r,h=>by cases h
 | d+1,r,h=>by
  simp only[dl,Bool.and_eq_true,List.all_eq_true]at h
  simp only[ii,List.all_eq_true]
  exact fun x hx=>DM d x (h.2 x hx)
theorem pg (d:Nat) (r:af):1≤bQ (d+1) r:=by rw[bQ];omega
def ee (r:af):Bool:=dl 5 r&&decide (bQ 5 r≤20)
theorem Jr:∀(d:Nat) (r:af) (left:Int) (N:Nat),d<N→d≤100→-1000≤left→left≤1000 →
  mK N r (d:Int) left=some (if dl d r=true∧(bQ d r:Int)≤left then((bQ d r:Int),true)else(0,false)):=by
 intro d
 induction d with
 | zero=>
  intro r left N hN _ _ _
  obtain⟨N',rfl,_⟩:=gF hN
  have ht:(if dl 0 r=true∧(bQ 0 r:Int)≤left then((bQ 0 r:Int),true)else(0,false))=(0,false):=if_neg (by simp[dl])
  rw[ht,mK,wa]
  rfl
 | succ d ih=>
  intro r left N hN hd hl1 hl2
  obtain⟨N',rfl,hN'⟩:=gF hN
  have hnum:bQ (d+1) r=1+dk (bQ d) r.Kids:=rfl
  rw[mK,wa,aw (by omega:¬((d+1:Nat):Int)<1),d3]
  by_cases h1:left<1
  ·rw[ay h1,eI,if_neg (by rintro⟨_,h⟩;omega)];rfl
  rw[aw h1,d3,Jp,Option.bind_some]
  cases ho:iC r with
  | false=>
   have ht:(if dl (d+1) r=true∧(bQ (d+1) r:Int)≤left then((bQ (d+1) r:Int),true)else(0,false))=(0,false):=if_neg (by simp[dl,ho])
   rw[ht];rfl
  | true=>
   simp only[Bool.not_true,Bool.false_eq_true,if_false,Option.bind_some,Sum.elim_inl,v9]
   by_cases hlen:r.Kids.length≤1000
   case pos=>
    refine fd (l:=r.Kids) (fun k q s=>s=((1:Int)+(dk (bQ d) (r.Kids.take k):Int),(k:Int))∧(∀x∈r.Kids.take k,dl d x=true)∧(1:Int)+(dk (bQ d) (r.Kids.take k):Int)≤left∧q=(if dl (d+1) r=true∧(bQ (d+1) r:Int)≤left then((bQ (d+1) r:Int),true)else(0,false))) (by omega) ?_ ?_ ⟨by simp[dk],by simp,by simp[dk];omega,by first | rfl | trivial⟩
    ·rintro k hk q s ⟨rfl,hok,hle,rfl⟩
     have hs:=rY (bQ d) r.Kids k hk
     simp only[pM,ay (by omega:(k:Int)<(r.Kids.length:Int)),if_true,aD (by omega:(0:Int)≤(k:Int)),Int.toNat_natCast,List.getElem?_eq_getElem hk,Option.bind_some]
     rw[show IntKind.i64.wrap (((d+1:Nat):Int)-1)=(d:Int) by rw[dz (by omega) (by omega)];push_cast;omega,dz (by omega) (by omega),ih _ _ _ (by omega) (by omega) (by omega) (by omega),Option.bind_some]
     by_cases hc:dl d r.Kids[k]=true∧(bQ d r.Kids[k]:Int)≤left-(1+(dk (bQ d) (r.Kids.take k):Int))
     ·rw[if_pos hc]
      refine .inl ⟨((1:Int)+(dk (bQ d) (r.Kids.take (k+1)):Int),((k+1:Nat):Int)),?_,rfl,fun x hx=>?_,by omega,by first | trivial | rfl⟩
      ·simp only[Bool.not_true,Bool.false_eq_true,if_false]
       rw[dz (by omega) (by omega),ig (by omega),hs]
       congr 3
       push_cast;omega
      ·rw[List.take_succ_eq_append_getElem hk]at hx
       rcases List.mem_append.1 hx with hx | hx
       ·exact hok x hx
       ·rw[List.mem_singleton.1 hx];exact hc.1
     ·rw[if_neg hc]
      refine .inr ?_
      simp only[Bool.not_false,if_true]
      rw[if_neg]
      rintro⟨h2,h3⟩
      simp only[dl,Bool.and_eq_true,List.all_eq_true]at h2
      have h4:=rW (bQ d) r.Kids (k+1)
      exact hc ⟨h2.2 _ (List.getElem_mem hk),by omega⟩
    ·rintro q s ⟨rfl,hok,hle,rfl⟩
     rw[List.take_length]at hok hle ⊢
     simp only[pM,aw (by omega:¬(r.Kids.length:Int)<(r.Kids.length:Int)),Bool.false_eq_true,if_false]
     rw[if_pos ⟨by simp only[dl,ho,Bool.true_and,List.all_eq_true];exact hok,by omega⟩,hnum]
     push_cast;rfl
   case neg=>
    refine fd (l:=r.Kids.take 1000) (fun k q s=>s=((1:Int)+(dk (bQ d) (r.Kids.take k):Int),(k:Int))∧(∀x∈r.Kids.take k,dl d x=true)∧(1:Int)+(dk (bQ d) (r.Kids.take k):Int)≤left∧q=(if dl (d+1) r=true∧(bQ (d+1) r:Int)≤left then((bQ (d+1) r:Int),true)else(0,false))) (by simp;omega) ?_ ?_ ⟨by simp[dk],by simp,by simp[dk];omega,by first | rfl | trivial⟩
    ·rintro k hk0 q s ⟨rfl,hok,hle,rfl⟩
     have hk:k<r.Kids.length:=by simp at hk0;omega
     have hk1:k<1000:=by simp at hk0;omega
     have hs:=rY (bQ d) r.Kids k hk
     simp only[pM,ay (by omega:(k:Int)<(r.Kids.length:Int)),if_true,aD (by omega:(0:Int)≤(k:Int)),Int.toNat_natCast,List.getElem?_eq_getElem hk,Option.bind_some]
     rw[show IntKind.i64.wrap (((d+1:Nat):Int)-1)=(d:Int) by rw[dz (by omega) (by omega)];push_cast;omega,dz (by omega) (by omega),ih _ _ _ (by omega) (by omega) (by omega) (by omega),Option.bind_some]
     by_cases hc:dl d r.Kids[k]=true∧(bQ d r.Kids[k]:Int)≤left-(1+(dk (bQ d) (r.Kids.take k):Int))
     ·rw[if_pos hc]
      refine .inl ⟨((1:Int)+(dk (bQ d) (r.Kids.take (k+1)):Int),((k+1:Nat):Int)),?_,rfl,fun x hx=>?_,by omega,by first | trivial | rfl⟩
      ·simp only[Bool.not_true,Bool.false_eq_true,if_false]
       rw[dz (by omega) (by omega),ig (by omega),hs]
       congr 3
       push_cast;omega
      ·rw[List.take_succ_eq_append_getElem hk]at hx
       rcases List.mem_append.1 hx with hx | hx
       ·exact hok x hx
       ·rw[List.mem_singleton.1 hx];exact hc.1
     ·rw[if_neg hc]
      refine .inr ?_
      simp only[Bool.not_false,if_true]
      rw[if_neg]
      rintro⟨h2,h3⟩
      simp only[dl,Bool.and_eq_true,List.all_eq_true]at h2
      have h4:=rW (bQ d) r.Kids (k+1)
      exact hc ⟨h2.2 _ (List.getElem_mem hk),by omega⟩
    ·rintro q s ⟨rfl,hok,hle,rfl⟩
     exfalso
     have hl:(r.Kids.take 1000).length=1000:=by simp;omega
     rw[hl]at hok hle
     have hpos:∀x∈r.Kids.take 1000,1≤bQ d x:=fun x hx=>by
      have:=hok x hx
      cases d with
      | zero=>cases this
      | succ d=>exact pg d x
     have:=nz (bQ d) _ hpos
     omega
theorem yx (r:af):pN r=some (ee r):=by
 have:=Jr 5 r 20 Fu (by rw[kK];omega) (by omega) (by omega) (by omega)
 rw[pN,zD,show((5:Int))=((5:Nat):Int) from rfl,this,Option.bind_some,ee]
 cases ho:dl 5 r
 ·simp
 ·by_cases hn:bQ 5 r≤20
  ·rw[if_pos ⟨rfl,by omega⟩,ay hn];rfl
  ·rw[if_neg (by rintro⟨_,h⟩;omega),aw hn];rfl
theorem Js:∀(d:Nat) (r:af) (N:Nat),d<N→d≤100 →
  ∃v:Int,lL N r (d:Int)=some v∧1≤v∧v≤21+20*(d:Int)∧(v≤20→ii d r=true∧v=(bQ d r:Int))∧(ii d r=true→(bQ d r:Int)≤20→v≤20):=by
 intro d
 induction d with
 | zero=>
  intro r N hN _
  obtain⟨N',rfl,_⟩:=gF hN
  exact⟨21,by rw[lL,wb];rfl,by omega,by omega,fun h=>by omega,fun h=>by cases h⟩
 | succ d ih=>
  intro r N hN hd
  obtain⟨N',rfl,hN'⟩:=gF hN
  have hnum:bQ (d+1) r=1+dk (bQ d) r.Kids:=rfl
  rw[lL,wb,dD (by simp only[beq_eq_false_iff_ne,ne_eq];omega)]
  have key:∃v:Int,am (fun(s:Int×Int)=>nV (lL N') r ((d+1:Nat):Int) s.1 s.2) Fu (1,0)=some v∧(1≤v∧v≤21+20*((d+1:Nat):Int)∧(v≤20→ii (d+1) r=true∧v=(bQ (d+1) r:Int))∧(ii (d+1) r=true→(bQ (d+1) r:Int)≤20→v≤20)):=by
   refine lq (fun m (s:Int×Int)=>∃k:Nat,k≤r.Kids.length∧m=40-s.1.toNat+1∧s.2=(k:Int)∧1+(k:Int)≤s.1∧s.1≤41+20*(d:Int)∧(s.1≤20→(∀x∈r.Kids.take k,ii d x=true)∧s.1=1+(dk (bQ d) (r.Kids.take k):Int))∧(20<s.1→ii (d+1) r=true→¬(bQ (d+1) r:Int)≤20)) _ ?_ Fu 40 (1,0) ⟨0,by omega,by simp,rfl,by simp,by simp;omega,fun _=>⟨by simp,by simp[dk]⟩,fun h=>by simp at h⟩ (by rw[kK];omega)
   rintro m ⟨n,i⟩ ⟨k,hk,hm,hi,h1,h2,h3,h4⟩
   dsimp only at hi h1 h2 h3 h4 hm
   subst hi
   by_cases hn:n≤20
   case neg=>
    refine .inr ⟨n,?_,by omega,by omega,fun h=>by omega,fun h5 h6=>absurd h6 (h4 (by omega) h5)⟩
    simp only[nV,aw hn]
    by_cases hkl:(k:Int)<(r.Kids.length:Int)
    ·simp only[ay hkl,if_true,Bool.false_eq_true,if_false,Option.bind_some,Sum.elim_inr]
    ·simp only[aw hkl,Bool.false_eq_true,if_false,Option.bind_some,Sum.elim_inr]
   obtain⟨g1,g2⟩:=h3 hn
   by_cases e:k=r.Kids.length
   ·subst e
    rw[List.take_length]at g1 g2
    refine .inr ⟨n,?_,by omega,by omega,fun _=>⟨by simp only[ii,List.all_eq_true];exact g1,by rw[hnum];push_cast;omega⟩,fun _ _=>hn⟩
    simp only[nV,aw (by omega:¬(r.Kids.length:Int)<(r.Kids.length:Int)),Bool.false_eq_true,if_false,Option.bind_some,Sum.elim_inr]
   ·have hk2:k<r.Kids.length:=by omega
    obtain⟨v,hv,v1,v2,v3,v4⟩:=ih r.Kids[k] N' (by omega) (by omega)
    have hs:=rY (bQ d) r.Kids k hk2
    have hst:=rW (bQ d) r.Kids (k+1)
    refine .inl ⟨(n+v,((k+1:Nat):Int)),40-(n+v).toNat+1,?_,by omega,k+1,by omega,rfl,rfl,by dsimp only;omega,by dsimp only;omega,fun h=>?_,fun h h5 h6=>?_⟩
    ·simp only[nV,ay (by omega:(k:Int)<(r.Kids.length:Int)),ay hn,if_true,Option.bind_some,Sum.elim_inl,zF,aD (by omega:(0:Int)≤(k:Int)),Int.toNat_natCast,List.getElem?_eq_getElem hk2]
     rw[show IntKind.i64.wrap (((d+1:Nat):Int)-1)=(d:Int) by rw[dz (by omega) (by omega)];push_cast;omega,hv,Option.bind_some,dz (by omega) (by omega),ig (by omega)]
    ·dsimp only at h
     have h8:=v3 (by omega)
     refine⟨fun x hx=>?_,?_⟩
     ·rw[List.take_succ_eq_append_getElem hk2]at hx
      rcases List.mem_append.1 hx with hx | hx
      ·exact g1 x hx
      ·rw[List.mem_singleton.1 hx];exact h8.1
     ·dsimp only;rw[hs];push_cast;omega
    ·dsimp only at h
     have h5':=h5
     simp only[ii,List.all_eq_true]at h5'
     have h7:=h5' _ (List.getElem_mem hk2)
     by_cases h8:v≤20
     ·have:=(v3 h8).2;rw[hnum]at h6;omega
     ·have:¬(bQ d r.Kids[k]:Int)≤20:=fun h9=>h8 (v4 h7 h9)
      rw[hnum]at h6;omega
  obtain⟨v,h1,h2,h3,h4,h5⟩:=key
  exact⟨v,h1,h2,h3,h4,h5⟩
theorem Jt:∀(d:Nat) (r:af) (N:Nat),d≤N→ii d r=true→bQ d r≤1000→lM N r=some (dl d r):=by
 intro d
 induction d with
 | zero=>intro r N _ h;cases h
 | succ d ih=>
  intro r N hN h hn
  obtain⟨N',rfl,hN'⟩:=gF (by omega:d<N)
  simp only[ii,List.all_eq_true]at h
  rw[lM,zJ,Jq,Option.bind_some,dl]
  cases ho:iC r with
  | false=>rfl
  | true=>
   simp only[Bool.not_true,Bool.false_eq_true,if_false,Bool.true_and]
   have hl:r.Kids.length≤1000:=by
    have hpos:∀x∈r.Kids,1≤bQ d x:=fun x hx=>by
     cases d with
     | zero=>exact absurd (h x hx) (by simp[ii])
     | succ d=>exact pg d x
    have:=nz (bQ d) _ hpos
    simp only[bQ]at hn;omega
   have hkid:∀(k:Nat) (hk:k<r.Kids.length),lM N' r.Kids[k]=some (dl d r.Kids[k]):=fun k hk=>by
    refine ih _ _ hN' (h _ (List.getElem_mem hk)) ?_
    have h1:=rW (bQ d) r.Kids (k+1)
    have h2:=rY (bQ d) r.Kids k hk
    simp only[bQ]at hn;omega
   have hloop:=mq (body:=fun(s:Int)=>nW (lM N') r s) (l:=r.Kids) (fun x=>!dl d x) (fun k=>(k:Int)) true false (by omega) (fun k hk hb hk2=>by
     simp only[Bool.not_eq_false']at hk2
     simp only[nW,ay (by omega:(k:Int)<(r.Kids.length:Int)),if_true,aD (by omega:(0:Int)≤(k:Int)),Int.toNat_natCast,List.getElem?_eq_getElem hk,Option.bind_some,hkid k hk,hk2,Bool.not_true,Bool.false_eq_true,if_false,ig (by omega:k<1099511627776)]) (fun k hk hb hk2=>by
     simp only[Bool.not_eq_true']at hk2
     simp only[nW,ay (by omega:(k:Int)<(r.Kids.length:Int)),if_true,aD (by omega:(0:Int)≤(k:Int)),Int.toNat_natCast,List.getElem?_eq_getElem hk,Option.bind_some,hkid k hk,hk2,Bool.not_false]) (fun hb=>by
     simp only[nW,aw (by omega:¬(r.Kids.length:Int)<(r.Kids.length:Int)),Bool.false_eq_true,if_false])
   have e0:(((0:Nat):Int))=0:=rfl
   rw[← e0,hloop]
   have:r.Kids.all (dl d) = !(r.Kids.any fun x=>!dl d x):=by rw[Bool.eq_iff_iff];simp
   rw[this]
   cases r.Kids.any (fun x=>!dl d x)<;>rfl
theorem yy (r:af):pO r=some (ee r):=by
 obtain⟨v,h1,h2,h3,h4,h5⟩:=Js 5 r Fu (by rw[kK];omega) (by omega)
 rw[pO,zG,show((5:Int))=((5:Nat):Int) from rfl,h1,Option.bind_some,ee]
 by_cases hv:v≤20
 ·obtain⟨g1,g2⟩:=h4 hv
  rw[ay hv,eI,zK,Jt 5 r Fu (by rw[kK];omega) g1 (by omega),Option.bind_some,ay (by omega:bQ 5 r≤20),Bool.and_true]
 ·rw[aw hv,d3]
  cases ho:dl 5 r
  ·rfl
  ·rw[aw (fun h=>hv (h5 (DM _ _ ho) (by omega)))];rfl
def ph:Nat→af→Prop
 | 0,_=>False
 | d+1,r=>r.Key.size≤100∧r.Value.size≤100∧r.Kids.length≤100∧∀x∈r.Kids,ph d x
theorem Ju:∀(m:Nat) (r:af) (d N:Nat),d+m=31→m<N→∃v:Int,lK N r (d:Int)=some v∧1≤v∧v≤1000*((m:Int)+1)∧(v≤100→ph m r):=by
 intro m
 induction m with
 | zero=>
  intro r d N hd hN
  obtain⟨N',rfl,_⟩:=gF hN
  refine⟨1000,?_,by omega,by omega,fun h=>by omega⟩
  rw[lK,vX,ay (by omega:(30:Int)<(d:Int)),eI];rfl
 | succ m ih=>
  intro r d N hd hN
  obtain⟨N',rfl,hN'⟩:=gF hN
  rw[lK,vX,aw (by omega:¬(30:Int)<(d:Int)),d3]
  by_cases h1:(100:Int)<(r.Key.size:Int)
  ·exact⟨1000,by rw[ay h1];rfl,by omega,by omega,fun h=>by omega⟩
  by_cases h2:(100:Int)<(r.Value.size:Int)
  ·exact⟨1000,by rw[aw h1,ay h2];rfl,by omega,by omega,fun h=>by omega⟩
  rw[aw h1,aw h2,d3,d3,Option.bind_some,Sum.elim_inl,vW]
  have key:∃v:Int,am (fun(s:Int×Int)=>nU (lK N') r (d:Int) s.1 s.2) Fu (1,0)=some v∧(1≤v∧v≤1000*(((m+1:Nat):Int)+1)∧(v≤100→ph (m+1) r)):=by
   refine lq (fun q (s:Int×Int)=>∃k:Nat,k≤r.Kids.length∧q=2000-s.1.toNat+1∧s.2=(k:Int)∧1+(k:Int)≤s.1∧s.1≤1000*(((m+1:Nat):Int)+1)∧(s.1≤100→∀x∈r.Kids.take k,ph m x)) _ ?_ Fu 2000 (1,0) ⟨0,by omega,by simp,rfl,by simp,by simp;omega,fun _=>by simp⟩ (by rw[kK];omega)
   rintro q ⟨n,i⟩ ⟨k,hk,hq,hi,h3,h4,h5⟩
   dsimp only at hi h3 h4 h5 hq
   subst hi
   by_cases hn:n<1000
   case neg=>
    refine .inr ⟨n,?_,by omega,by omega,fun h=>by omega⟩
    simp only[nU,aw hn]
    by_cases hkl:(k:Int)<(r.Kids.length:Int)
    ·simp only[ay hkl,if_true,Bool.false_eq_true,if_false,Option.bind_some,Sum.elim_inr]
    ·simp only[aw hkl,Bool.false_eq_true,if_false,Option.bind_some,Sum.elim_inr]
   by_cases e:k=r.Kids.length
   ·subst e
    refine .inr ⟨n,?_,by omega,by omega,fun h=>⟨by omega,by omega,by omega,by have:=h5 h;rwa [List.take_length]at this⟩⟩
    simp only[nU,aw (by omega:¬(r.Kids.length:Int)<(r.Kids.length:Int)),Bool.false_eq_true,if_false,Option.bind_some,Sum.elim_inr]
   ·have hk2:k<r.Kids.length:=by omega
    obtain⟨v,hv,v1,v2,v3⟩:=ih r.Kids[k] (d+1) N' (by omega) (by omega)
    refine .inl ⟨(n+v,((k+1:Nat):Int)),2000-(n+v).toNat+1,?_,by omega,k+1,by omega,rfl,rfl,by dsimp only;omega,by dsimp only;omega,fun h x hx=>?_⟩
    ·simp only[nU,ay (by omega:(k:Int)<(r.Kids.length:Int)),ay hn,if_true,Option.bind_some,Sum.elim_inl,zz,aD (by omega:(0:Int)≤(k:Int)),Int.toNat_natCast,List.getElem?_eq_getElem hk2]
     rw[ig (by omega:d<1099511627776),hv,Option.bind_some,dz (by omega) (by omega),ig (by omega)]
    ·dsimp only at h
     rw[List.take_succ_eq_append_getElem hk2]at hx
     rcases List.mem_append.1 hx with hx | hx
     ·exact h5 (by omega) x hx
     ·rw[List.mem_singleton.1 hx];exact v3 (by omega)
  obtain⟨v,h3,h4,h5,h6⟩:=key
  exact⟨v,h3,h4,h5,h6⟩
theorem Jv (r:af):∃b,vY r=some b∧(b=true→ph 31 r):=by
 obtain⟨v,h1,h2,h3,h4⟩:=Ju 31 r 0 Fu (by omega) (by rw[kK];omega)
 refine⟨decide (v≤100),?_,fun h=>h4 (by simpa using h)⟩
 rw[vY,zA,show(0:Int)=((0:Nat):Int) from rfl,h1,Option.bind_some]
end Go.Proofs.YtjklegmimpehlaaGreat.Ab
namespace Go.Proofs.YtjklegmimpehlaaGreat.Ab
open Go Go.RowKit
set_option linter.unusedVariables false
set_option linter.unusedSimpArgs false
def fM (k:Int):Bool:=decide (k=1)||(decide (k=2)||decide (k=3))
def cC:Nat→af→List UInt8
 | 0,_=>[]
 | d+1,r=>UInt8.ofNat r.Kind.toNat :: (if fM r.Kind=true then bP r.Kids.length++r.Kids.flatMap (cC d)else if r.Kind=6 then co r.Key++co r.Value else if r.Kind=5 then[]else bP r.N.toNat)
theorem yz (k:Int):(if(k == 1)=true then(some true)else(if(k == 2)=true then(some true)else(some (k == 3))))=some (fM k):=by
 unfold fM
 by_cases h1:k=1
 ·simp[h1]
 by_cases h2:k=2
 ·simp[h2]
 by_cases h3:k=3
 ·simp[h3]
 simp[h1,h2,h3]
theorem yA {r:af} (h:iC r=true):1≤r.Kind∧r.Kind≤9∧r.Key.size≤16∧r.Value.size≤16∧(r.Kind≠1→r.Kind≠2→r.Kind≠3→r.Kids.length=0)∧0≤r.N∧r.N≤1073741824∧(r.Kind≠6→r.Key=aa []∧r.Value=aa [])∧(fM r.Kind=true∨r.Kind=5∨r.Kind=6→r.N=0)∧(r.Kind=4∨r.Kind=7∨r.Kind=8∨r.Kind=9→r.N≤eJ r.Kind):=by
 have e0:(aa []).size=0:=rfl
 unfold iC at h
 by_cases k1:r.Kind=1
 ·simp only[k1,true_or,if_true,decide_eq_true_eq]at h
  obtain⟨h1,h2,h3⟩:=h
  refine⟨by omega,by omega,by rw[h2,e0];omega,by rw[h3,e0];omega,fun a=>absurd k1 a,by omega,by omega,fun _=>⟨h2,h3⟩,fun _=>h1,fun a=>by omega⟩
 by_cases k2:r.Kind=2
 ·simp only[k2,or_true,if_true,decide_eq_true_eq]at h
  obtain⟨h1,h2,h3⟩:=h
  refine⟨by omega,by omega,by rw[h2,e0];omega,by rw[h3,e0];omega,fun _ a=>absurd k2 a,by omega,by omega,fun _=>⟨h2,h3⟩,fun _=>h1,fun a=>by omega⟩
 simp only[k1,k2,or_self,if_false]at h
 by_cases k3:r.Kind=3
 ·simp only[k3,if_true,decide_eq_true_eq]at h
  obtain⟨h1,h2,h3,h4⟩:=h
  refine⟨by omega,by omega,by rw[h2,e0];omega,by rw[h3,e0];omega,fun _ _ a=>absurd k3 a,by omega,by omega,fun _=>⟨h2,h3⟩,fun _=>h1,fun a=>by omega⟩
 simp only[k3,if_false]at h
 by_cases k5:r.Kind=5
 ·simp only[k5,if_true,decide_eq_true_eq]at h
  obtain⟨h1,h2,h3,h4⟩:=h
  refine⟨by omega,by omega,by rw[h2,e0];omega,by rw[h3,e0];omega,fun _ _ _=>h4,by omega,by omega,fun _=>⟨h2,h3⟩,fun _=>h1,fun a=>by omega⟩
 simp only[k5,if_false]at h
 by_cases k6:r.Kind=6
 ·simp only[k6,if_true,Bool.and_eq_true,decide_eq_true_eq,mz]at h
  obtain⟨⟨⟨h1,h2⟩,h3⟩,h4⟩:=h
  refine⟨by omega,by omega,by omega,by omega,fun _ _ _=>h4,by omega,by omega,fun a=>absurd k6 a,fun _=>h1,fun a=>by omega⟩
 simp only[k6,if_false,decide_eq_true_eq]at h
 obtain⟨h1,h2,h3,h4,h5⟩:=h
 have ht:eJ r.Kind≤1073741824:=by unfold eJ;split<;>(try split)<;>(try split)<;>omega
 have hk:r.Kind=4∨r.Kind=7∨r.Kind=8∨r.Kind=9:=by
  unfold eJ at h4
  by_cases a4:r.Kind=4
  ·exact .inl a4
  by_cases a7:r.Kind=7∨r.Kind=8
  ·omega
  by_cases a9:r.Kind=9
  ·omega
  rw[if_neg a4,if_neg a7,if_neg a9]at h4;omega
 refine⟨by omega,by omega,by rw[h1,e0];omega,by rw[h2,e0];omega,fun _ _ _=>h5,h3,by omega,fun _=>⟨h1,h2⟩,fun a=>?_,fun _=>h4⟩
 exfalso
 rcases a with a | a | a
 ·simp only[fM,k1,k2,k3,decide_false,Bool.or_self,Bool.false_eq_true]at a
 ·exact k5 a
 ·exact k6 a
theorem Jw {k:Int} (h:fM k=true):k=1∨k=2∨k=3:=by simpa [fM] using h
theorem Jx {k:Int} (h:fM k=false):k≠1∧k≠2∧k≠3:=by simpa [fM] using h
theorem yB {f:af→List UInt8} {g:af→Nat}:∀(l:List af),(∀x∈l,(f x).length≤60*g x)→(l.flatMap f).length≤60*dk g l
 | [],_=>by simp[dk]
 | r :: l,h=>by
  have h1:=h r List.mem_cons_self
  have h2:=yB l fun x hx=>h x (List.mem_cons_of_mem _ hx)
  simp only[List.flatMap_cons,List.length_append,dk];omega
theorem rZ (f:af→Nat):∀(l:List af) (x:af),x∈l→f x≤dk f l
 | [],x,h=>by cases h
 | r :: l,x,h=>by
  rcases List.mem_cons.1 h with rfl | h
  ·simp only[dk];omega
  ·have:=rZ f l x h
   simp only[dk];omega
theorem yC:∀(d:Nat) (r:af),dl d r=true→bQ d r≤1000→(cC d r).length≤60*bQ d r
 | 0,r,h,_=>by cases h
 | d+1,r,h,hn=>by
  simp only[dl,Bool.and_eq_true,List.all_eq_true]at h
  simp only[bQ]at hn
  obtain⟨a1,a2,a3,a4,a5,a6,a7,a8,a9⟩:=yA h.1
  have hk:=yB (g:=bQ d) r.Kids fun x hx=>yC d x (h.2 x hx) (by have:=rZ (bQ d) r.Kids x hx;omega)
  have hpos:∀x∈r.Kids,1≤bQ d x:=fun x hx=>by
   cases d with
   | zero=>exact absurd (h.2 x hx) (by simp[dl])
   | succ d=>exact pg d x
  have hlen:=nz (bQ d) _ hpos
  simp only[cC,List.length_cons,bQ]
  split
  ·have hp:=ib (n:=r.Kids.length) (by omega)
   simp only[List.length_append];omega
  ·split
   ·have h1:=jW r.Key (by omega)
    have h2:=jW r.Value (by omega)
    simp only[List.length_append];omega
   ·split
    ·simp only[List.length_nil];omega
    ·have:=ib (n:=r.N.toNat) (by omega)
     omega
theorem DN {l:List UInt8} (h:l.length≤1000000000):l.length*1≤140737488355328∧l.length≤140737488355328:=by omega
theorem Jy {k:Int} (h0:0≤k) (h:k≤9):u8 (IntKind.u8.wrap k)=UInt8.ofNat k.toNat:=by
 obtain⟨m,rfl⟩:=Int.eq_ofNat_of_zero_le h0
 rw[lB];rfl
theorem DO (c:List UInt8) {n:Int} (h0:0≤n) (h1:n<18446744073709551616) (hc:c.length≤1099511627700):dm c n=some (c++bP n.toNat):=by
 obtain⟨m,rfl⟩:=Int.eq_ofNat_of_zero_le h0
 exact uS c m (by omega) hc
theorem Jz:∀(d:Nat) (r:af) (N:Nat) (w:aE),dl d r=true→bQ d r≤1000→d≤N→w.B.length+60*bQ d r≤100000000→nX N w r=some ⟨w.B++cC d r⟩∧n3 N w.B r=some (w.B++cC d r):=by
 intro d
 induction d with
 | zero=>intro r N w h;cases h
 | succ d ih=>
  intro r N w h hn hN hl
  obtain⟨N',rfl,hN'⟩:=gF (by omega:d<N)
  simp only[dl,Bool.and_eq_true,List.all_eq_true]at h
  obtain⟨ho,hk⟩:=h
  obtain⟨a1,a2,a3,a4,a5,a6,a7,a8,a9⟩:=yA ho
  have hpos:∀x∈r.Kids,1≤bQ d x:=fun x hx=>by
   cases d with
   | zero=>exact absurd (hk x hx) (by simp[dl])
   | succ d=>exact pg d x
  have hlen:=nz (bQ d) _ hpos
  have hnum:bQ (d+1) r=1+dk (bQ d) r.Kids:=rfl
  rw[nX,zO,n3,zX,aD (DN (by simp;omega)),aD (DN (by simp;omega)),yz,Option.bind_some,Option.bind_some,zN,zW,Jy (by omega) a2,cC]
  cases hkk:fM r.Kind with
  | true=>
   simp only[if_true]
   have hp:=ib (n:=r.Kids.length) (by omega)
   rw[gn _ _ (fun n hn=>by rw[List.mem_singleton.1 hn];omega) (by simp;omega),Option.bind_some,jT _ (by omega),uS _ _ (by omega) (by simp;omega),Option.bind_some]
   have e1:bC [(r.Kids.length:Int)]=bP r.Kids.length:=by simp[bC]
   dsimp only
   rw[e1]
   generalize hC:w.B++[UInt8.ofNat r.Kind.toNat]++bP r.Kids.length=C
   have hB:w.B++UInt8.ofNat r.Kind.toNat :: (bP r.Kids.length++r.Kids.flatMap (cC d))=C++r.Kids.flatMap (cC d):=by rw[← hC];simp
   rw[hB]
   have hst:∀(k:Nat) (hk2:k<r.Kids.length),bQ d r.Kids[k]≤1000∧(C++(r.Kids.take k).flatMap (cC d)).length+60*bQ d r.Kids[k]≤100000000:=fun k hk2=>by
    have h1:=rW (bQ d) r.Kids (k+1)
    have h2:=rY (bQ d) r.Kids k hk2
    have h3:=yB (g:=bQ d) (r.Kids.take k) fun x hx=>yC d x (hk x (List.mem_of_mem_take hx)) (by have:=rZ (bQ d) r.Kids x (List.mem_of_mem_take hx);omega)
    have h4:C.length≤w.B.length+11:=by rw[← hC];simp;omega
    rw[List.length_append];omega
   constructor
   ·refine fd (l:=r.Kids) (fun k q s=>s=(C++(r.Kids.take k).flatMap (cC d),(k:Int))∧q=⟨C++r.Kids.flatMap (cC d)⟩) (by omega) ?_ ?_ ⟨by simp,rfl⟩
    ·rintro k hk2 q s ⟨rfl,rfl⟩
     refine .inl ⟨(C++(r.Kids.take (k+1)).flatMap (cC d),((k+1:Nat):Int)),?_,rfl,rfl⟩
     simp only[sK,ay (by omega:(k:Int)<(r.Kids.length:Int)),if_true,aD (by omega:(0:Int)≤(k:Int)),Int.toNat_natCast,List.getElem?_eq_getElem hk2,Option.bind_some]
     rw[(ih r.Kids[k] N' ⟨C++(r.Kids.take k).flatMap (cC d)⟩ (hk _ (List.getElem_mem hk2)) (hst k hk2).1 hN' (hst k hk2).2).1,Option.bind_some,ig (by omega),List.take_succ_eq_append_getElem hk2,List.flatMap_append,List.append_assoc]
     simp
    ·rintro q s ⟨rfl,rfl⟩
     simp only[sK,aw (by omega:¬(r.Kids.length:Int)<(r.Kids.length:Int)),Bool.false_eq_true,if_false,List.take_length]
   ·refine fd (l:=r.Kids) (fun k q s=>s=(C++(r.Kids.take k).flatMap (cC d),(k:Int))∧q=C++r.Kids.flatMap (cC d)) (by omega) ?_ ?_ ⟨by simp,rfl⟩
    ·rintro k hk2 q s ⟨rfl,rfl⟩
     refine .inl ⟨(C++(r.Kids.take (k+1)).flatMap (cC d),((k+1:Nat):Int)),?_,rfl,rfl⟩
     simp only[sM,ay (by omega:(k:Int)<(r.Kids.length:Int)),if_true,aD (by omega:(0:Int)≤(k:Int)),Int.toNat_natCast,List.getElem?_eq_getElem hk2,Option.bind_some]
     rw[(ih r.Kids[k] N' ⟨C++(r.Kids.take k).flatMap (cC d)⟩ (hk _ (List.getElem_mem hk2)) (hst k hk2).1 hN' (hst k hk2).2).2,Option.bind_some,ig (by omega),List.take_succ_eq_append_getElem hk2,List.flatMap_append,List.append_assoc]
     simp
    ·rintro q s ⟨rfl,rfl⟩
     simp only[sM,aw (by omega:¬(r.Kids.length:Int)<(r.Kids.length:Int)),Bool.false_eq_true,if_false,List.take_length]
  | false=>
   simp only[Bool.false_eq_true,if_false]
   by_cases k6:r.Kind=6
   ·have e6:(r.Kind == 6)=true:=by simpa using k6
    have h1:=jW r.Key (by omega)
    rw[e6,eI,eI,if_pos k6,pe _ _ 16 (by omega) (fun x hx=>by
     simp only[List.mem_cons,List.not_mem_nil,or_false]at hx
     rcases hx with rfl | rfl<;>omega) (by simp;omega),Option.bind_some,ns _ _ (by simp;omega) (by omega),Option.bind_some,ns _ _ (by simp;omega) (by omega),Option.bind_some]
    constructor
    ·simp[dA]
    ·simp
   have e6:(r.Kind == 6)=false:=by simpa using k6
   rw[e6,d3,d3,if_neg k6]
   by_cases k5:r.Kind=5
   ·have e5:(r.Kind == 5)=true:=by simpa using k5
    rw[e5,eI,eI,if_pos k5]
    exact⟨rfl,rfl⟩
   have e5:(r.Kind == 5)=false:=by simpa using k5
   rw[e5,d3,d3,if_neg k5,gn _ _ (fun n hn=>by rw[List.mem_singleton.1 hn];omega) (by simp;omega),Option.bind_some,fL a6 (by omega),DO _ a6 (by omega) (by simp;omega),Option.bind_some]
   constructor
   ·simp[bC]
   ·simp
end Go.Proofs.YtjklegmimpehlaaGreat.Ab
namespace Go.Proofs.YtjklegmimpehlaaGreat.Ab
open Go Go.RowKit
set_option linter.unusedVariables false
set_option linter.unusedSimpArgs false
def eV (p:List UInt8→Option (af×List UInt8)):Nat→List UInt8→Option (List af×List UInt8)
 | 0,b=>some ([],b)
 | k+1,b=>match p b with
  | none=>none
  | some (r,b1)=>match eV p k b1 with
   | none=>none
   | some (l,q)=>some (r :: l,q)
def pR (T:Int→Int):Nat→List UInt8→Option (af×List UInt8)
 | 0,_=>none
 | d+1,b=>match b with
  | []=>none
  | c :: b=>if fM (c.toNat:Int)=true then(match dC 20 b with
    | none=>none
    | some (n,b1)=>match eV (pR T d) n.toNat b1 with
     | none=>none
     | some (l,q)=>some (⟨(c.toNat:Int),0,aa [],aa [],l⟩,q))
   else if(c.toNat:Int)=6 then(match pT b with
    | none=>none
    | some (x,b1)=>match pT b1 with
     | none=>none
     | some (v,b2)=>some (⟨6,0,x,v,[]⟩,b2))
   else if(c.toNat:Int)=5 then some (⟨5,0,aa [],aa [],[]⟩,b)
   else if T (c.toNat:Int)<0 then none
   else match dC (T (c.toNat:Int)) b with
    | none=>none
    | some (n,q)=>some (⟨(c.toNat:Int),n,aa [],aa [],[]⟩,q)
theorem DP {p:List UInt8→Option (af×List UInt8)} {f:af→List UInt8} (h:∀b r q,p b=some (r,q)→b=f r++q):∀(k:Nat) (b q:List UInt8) (l:List af),eV p k b=some (l,q)→l.length=k∧b=l.flatMap f++q
 | 0,b,q,l,e=>by
  simp only[eV,Option.some.injEq,Prod.mk.injEq]at e
  obtain⟨rfl,rfl⟩:=e
  exact⟨rfl,by simp⟩
 | k+1,b,q,l,e=>by
  simp only[eV]at e
  split at e
  ·cases e
  ·rename_i r b1 h1
   split at e
   ·cases e
   ·rename_i l2 q2 h2
    simp only[Option.some.injEq,Prod.mk.injEq]at e
    obtain⟨rfl,rfl⟩:=e
    obtain⟨h3,h4⟩:=DP h k _ _ _ h2
    refine⟨by simp[h3],?_⟩
    rw[h _ _ _ h1,h4];simp
theorem uZ (c:UInt8):UInt8.ofNat ((c.toNat:Int)).toNat=c:=by simp
theorem yD (T:Int→Int):∀(d:Nat) (b q:List UInt8) (r:af),pR T d b=some (r,q)→b=cC d r++q
 | 0,b,q,r,h=>by cases h
 | d+1,[],q,r,h=>by simp[pR]at h
 | d+1,c :: b,q,r,h=>by
  simp only[pR]at h
  by_cases hk:fM (c.toNat:Int)=true
  ·rw[if_pos hk]at h
   split at h
   ·cases h
   ·rename_i n b1 h1
    split at h
    ·cases h
    ·rename_i l q2 h2
     simp only[Option.some.injEq,Prod.mk.injEq]at h
     obtain⟨rfl,rfl⟩:=h
     have hn:=ed h1
     obtain⟨h3,h4⟩:=DP (fun b r q=>yD T d b q r) _ _ _ _ h2
     simp only[cC,hk,if_true,uZ,List.cons_append,List.append_assoc]
     rw[hn.2.2,h4,h3]
  rw[if_neg hk]at h
  by_cases h6:(c.toNat:Int)=6
  ·rw[if_pos h6]at h
   split at h
   ·cases h
   ·rename_i x b1 h1
    split at h
    ·cases h
    ·rename_i v b2 h2
     simp only[Option.some.injEq,Prod.mk.injEq]at h
     obtain⟨rfl,rfl⟩:=h
     have hc:c=UInt8.ofNat 6:=by rw[← uZ c,h6];rfl
     simp only[cC,show fM 6=false from rfl,Bool.false_eq_true,if_false,if_true,List.cons_append,List.append_assoc]
     rw[eU h1,eU h2,hc];rfl
  rw[if_neg h6]at h
  by_cases h5:(c.toNat:Int)=5
  ·rw[if_pos h5]at h
   simp only[Option.some.injEq,Prod.mk.injEq]at h
   obtain⟨rfl,rfl⟩:=h
   have hc:c=UInt8.ofNat 5:=by rw[← uZ c,h5];rfl
   rw[hc];rfl
  rw[if_neg h5]at h
  split at h
  ·cases h
  ·split at h
   ·cases h
   ·rename_i n q2 h1
    simp only[Option.some.injEq,Prod.mk.injEq]at h
    obtain⟨rfl,rfl⟩:=h
    simp only[cC,hk,if_false,h6,h5,uZ,List.cons_append]
    rw[(ed h1).2.2];rfl
theorem DQ {p:List UInt8→Option (af×List UInt8)} {f:af→List UInt8}:∀(l:List af) (q:List UInt8),(∀x∈l,∀q,p (f x++q)=some (x,q))→eV p l.length (l.flatMap f++q)=some (l,q)
 | [],q,_=>by simp[eV]
 | r :: l,q,h=>by
  have e:(r :: l).flatMap f++q=f r++(l.flatMap f++q):=by simp
  simp only[List.length_cons,eV,e,h r List.mem_cons_self,DQ l q fun x hx=>h x (List.mem_cons_of_mem _ hx)]
def u1 (T:Int→Int):Prop:=∀k,(k=4∨k=7∨k=8∨k=9)→eJ k≤T k∧T k<9223372036854775808
theorem u2 {r:af} {k n:Int} {x v:ByteArray} {l:List af} (h1:r.Kind=k) (h2:r.N=n) (h3:r.Key=x) (h4:r.Value=v) (h5:r.Kids=l):r=⟨k,n,x,v,l⟩:=by cases r;simp_all
theorem nA (T:Int→Int) (hT:u1 T):∀(d:Nat) (r:af) (q:List UInt8),dl d r=true→bQ d r≤20→pR T d (cC d r++q)=some (r,q)
 | 0,r,q,h,_=>by cases h
 | d+1,r,q,h,hn=>by
  simp only[dl,Bool.and_eq_true,List.all_eq_true]at h
  obtain⟨ho,hk⟩:=h
  simp only[bQ]at hn
  obtain⟨a1,a2,a3,a4,a5,a6,a7,a8,a9,a10⟩:=yA ho
  have hpos:∀x∈r.Kids,1≤bQ d x:=fun x hx=>by
   cases d with
   | zero=>exact absurd (hk x hx) (by simp[dl])
   | succ d=>exact pg d x
  have hlen:=nz (bQ d) _ hpos
  have hb:(((UInt8.ofNat r.Kind.toNat).toNat:Nat):Int)=r.Kind:=by rw[UInt8.toNat_ofNat'];omega
  simp only[cC,List.cons_append,pR,hb]
  cases hkk:fM r.Kind with
  | true=>
   simp only[if_true,List.append_assoc]
   rw[show bP r.Kids.length=bP ((r.Kids.length:Int)).toNat by simp,mw (by omega) (by omega) (by omega)]
   dsimp only
   rw[Int.toNat_natCast,DQ r.Kids q fun x hx q=>nA T hT d x q (hk x hx) (by have:=rZ (bQ d) r.Kids x hx;omega)]
   have h6:r.Kind≠6:=by have:=Jw hkk;omega
   dsimp only
   rw[← u2 rfl (a9 (.inl hkk)) (a8 h6).1 (a8 h6).2 rfl]
  | false=>
   obtain⟨k1,k2,k3⟩:=Jx hkk
   have h0:r.Kids=[]:=List.length_eq_zero_iff.1 (a5 k1 k2 k3)
   simp only[Bool.false_eq_true,if_false]
   by_cases k6:r.Kind=6
   ·simp only[k6,if_true,List.append_assoc]
    rw[mx _ (by omega)]
    dsimp only
    rw[mx _ (by omega)]
    dsimp only
    rw[← u2 k6 (a9 (.inr (.inr k6))) rfl rfl h0]
   simp only[k6,if_false]
   by_cases k5:r.Kind=5
   ·simp only[k5,if_true,List.nil_append]
    rw[← u2 k5 (a9 (.inr (.inl k5))) (a8 k6).1 (a8 k6).2 h0]
   simp only[k5,if_false]
   have k4:r.Kind=4∨r.Kind=7∨r.Kind=8∨r.Kind=9:=by omega
   obtain⟨t1,t2⟩:=hT _ k4
   have t3:=a10 k4
   rw[if_neg (by omega),mw a6 (by omega) (by omega)]
   dsimp only
   rw[← u2 rfl rfl (a8 k6).1 (a8 k6).2 h0]
theorem DR {T:Int→Int} {d:Nat} {b q:List UInt8} {r:af} {m:Nat} (h:pR T d b=some (r,q)) (hb:b.length≤m):q.length≤m:=cU (yD T d b q r h) hb
theorem DS {l:List af} (h:l.length≤100):l.length*72≤140737488355328∧l.length≤140737488355328:=by omega
def r4 (K:Z→Int→Option (af×Z)) (dd:Int) (p:List UInt8→Option (af×List UInt8)):Prop:=
 ∀b:List UInt8,b.length≤1099511627776→(∀r q,p b=some (r,q)→K ⟨b,false⟩ dd=some (r,⟨q,false⟩))∧(p b=none→∃r q,K ⟨b,false⟩ dd=some (r,q)∧q.Bad=true)
theorem JA {K:Z→Int→Option (af×Z)} {a1:Int} {p:List UInt8→Option (af×List UInt8)} (x:Int×Z) (hK:r4 K (IntKind.i64.wrap (a1-1)) p) (hp:∀b r q m,p b=some (r,q)→b.length≤m→q.length≤m):∀(m i N:Nat) (b:List UInt8) (acc:List af),(i:Int)+m=x.1→m<N→acc.length+m≤60→i+m≤60→b.length≤1099511627776 →
  (∀l q,eV p m b=some (l,q)→am (fun(s:List UInt8×Bool×List af×Int)=>iJ K a1 x s.1 s.2.1 s.2.2.1 s.2.2.2) N (b,false,acc,(i:Int))=some (acc++l,⟨q,false⟩)) ∧
  (eV p m b=none→∃l q,am (fun(s:List UInt8×Bool×List af×Int)=>iJ K a1 x s.1 s.2.1 s.2.2.1 s.2.2.2) N (b,false,acc,(i:Int))=some (l,q)∧q.Bad=true):=by
 intro m
 induction m with
 | zero=>
  intro i N b acc hi hN _ _ _
  obtain⟨N',rfl⟩:∃N',N=N'+1:=⟨N-1,by omega⟩
  refine⟨fun l q h=>?_,fun h=>by cases h⟩
  simp only[eV,Option.some.injEq,Prod.mk.injEq]at h
  obtain⟨rfl,rfl⟩:=h
  exact eC (by simp only[iJ,aw (by omega:¬(i:Int)<x.1),Bool.false_eq_true,if_false,List.append_nil])
 | succ m ih=>
  intro i N b acc hi hN ha hi2 hb
  obtain⟨N',rfl⟩:∃N',N=N'+1:=⟨N-1,by omega⟩
  have hfit:∀a:af,(acc++[a]).length*72≤140737488355328∧(acc++[a]).length≤140737488355328:=fun a=>DS (by simp;omega)
  obtain⟨K1,K2⟩:=hK b hb
  cases h1:p b with
  | none=>
   refine⟨fun l q h=>by simp[eV,h1]at h,fun _=>?_⟩
   obtain⟨r,⟨qB,qf⟩,hr,hq⟩:=K2 h1
   dsimp only at hq
   subst hq
   refine⟨acc++[r],⟨qB,true⟩,?_,rfl⟩
   rw[eb (s':=(qB,true,acc++[r],((i+1:Nat):Int)))]
   ·obtain⟨N2,rfl⟩:∃N2,N'=N2+1:=⟨N'-1,by omega⟩
    refine eC ?_
    simp only[iJ]
    by_cases h:((i+1:Nat):Int)<x.1
    ·simp only[ay h,if_true]
    ·simp only[aw h,Bool.false_eq_true,if_false]
   ·simp only[iJ,ay (by omega:(i:Int)<x.1),if_true,Bool.false_eq_true,if_false,hr,Option.bind_some,aD (hfit _),ig (by omega:i<1099511627776)]
  | some pr=>
   obtain⟨r,b1⟩:=pr
   have hb1:=hp _ _ _ _ h1 hb
   have hg:=K1 _ _ h1
   have hstep:am (fun(s:List UInt8×Bool×List af×Int)=>iJ K a1 x s.1 s.2.1 s.2.2.1 s.2.2.2) (N'+1) (b,false,acc,(i:Int))=am (fun(s:List UInt8×Bool×List af×Int)=>iJ K a1 x s.1 s.2.1 s.2.2.1 s.2.2.2) N' (b1,false,acc++[r],((i+1:Nat):Int)):=
    eb (by simp only[iJ,ay (by omega:(i:Int)<x.1),if_true,Bool.false_eq_true,if_false,hg,Option.bind_some,aD (hfit _),ig (by omega:i<1099511627776)])
   obtain⟨g1,g2⟩:=ih (i+1) N' b1 (acc++[r]) (by omega) (by omega) (by simp;omega) (by omega) hb1
   rw[hstep]
   refine⟨fun l q h=>?_,fun h=>?_⟩
   ·simp only[eV,h1]at h
    split at h
    ·cases h
    ·rename_i l2 q2 h3
     simp only[Option.some.injEq,Prod.mk.injEq]at h
     obtain⟨rfl,rfl⟩:=h
     rw[g1 _ _ h3];simp
   ·simp only[eV,h1]at h
    split at h
    ·rename_i h3;exact g2 h3
    ·cases h
theorem mA (c:UInt8):IntKind.i64.wrap (c.toNat:Int)=(c.toNat:Int):=by have:=c.toNat_lt;exact dz (by omega) (by omega)
theorem JB:∀(d N:Nat),d<N→d≤100→r4 (j8 N) (d:Int) (pR eJ d):=by
 intro d
 induction d with
 | zero=>
  intro N hN _ b hb
  obtain⟨N',rfl,_⟩:=gF hN
  refine⟨fun r q h=>by simp[pR]at h,fun _=>?_⟩
  rw[j8,pQ]
  by_cases h:1≤b.length
  ·rw[show(1:Int)=((1:Nat):Int) from rfl,rT h,Option.bind_some,ay (by omega)]
   exact⟨_,_,rfl,rfl⟩
  ·rw[show(1:Int)=((1:Nat):Int) from rfl,rU (.inr (by omega)),Option.bind_some,ay (by omega)]
   exact⟨_,_,rfl,rfl⟩
 | succ d ih=>
  intro N hN hd b hb
  obtain⟨N',rfl,hN'⟩:=gF hN
  have hK:=ih N' (by omega) (by omega)
  have hd1:IntKind.i64.wrap (((d+1:Nat):Int)-1)=(d:Int):=by rw[dz (by omega) (by omega)];omega
  rw[j8]
  cases b with
  | nil=>
   refine⟨fun r q h=>by simp[pR]at h,fun _=>?_⟩
   rw[pQ,show(1:Int)=((1:Nat):Int) from rfl,rU (.inr (by simp)),Option.bind_some,aw (by omega),d3]
   exact⟨_,_,rfl,rfl⟩
  | cons c b=>
   simp only[List.length_cons]at hb
   have hcode:pQ (j8 N') ⟨c :: b,false⟩ ((d+1:Nat):Int)=we (j8 N') ((d+1:Nat):Int) ([c],⟨b,false⟩) c (fM (c.toNat:Int)):=by
    rw[pQ,show(1:Int)=((1:Nat):Int) from rfl,rT (by simp),Option.bind_some,aw (by omega),d3]
    simp only[List.take_succ_cons,List.take_zero,List.drop_succ_cons,List.drop_zero,List.length_cons,List.length_nil]
    rw[show((((0+1:Nat):Int)) == 0)=false from rfl,Option.bind_some,zR]
    simp only[Bool.false_eq_true,if_false,Option.bind_some,Sum.elim_inl,zS,List.getElem?_cons_zero,mA,yz]
   rw[hcode,we,mA]
   simp only[pR]
   cases hkk:fM (c.toNat:Int)with
   | true=>
    simp only[if_true,zQ]
    cases hn:dC 20 b with
    | none=>
     refine⟨fun r q h=>(by cases h),fun _=>?_⟩
     rw[nt (by omega) (by omega) (by omega) hn,Option.bind_some]
     have:am (fun(s:List UInt8×Bool×List af×Int)=>iJ (j8 N') ((d+1:Nat):Int) (0,⟨[],true⟩) s.1 s.2.1 s.2.2.1 s.2.2.2) Fu ([],true,[],0)=some ([],⟨[],true⟩):=uW (by simp only[iJ,aw (by omega:¬(0:Int)<0),Bool.false_eq_true,if_false])
     dsimp only
     rw[this]
     exact⟨_,_,rfl,rfl⟩
    | some pn=>
     obtain⟨n,b1⟩:=pn
     have hs:=ed hn
     have hb1:=cU hs.2.2 (by omega:b.length≤1099511627776)
     obtain⟨n',rfl⟩:=Int.eq_ofNat_of_zero_le hs.1.1
     have hn20:n'≤20:=by have:=hs.2.1;omega
     rw[gD (by omega) (by omega) (by omega) hn,Option.bind_some]
     obtain⟨g1,g2⟩:=JA (a1:=((d+1:Nat):Int)) ((n':Int),⟨b1,false⟩) (by rw[hd1];exact hK) (fun b r q m h hb=>DR h hb) n' 0 Fu b1 [] (by simp) (by rw[kI];omega) (by simp;omega) (by omega) hb1
     simp only[Int.natCast_zero,List.nil_append]at g1 g2
     dsimp only
     simp only[Int.toNat_natCast]
     cases hp:eV (pR eJ d) n' b1 with
     | none=>
      refine⟨fun r q h=>(by cases h),fun _=>?_⟩
      obtain⟨l,q,e1,e2⟩:=g2 hp
      rw[e1,Option.bind_some]
      exact⟨_,_,rfl,e2⟩
     | some pl=>
      obtain⟨l,q⟩:=pl
      refine⟨fun r q' h=>?_,fun h=>by cases h⟩
      simp only[Option.some.injEq,Prod.mk.injEq]at h
      obtain⟨rfl,rfl⟩:=h
      rw[g1 _ _ hp,Option.bind_some]
   | false=>
    simp only[Bool.false_eq_true,if_false]
    by_cases h6:(c.toNat:Int)=6
    ·simp only[h6,beq_self_eq_true,if_true]
     cases h1:pT b with
     | none=>
      refine⟨fun r q h=>(by cases h),fun _=>?_⟩
      rw[nu (by omega) h1,Option.bind_some,iB]
      exact⟨_,_,rfl,rfl⟩
     | some p1=>
      obtain⟨x,b1⟩:=p1
      have hb1:=cU (eU h1) (by omega:b.length≤1099511627776)
      rw[fm (by omega) h1,Option.bind_some]
      dsimp only
      cases h2:pT b1 with
      | none=>
       refine⟨fun r q h=>(by cases h),fun _=>?_⟩
       rw[nu hb1 h2]
       exact⟨_,_,rfl,rfl⟩
      | some p2=>
       obtain⟨v,b2⟩:=p2
       refine⟨fun r q h=>?_,fun h=>by cases h⟩
       simp only[Option.some.injEq,Prod.mk.injEq]at h
       obtain⟨rfl,rfl⟩:=h
       rw[fm hb1 h2];rfl
    have e6:((c.toNat:Int) == 6)=false:=by simpa using h6
    simp only[e6,Bool.false_eq_true,if_false,h6]
    by_cases h5:(c.toNat:Int)=5
    ·simp only[h5,beq_self_eq_true,if_true]
     refine⟨fun r q h=>?_,fun h=>by cases h⟩
     simp only[Option.some.injEq,Prod.mk.injEq]at h
     obtain⟨rfl,rfl⟩:=h
     rfl
    have e5:((c.toNat:Int) == 5)=false:=by simpa using h5
    simp only[e5,Bool.false_eq_true,if_false,h5,DL,Option.bind_some]
    by_cases ht:eJ (c.toNat:Int)<0
    ·refine⟨fun r q h=>by simp[ht]at h,fun _=>?_⟩
     rw[ay ht,eI]
     exact⟨_,_,rfl,rfl⟩
    ·have ht2:eJ (c.toNat:Int)<9223372036854775808:=by unfold eJ;split<;>(try split)<;>(try split)<;>omega
     rw[aw ht,d3,if_neg ht]
     cases hn:dC (eJ (c.toNat:Int)) b with
     | none=>
      refine⟨fun r q h=>(by cases h),fun _=>?_⟩
      rw[nt (by omega) ht2 (by omega) hn]
      exact⟨_,_,rfl,rfl⟩
     | some pn=>
      obtain⟨n,q⟩:=pn
      refine⟨fun r q' h=>?_,fun h=>by cases h⟩
      simp only[Option.some.injEq,Prod.mk.injEq]at h
      obtain⟨rfl,rfl⟩:=h
      rw[gD (by omega) ht2 (by omega) hn];rfl
def lE (k:Int):Int:=if k=4∨k=7∨k=8∨k=9 then 1073741824 else -1
theorem JC (k:Int):(if(k == 4)=true then(some true)else(if(k == 7)=true then(some true)else(if(k == 8)=true then(some true)else(some (k == 9)))))=some (decide (0≤lE k)):=by
 unfold lE
 by_cases h4:k=4
 ·simp[h4]
 by_cases h7:k=7
 ·simp[h7]
 by_cases h8:k=8
 ·simp[h8]
 by_cases h9:k=9
 ·simp[h9]
 simp[h4,h7,h8,h9]
theorem JD {K:Z→Int→Option (af×Z)} {a1:Int} {c:UInt8} {p:List UInt8→Option (af×List UInt8)} (x:Int×Z) (hK:r4 K (IntKind.i64.wrap (a1-1)) p) (hp:∀b r q m,p b=some (r,q)→b.length≤m→q.length≤m):∀(m i N:Nat) (b:List UInt8) (acc:List af),(i:Int)+m=x.1→m<N→acc.length+m≤60→i+m≤60→b.length≤1099511627776 →
  (∀l q,eV p m b=some (l,q)→am (fun(s:List UInt8×Bool×List af×Int)=>iK K a1 c x s.1 s.2.1 s.2.2.1 s.2.2.2) N (b,false,acc,(i:Int))=some (⟨(c.toNat:Int),0,aa [],aa [],acc++l⟩,⟨q,false⟩)) ∧
  (eV p m b=none→∃l q,am (fun(s:List UInt8×Bool×List af×Int)=>iK K a1 c x s.1 s.2.1 s.2.2.1 s.2.2.2) N (b,false,acc,(i:Int))=some (l,q)∧q.Bad=true):=by
 intro m
 induction m with
 | zero=>
  intro i N b acc hi hN _ _ _
  obtain⟨N',rfl⟩:∃N',N=N'+1:=⟨N-1,by omega⟩
  refine⟨fun l q h=>?_,fun h=>by cases h⟩
  simp only[eV,Option.some.injEq,Prod.mk.injEq]at h
  obtain⟨rfl,rfl⟩:=h
  exact eC (by simp only[iK,aw (by omega:¬(i:Int)<x.1),Bool.false_eq_true,if_false,Option.bind_some,Sum.elim_inr,List.append_nil,mA])
 | succ m ih=>
  intro i N b acc hi hN ha hi2 hb
  obtain⟨N',rfl⟩:∃N',N=N'+1:=⟨N-1,by omega⟩
  have hfit:∀a:af,(acc++[a]).length*72≤140737488355328∧(acc++[a]).length≤140737488355328:=fun a=>DS (by simp;omega)
  obtain⟨K1,K2⟩:=hK b hb
  cases h1:p b with
  | none=>
   refine⟨fun l q h=>by simp[eV,h1]at h,fun _=>?_⟩
   obtain⟨r,⟨qB,qf⟩,hr,hq⟩:=K2 h1
   dsimp only at hq
   subst hq
   refine⟨⟨(c.toNat:Int),0,aa [],aa [],acc++[r]⟩,⟨qB,true⟩,?_,rfl⟩
   rw[eb (s':=(qB,true,acc++[r],((i+1:Nat):Int)))]
   ·obtain⟨N2,rfl⟩:∃N2,N'=N2+1:=⟨N'-1,by omega⟩
    refine eC ?_
    simp only[iK,mA]
    by_cases h:((i+1:Nat):Int)<x.1
    ·simp only[ay h,if_true,Bool.not_true,Bool.false_eq_true,if_false,Option.bind_some,Sum.elim_inr]
    ·simp only[aw h,Bool.false_eq_true,if_false,Option.bind_some,Sum.elim_inr]
   ·simp only[iK,ay (by omega:(i:Int)<x.1),if_true,Bool.not_false,Option.bind_some,Sum.elim_inl,wj,hr,aD (hfit _),ig (by omega:i<1099511627776)]
  | some pr=>
   obtain⟨r,b1⟩:=pr
   have hb1:=hp _ _ _ _ h1 hb
   have hg:=K1 _ _ h1
   have hstep:am (fun(s:List UInt8×Bool×List af×Int)=>iK K a1 c x s.1 s.2.1 s.2.2.1 s.2.2.2) (N'+1) (b,false,acc,(i:Int))=am (fun(s:List UInt8×Bool×List af×Int)=>iK K a1 c x s.1 s.2.1 s.2.2.1 s.2.2.2) N' (b1,false,acc++[r],((i+1:Nat):Int)):=
    eb (by simp only[iK,ay (by omega:(i:Int)<x.1),if_true,Bool.not_false,Option.bind_some,Sum.elim_inl,wj,hg,aD (hfit _),ig (by omega:i<1099511627776)])
   obtain⟨g1,g2⟩:=ih (i+1) N' b1 (acc++[r]) (by omega) (by omega) (by simp;omega) (by omega) hb1
   rw[hstep]
   refine⟨fun l q h=>?_,fun h=>?_⟩
   ·simp only[eV,h1]at h
    split at h
    ·cases h
    ·rename_i l2 q2 h3
     simp only[Option.some.injEq,Prod.mk.injEq]at h
     obtain⟨rfl,rfl⟩:=h
     rw[g1 _ _ h3];simp
   ·simp only[eV,h1]at h
    split at h
    ·rename_i h3;exact g2 h3
    ·cases h
theorem JE:∀(d N:Nat),d<N→d≤100→r4 (j9 N) (d:Int) (pR lE d):=by
 intro d
 induction d with
 | zero=>
  intro N hN _ b hb
  obtain⟨N',rfl,_⟩:=gF hN
  refine⟨fun r q h=>by simp[pR]at h,fun _=>?_⟩
  rw[j9,sN]
  dsimp only
  rw[d3]
  by_cases h:((b.length:Int) == 0)=true
  ·rw[h,eI]
   exact⟨_,_,rfl,rfl⟩
  ·rw[if_neg h]
   exact⟨_,_,rfl,rfl⟩
 | succ d ih=>
  intro N hN hd b hb
  obtain⟨N',rfl,hN'⟩:=gF hN
  have hK:=ih N' (by omega) (by omega)
  have hd1:IntKind.i64.wrap (((d+1:Nat):Int)-1)=(d:Int):=by rw[dz (by omega) (by omega)];omega
  rw[j9]
  cases b with
  | nil=>
   refine⟨fun r q h=>by simp[pR]at h,fun _=>?_⟩
   exact⟨_,_,rfl,rfl⟩
  | cons c b=>
   simp only[List.length_cons]at hb
   have hcode:sN (j9 N') ⟨c :: b,false⟩ ((d+1:Nat):Int)=wk (j9 N') ⟨c :: b,false⟩ ((d+1:Nat):Int) c (fM (c.toNat:Int)):=by
    have e1:(((c :: b).length:Int) == 0)=false:=by rw[beq_eq_false_iff_ne,List.length_cons];omega
    have e2:(((d+1:Nat):Int) == 0)=false:=by rw[beq_eq_false_iff_ne];omega
    simp only[sN,e1,e2,Bool.false_eq_true,if_false,Option.bind_some,zZ,Sum.elim_inl,z6,List.getElem?_cons_zero,mA,yz]
    rw[aD (by rw[List.length_cons];omega)]
   rw[hcode,wk,mA]
   simp only[pR,List.drop_succ_cons,List.drop_zero]
   cases hkk:fM (c.toNat:Int)with
   | true=>
    simp only[if_true]
    cases hn:dC 20 b with
    | none=>
     refine⟨fun r q h=>(by cases h),fun _=>?_⟩
     obtain⟨q,hq,hi⟩:=nv (top:=20) (by omega) (by omega) (by omega) hn
     rw[hi,Option.bind_some]
     have:am (fun(s:List UInt8×Bool×List af×Int)=>iK (j9 N') ((d+1:Nat):Int) c (0,⟨q,true⟩) s.1 s.2.1 s.2.2.1 s.2.2.2) Fu (q,true,[],0)=some (⟨(c.toNat:Int),0,aa [],aa [],[]⟩,⟨q,true⟩):=uW (by simp only[iK,aw (by omega:¬(0:Int)<0),Bool.false_eq_true,if_false,Option.bind_some,Sum.elim_inr,mA])
     dsimp only
     rw[this]
     exact⟨_,_,rfl,rfl⟩
    | some pn=>
     obtain⟨n,b1⟩:=pn
     have hs:=ed hn
     have hb1:=cU hs.2.2 (by omega:b.length≤1099511627776)
     obtain⟨n',rfl⟩:=Int.eq_ofNat_of_zero_le hs.1.1
     have hn20:n'≤20:=by have:=hs.2.1;omega
     rw[fW (by omega) (by omega) (by omega) hn,Option.bind_some]
     obtain⟨g1,g2⟩:=JD (a1:=((d+1:Nat):Int)) (c:=c) ((n':Int),⟨b1,false⟩) (by rw[hd1];exact hK) (fun b r q m h hb=>DR h hb) n' 0 Fu b1 [] (by simp) (by rw[kI];omega) (by simp;omega) (by omega) hb1
     simp only[Int.natCast_zero,List.nil_append]at g1 g2
     dsimp only
     simp only[Int.toNat_natCast]
     cases hp:eV (pR lE d) n' b1 with
     | none=>
      refine⟨fun r q h=>(by cases h),fun _=>?_⟩
      exact g2 hp
     | some pl=>
      obtain⟨l,q⟩:=pl
      refine⟨fun r q' h=>?_,fun h=>by cases h⟩
      simp only[Option.some.injEq,Prod.mk.injEq]at h
      obtain⟨rfl,rfl⟩:=h
      rw[g1 _ _ hp]
   | false=>
    simp only[Bool.false_eq_true,if_false]
    by_cases h6:(c.toNat:Int)=6
    ·simp only[h6,beq_self_eq_true,if_true]
     cases h1:pT b with
     | none=>
      refine⟨fun r q h=>(by cases h),fun _=>?_⟩
      rw[ny (by omega) h1,Option.bind_some,kJ (by omega)]
      exact⟨_,_,rfl,rfl⟩
     | some p1=>
      obtain⟨x,b1⟩:=p1
      have hb1:=cU (eU h1) (by omega:b.length≤1099511627776)
      rw[fp (by omega) h1,Option.bind_some]
      dsimp only
      cases h2:pT b1 with
      | none=>
       refine⟨fun r q h=>(by cases h),fun _=>?_⟩
       rw[ny hb1 h2]
       exact⟨_,_,rfl,rfl⟩
      | some p2=>
       obtain⟨v,b2⟩:=p2
       refine⟨fun r q h=>?_,fun h=>by cases h⟩
       simp only[Option.some.injEq,Prod.mk.injEq]at h
       obtain⟨rfl,rfl⟩:=h
       rw[fp hb1 h2];rfl
    have e6:((c.toNat:Int) == 6)=false:=by simpa using h6
    simp only[e6,Bool.false_eq_true,if_false,h6]
    by_cases h5:(c.toNat:Int)=5
    ·simp only[h5,beq_self_eq_true,if_true]
     refine⟨fun r q h=>?_,fun h=>by cases h⟩
     simp only[Option.some.injEq,Prod.mk.injEq]at h
     obtain⟨rfl,rfl⟩:=h
     rfl
    have e5:((c.toNat:Int) == 5)=false:=by simpa using h5
    simp only[e5,Bool.false_eq_true,if_false,h5,JC,Option.bind_some,z5]
    by_cases ht:lE (c.toNat:Int)<0
    ·refine⟨fun r q h=>by simp[ht]at h,fun _=>?_⟩
     rw[aw (by omega),d3]
     exact⟨_,_,rfl,rfl⟩
    ·have hx:lE (c.toNat:Int)=1073741824:=by unfold lE at ht ⊢;split at ht<;>omega
     rw[ay (by omega),eI,if_neg ht,hx]
     cases hn:dC 1073741824 b with
     | none=>
      refine⟨fun r q h=>(by cases h),fun _=>?_⟩
      obtain⟨q,hq,hi⟩:=nv (top:=1073741824) (by omega) (by omega) (by omega) hn
      simp only[List.drop_succ_cons,List.drop_zero]
      rw[hi,Option.bind_some]
      exact⟨_,_,rfl,rfl⟩
     | some pn=>
      obtain⟨n,q⟩:=pn
      refine⟨fun r q' h=>?_,fun h=>by cases h⟩
      simp only[Option.some.injEq,Prod.mk.injEq]at h
      obtain⟨rfl,rfl⟩:=h
      simp only[List.drop_succ_cons,List.drop_zero,mA]
      rw[fW (by omega) (by omega) (by omega) hn];rfl
def r5:af:=⟨0,0,aa [],aa [],[]⟩
def pj (r:af):List UInt8:=if ee r=true then cC 5 r else[]
theorem iD {r:af} (h:ee r=true):dl 5 r=true∧bQ 5 r≤20:=by simpa [ee] using h
theorem DT (r:af):wd r=some (pj r)∧wh r=some (pj r):=by
 rw[wd,wh,yx,yy,Option.bind_some,Option.bind_some,pj]
 cases h:ee r with
 | false=>exact⟨rfl,rfl⟩
 | true=>
  obtain⟨h1,h2⟩:=iD h
  obtain⟨p1,p2⟩:=Jz 5 r Fu ⟨[]⟩ h1 (by omega) (by rw[kK];omega) (by simp;omega)
  simp only[Bool.not_true,Bool.false_eq_true,if_false,zP,p1,zY,p2,Option.bind_some,List.nil_append,if_true]
  exact⟨trivial,trivial⟩
def r6 (b:List UInt8) (o:Option (af×Int)):Prop:=(∃r,ee r=true∧b=cC 5 r∧o=some (r,0))∨((∀r,ee r=true→b≠cC 5 r)∧o=some (r5,2))
theorem DU {T:Int→Int} (hT:u1 T) {K:Z→Int→Option (af×Z)} {R:af→Option Bool} (hR:∀r,R r=some (ee r)) (hK:r4 K 5 (pR T 5)) (b:List UInt8) (hb:b.length≤1099511627776) :
  r6 b (Option.bind (K (Z.mk b false) 5) (fun(x4:af×Z)=>if x4.2.Bad=true then(some ((af.mk 0 0 (aa []) (aa []) []),2))else(if(decide ((0:Int)<(List.length x4.2.B:Int)))=true then(some ((af.mk 0 0 (aa []) (aa []) []),2))else(Option.bind (R x4.1) (fun(x11:Bool)=>if(!x11)=true then(some ((af.mk 0 0 (aa []) (aa []) []),2))else(some (x4.1,0))))))):=by
 obtain⟨K1,K2⟩:=hK b hb
 have none_of:pR T 5 b=none→∀r,ee r=true→b≠cC 5 r:=fun h r hr e=>by
  obtain⟨h1,h2⟩:=iD hr
  have:=nA T hT 5 r [] h1 h2
  rw[List.append_nil,← e,h]at this
  cases this
 cases h:pR T 5 b with
 | none=>
  obtain⟨r,q,h1,h2⟩:=K2 h
  rw[h1,Option.bind_some]
  simp only[h2,if_true]
  exact .inr ⟨none_of h,rfl⟩
 | some p=>
  obtain⟨r,q⟩:=p
  rw[K1 _ _ h,Option.bind_some]
  simp only[Bool.false_eq_true,if_false]
  have huni:∀r',ee r'=true→b=cC 5 r'→r'=r∧q=[]:=fun r' hr e=>by
   obtain⟨h1,h2⟩:=iD hr
   have:=nA T hT 5 r' [] h1 h2
   rw[List.append_nil,← e,h]at this
   simp only[Option.some.injEq,Prod.mk.injEq]at this
   exact⟨this.1.symm,this.2⟩
  have hsound:=yD T 5 b q r h
  by_cases hq:q=[]
  ·subst hq
   rw[List.append_nil]at hsound
   simp only[List.length_nil,Int.natCast_zero,aw (by omega:¬(0:Int)<0),Bool.false_eq_true,if_false,hR,Option.bind_some]
   cases hr:ee r with
   | true=>exact .inl ⟨r,hr,hsound,rfl⟩
   | false=>exact .inr ⟨fun r' hr' e=>by rw[(huni r' hr' e).1]at hr';rw[hr]at hr';exact absurd hr' (by decide),rfl⟩
  ·have:0<q.length:=List.length_pos_iff.2 hq
   rw[ay (by omega),eI]
   exact .inr ⟨fun r' hr' e=>hq (huni r' hr' e).2,rfl⟩
theorem r7:u1 eJ:=fun k hk=>⟨Int.le_refl _,by unfold eJ;split<;>(try split)<;>(try split)<;>omega⟩
theorem JF:u1 lE:=fun k hk=>by
 unfold eJ lE
 rw[if_pos hk]
 refine⟨?_,by omega⟩
 split<;>(try split)<;>(try split)<;>omega
theorem u3 (b:List UInt8) (hb:b.length≤1099511627776):r6 b (nY b)∧r6 b (pU b):=
 ⟨DU r7 yx (JB 5 Fu (by rw[kI];omega) (by omega)) b hb,DU JF yy (JE 5 Fu (by rw[kI];omega) (by omega)) b hb⟩
theorem JG {b:List UInt8} {o o':Option (af×Int)} (h:r6 b o) (h':r6 b o'):o=o':=by
 rcases h with ⟨r,h1,h2,h3⟩ | ⟨h1,h2⟩<;>rcases h' with ⟨r',k1,k2,k3⟩ | ⟨k1,k2⟩
 ·have e1:=nA eJ r7 5 r [] (iD h1).1 (iD h1).2
  have e2:=nA eJ r7 5 r' [] (iD k1).1 (iD k1).2
  rw[List.append_nil,← h2]at e1
  rw[List.append_nil,← k2,e1]at e2
  injection e2 with e2;injection e2 with e2 _
  rw[h3,k3,e2]
 ·exact absurd h2 (k1 r h1)
 ·exact absurd k2 (h1 r' k1)
 ·rw[h2,k2]
end Go.Proofs.YtjklegmimpehlaaGreat.Ab
namespace Go.Proofs.YtjklegmimpehlaaGreat.Ab
open Go Go.RowKit
set_option linter.unusedVariables false
set_option linter.unusedSimpArgs false
theorem JH (r:af) (h:ee r=true):∃c l,cC 5 r=c :: l:=⟨_,_,rfl⟩
theorem pk {r:af} (h:ee r=true):1≤(cC 5 r).length∧(cC 5 r).length≤1200:=by
 obtain⟨h1,h2⟩:=iD h
 have:=yC 5 r h1 (by omega)
 obtain⟨c,l,e⟩:=JH r h
 refine⟨by rw[e];simp,by omega⟩
theorem JI {r s:af} (hr:ee r=true) (hs:ee s=true) {q:List UInt8} (h:cC 5 r=cC 5 s++q):r=s∧q=[]:=by
 have e1:=nA eJ r7 5 r [] (iD hr).1 (iD hr).2
 have e2:=nA eJ r7 5 s q (iD hs).1 (iD hs).2
 rw[List.append_nil,h,e2]at e1
 simp only[Option.some.injEq,Prod.mk.injEq]at e1
 exact⟨e1.1.symm,e1.2⟩
theorem DV {r:af} (hr:ee r=true):nY (cC 5 r)=some (r,0):=by
 have hl:=(pk hr).2
 rcases(u3 (cC 5 r) (by omega)).1 with ⟨s,h1,h2,h3⟩ | ⟨h1,_⟩
 ·rw[h3,(JI hr h1 (q:=[]) (by rw[List.append_nil];exact h2)).1]
 ·exact absurd rfl (h1 r hr)
theorem JJ {r:af} (h:ee r=true):pj r=cC 5 r:=by rw[pj,if_pos h]
end Go.Proofs.YtjklegmimpehlaaGreat.Ab
