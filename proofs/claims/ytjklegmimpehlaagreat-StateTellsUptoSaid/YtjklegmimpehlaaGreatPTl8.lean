/- What is read of any bytes: the program and the document say the same. -/
import Derived.Test.YtjklegmimpehlaaGreatXSt6
import Derived.Test.YtjklegmimpehlaaGreatPSpanC
import Derived.Test.YtjklegmimpehlaaGreatPStB
namespace Go.Proofs.YtjklegmimpehlaaGreat.Ab
open Go Go.RowKit
set_option linter.unusedVariables false
set_option linter.unusedSimpArgs false
structure bh {α:Type} (S:α→List UInt8→Prop) (R:Z→Option (α×Z)):Prop where
 put:∀a x q,S a x→(x++q).length≤5000→R ⟨x++q,false⟩=some (a,⟨q,false⟩)
 get:∀b,b.length≤5000→∃a r,R ⟨b,false⟩=some (a,r)∧r.B.length≤b.length∧(r.Bad=true∨∃x,S a x∧r.Bad=false∧b=x++r.B)
 bad:∀b,b.length≤5000→∃a r,R ⟨b,true⟩=some (a,r)∧r.B.length≤b.length∧r.Bad=true
def sq {α β:Type} (S1:α→List UInt8→Prop) (S2:α→β→List UInt8→Prop):β→List UInt8→Prop:=fun c x=>∃a x1 x2,S1 a x1∧S2 a c x2∧x=x1++x2
def Fo {α:Type} (f:α→List UInt8) (V:α→Prop):α→List UInt8→Prop:=fun a x=>x=f a∧V a
def one {α:Type} (a:α):α→List UInt8→Prop:=fun c x=>c=a∧x=[]
theorem bh.bind {α β:Type} {S1:α→List UInt8→Prop} {S2:α→β→List UInt8→Prop} {R1:Z→Option (α×Z)} {R2:α→Z→Option (β×Z)} (h1:bh S1 R1) (h2:∀a,bh (S2 a) (R2 a)) :
  bh (sq S1 S2) (fun r=>Option.bind (R1 r) fun x=>R2 x.1 x.2):=by
 refine⟨?_,fun b hb=>?_,fun b hb=>?_⟩
 ·rintro c x q ⟨a,x1,x2,s1,s2,rfl⟩ hl
  rw[List.append_assoc]at hl ⊢
  show Option.bind _ _=_
  rw[h1.put a x1 (x2++q) s1 hl,Option.bind_some]
  exact(h2 a).put c x2 q s2 (by rw[List.length_append]at hl;omega)
 ·obtain⟨a,⟨B,F⟩,e1,e2,e3⟩:=h1.get b hb
  dsimp only at e2 e3
  rcases e3 with rfl | ⟨x1,s1,rfl,rfl⟩
  ·obtain⟨c,r,g1,g2,g3⟩:=(h2 a).bad B (by omega)
   exact⟨c,r,by show Option.bind _ _=_;rw[e1];exact g1,by omega,.inl g3⟩
  ·obtain⟨c,r,g1,g2,g3⟩:=(h2 a).get B (by omega)
   refine⟨c,r,by show Option.bind _ _=_;rw[e1];exact g1,by rw[List.length_append];omega,?_⟩
   rcases g3 with g3 | ⟨x2,s2,g4,rfl⟩
   ·exact .inl g3
   ·exact .inr ⟨x1++x2,⟨a,x1,x2,s1,s2,rfl⟩,g4,by rw[List.append_assoc]⟩
 ·obtain⟨a,⟨B,F⟩,e1,e2,e3⟩:=h1.bad b hb
  dsimp only at e2 e3
  subst e3
  obtain⟨c,r,g1,g2,g3⟩:=(h2 a).bad B (by omega)
  exact⟨c,r,by show Option.bind _ _=_;rw[e1];exact g1,by omega,g3⟩
theorem bh.ret {α:Type} (a:α):bh (one a) (fun r=>some (a,r)):=by
 refine⟨?_,fun b hb=>⟨a,_,rfl,Nat.le_refl _,.inr ⟨[],⟨rfl,rfl⟩,rfl,rfl⟩⟩,fun b hb=>⟨a,_,rfl,Nat.le_refl _,rfl⟩⟩
 rintro c x q ⟨rfl,rfl⟩ hl
 rfl
theorem bh.iff {α:Type} {S S':α→List UInt8→Prop} {R:Z→Option (α×Z)} (h:bh S R) (e:∀a x,S a x↔S' a x):bh S' R:=
 ⟨fun a x q s hl=>h.put a x q ((e a x).2 s) hl,fun b hb=>by
  obtain⟨a,r,h1,h2,h3⟩:=h.get b hb
  exact⟨a,r,h1,h2,h3.imp id fun⟨x,s,h4⟩=>⟨x,(e a x).1 s,h4⟩⟩,h.bad⟩
theorem bh.of {α:Type} {f:α→List UInt8} {V:α→Prop} {R:Z→Option (α×Z)} {p:List UInt8→Option (α×List UInt8)} (hs:∀b a q,p b=some (a,q)→b=f a++q∧V a) (hp:∀a q,V a→(f a).length≤5000→p (f a++q)=some (a,q))
  (hok:∀b a q,b.length≤5000→p b=some (a,q)→R ⟨b,false⟩=some (a,⟨q,false⟩)) (hno:∀b,b.length≤5000→p b=none→∃a r,R ⟨b,false⟩=some (a,r)∧r.B.length≤b.length∧r.Bad=true)
  (hbad:∀b,b.length≤5000→∃a r,R ⟨b,true⟩=some (a,r)∧r.B.length≤b.length∧r.Bad=true):bh (Fo f V) R:=by
 refine⟨?_,fun b hb=>?_,hbad⟩
 ·rintro a x q ⟨rfl,v⟩ hl
  exact hok _ a q hl (hp a q v (by rw[List.length_append]at hl;omega))
 ·cases h:p b with
  | none=>
   obtain⟨a,r,h1,h2,h3⟩:=hno b hb h
   exact⟨a,r,h1,h2,.inl h3⟩
  | some x=>
   obtain⟨a,q⟩:=x
   obtain⟨e,v⟩:=hs b a q h
   exact⟨a,⟨q,false⟩,hok b a q hb h,by rw[e,List.length_append];show q.length≤_;omega,.inr ⟨f a,⟨rfl,v⟩,rfl,e⟩⟩
def bq (n:Int):List UInt8:=bP n.toNat
def cg (top n:Int):Prop:=0≤n∧n≤top
theorem KZ {b:List UInt8} {top:Int} (ht:0≤top) (h2:top<9223372036854775808) (hl:b.length≤1099511627776):cE ⟨b,true⟩ top=some (0,⟨[],true⟩):=by
 rw[cE,vf hl,Option.bind_some]
 rw[dD (aw (by rw[fL ht (by omega)];show ¬top<0;omega))];rfl
theorem vA {b:List UInt8} (hl:b.length≤1099511627776):dZ ⟨b,true⟩=some (0,⟨[],true⟩):=by
 rw[dZ,vf hl,Option.bind_some]
 rfl
theorem EH:bh (Fo bq cI) fF:=bh.of (p:=pW) (fun b a q h=>(fe h).symm) (fun a q v _=>mu v q) (fun b a q hb h=>cO (by omega) h) (fun b hb h=>⟨0,⟨[],true⟩,my (by omega) h,by simp,rfl⟩) (fun b hb=>⟨0,⟨[],true⟩,vf (by omega),by simp,rfl⟩)
theorem EI {top:Int} (h0:0≤top) (h1:top≤1099511627776):bh (Fo bq (cg top)) (fun r=>cE r top):=bh.of (p:=dC top) (fun b a q h=>⟨(ed h).2.2,(ed h).1.1,(ed h).2.1⟩) (fun a q v _=>mw v.1 v.2 (by omega) q) (fun b a q hb h=>gD h0 (by omega) (by omega) h)
 (fun b hb h=>⟨0,⟨[],true⟩,nt h0 (by omega) (by omega) h,by simp,rfl⟩) (fun b hb=>⟨0,⟨[],true⟩,KZ h0 (by omega) (by omega),by simp,rfl⟩)
theorem EJ:bh (Fo (fun b:Bool=>bq (df b)) fun _=>True) ji:=by
 have h:=(EI (top:=1) (by omega) (by omega)).bind fun n=>bh.ret (n == 1)
 refine bh.iff h fun a x=>⟨?_,?_⟩
 ·rintro⟨n,x1,x2,⟨rfl,v1,v2⟩,⟨rfl,rfl⟩,rfl⟩
  refine⟨?_,trivial⟩
  show bq n++[]=bq (df (n == 1))
  rw[yF v1 v2,List.append_nil]
 ·rintro⟨rfl,_⟩
  refine⟨df a,_,[],⟨rfl,?_⟩,⟨(yG a).symm,rfl⟩,by rw[List.append_nil]⟩
  cases a<;>exact⟨by decide,by decide⟩
def iG (s:ByteArray):Prop:=s.size≤5000
theorem K0 {b:List UInt8} (hl:b.length≤1099511627776):ew ⟨b,true⟩=some (aa [],⟨[],true⟩):=by
 rw[ew,vA hl,Option.bind_some]
 rw[show gu (⟨[],true⟩:Z) 0=some ([],⟨[],true⟩) from rU (n:=0) (.inl rfl)]
 rfl
theorem EK (s:ByteArray):s.size≤(co s).length:=by rw[co,List.length_append,iX];omega
theorem yU:bh (Fo co iG) ew:=by
 refine⟨?_,fun b hb=>?_,fun b hb=>⟨_,_,K0 (by omega),by simp,rfl⟩⟩
 ·rintro a x q ⟨rfl,v⟩ hl
  exact fm (by omega) (mx a (by have:=v;unfold iG at this;omega) q)
 ·cases h:pT b with
  | none=>exact⟨_,_,nu (by omega) h,by simp,.inl rfl⟩
  | some x=>
   obtain⟨a,q⟩:=x
   have e:=eU h
   refine⟨a,⟨q,false⟩,fm (by omega) h,by rw[e,List.length_append];show q.length≤_;omega,.inr ⟨co a,⟨rfl,?_⟩,rfl,e⟩⟩
   have:=EK a
   rw[e,List.length_append]at hb
   show a.size≤_;omega
theorem K3:bh (Fo ej fun s=>i8 s∧dR s=true) eF:=by
 refine bh.of (p:=jZ) (fun b a q h=>⟨(pm h).2.2,(pm h).1,(pm h).2.1⟩) (fun a q v _=>Ec v.1 v.2 q) (fun b a q hb h=>?_) (fun b hb h=>?_) (fun b hb=>?_)
 ·unfold jZ at h
  cases hp:fY b with
  | none=>rw[hp]at h;cases h
  | some x=>
   obtain⟨s,r⟩:=x
   rw[hp]at h
   dsimp only at h
   split at h
   ·rename_i hr
    cases h
    rw[Eb (by omega) hp,hr];rfl
   ·cases h
 ·unfold jZ at h
  cases hp:fY b with
  | none=>
   obtain⟨s,hs⟩:=JV (by omega) hp
   exact⟨s,_,hs,by simp,rfl⟩
  | some x=>
   obtain⟨s,r⟩:=x
   rw[hp]at h
   dsimp only at h
   split at h
   ·cases h
   ·rename_i hr
    have hr:dR s=false:=by cases hh:dR s<;>simp_all
    refine⟨s,_,Eb (by omega) hp,?_,by rw[hr];rfl⟩
    rw[(yH hp).2.2,List.length_append]
    show r.length≤_;omega
 ·obtain⟨s,hs⟩:=JW (b:=b) (by omega)
  exact⟨s,_,hs,by simp,rfl⟩
theorem EL:bh (Fo bq cI) eM:=bh.of (p:=pW) (fun b a q h=>(fe h).symm) (fun a q v _=>mu v q) (fun b a q hb h=>cV (by omega) h) (fun b hb h=>⟨0,⟨b,true⟩,pf (by omega) h,by simp,rfl⟩) (fun b hb=>⟨0,⟨b,true⟩,lD (by omega),by simp,rfl⟩)
theorem yV {top:Int} (h0:0≤top) (h1:top≤1099511627776):bh (Fo bq (cg top)) (fun r=>bR r top):=bh.of (p:=dC top) (fun b a q h=>⟨(ed h).2.2,(ed h).1.1,(ed h).2.1⟩) (fun a q v _=>mw v.1 v.2 (by omega) q) (fun b a q hb h=>fW h0 (by omega) (by omega) h)
 (fun b hb h=>by obtain⟨r,h1,h2⟩:=nv h0 (by omega) (by omega) h;exact⟨0,⟨r,true⟩,h2,h1,rfl⟩) (fun b hb=>⟨0,⟨b,true⟩,dx h0 (by omega) (by omega),by simp,rfl⟩)
theorem yW:bh (Fo co iG) eo:=by
 refine⟨?_,fun b hb=>?_,fun b hb=>⟨_,_,kJ (by omega),by simp,rfl⟩⟩
 ·rintro a x q ⟨rfl,v⟩ hl
  exact fp (by omega) (mx a (by have:=v;unfold iG at this;omega) q)
 ·cases h:pT b with
  | none=>exact⟨_,_,ny (by omega) h,by simp,.inl rfl⟩
  | some x=>
   obtain⟨a,q⟩:=x
   have e:=eU h
   refine⟨a,⟨q,false⟩,fp (by omega) h,by rw[e,List.length_append];show q.length≤_;omega,.inr ⟨co a,⟨rfl,?_⟩,rfl,e⟩⟩
   have:=EK a
   rw[e,List.length_append]at hb
   show a.size≤_;omega
theorem K4 {b:List UInt8} (hl:b.length≤5000):∃s r,eO ⟨b,true⟩=some (s,r)∧r.B.length≤b.length∧r.Bad=true:=by
 unfold eO
 rw[lD (by omega),Option.bind_some,lD (by omega),Option.bind_some,lD (by omega),Option.bind_some,lD (by omega),Option.bind_some,kJ (by omega),Option.bind_some,kJ (by omega),Option.bind_some]
 rw[dx (by omega) (by omega) (by omega),Option.bind_some,dx (by omega) (by omega) (by omega),Option.bind_some,dx (by omega) (by omega) (by omega),Option.bind_some,dx (by omega) (by omega) (by omega),Option.bind_some]
 dsimp only
 rw[j6,Option.bind_some]
 exact⟨_,⟨b,true⟩,rfl,Nat.le_refl _,rfl⟩
theorem K5:bh (Fo ej fun s=>i8 s∧dR s=true) eO:=by
 refine bh.of (p:=jZ) (fun b a q h=>⟨(pm h).2.2,(pm h).1,(pm h).2.1⟩) (fun a q v _=>Ec v.1 v.2 q) (fun b a q hb h=>?_) (fun b hb h=>?_) (fun b hb=>K4 hb)
 ·unfold jZ at h
  cases hp:fY b with
  | none=>rw[hp]at h;cases h
  | some x=>
   obtain⟨s,r⟩:=x
   rw[hp]at h
   dsimp only at h
   split at h
   ·rename_i hr
    cases h
    rw[Ee (by omega) hp,hr];rfl
   ·cases h
 ·unfold jZ at h
  cases hp:fY b with
  | none=>
   obtain⟨s,r,hs,h2,h3⟩:=JZ (by omega) hp
   exact⟨s,r,hs,h3,h2⟩
  | some x=>
   obtain⟨s,r⟩:=x
   rw[hp]at h
   dsimp only at h
   split at h
   ·cases h
   ·rename_i hr
    have hr:dR s=false:=by cases hh:dR s<;>simp_all
    refine⟨s,_,Ee (by omega) hp,?_,by rw[hr];rfl⟩
    rw[(yH hp).2.2,List.length_append]
    show r.length≤_;omega
end Go.Proofs.YtjklegmimpehlaaGreat.Ab
namespace Go.Proofs.YtjklegmimpehlaaGreat.Ab
open Go Go.RowKit
set_option linter.unusedVariables false
set_option linter.unusedSimpArgs false
theorem vB {n k:Nat} (h:n≤3000000) (hk:k≤200):n*k≤140737488355328∧n≤140737488355328:=⟨Nat.le_trans (Nat.mul_le_mul h hk) (by omega),by omega⟩
theorem iH {i:Nat} (h:i≤1000000000000):IntKind.i64.wrap ((i:Int)+1)=((i+1:Nat):Int):=by rw[dz (by omega) (by omega)];rfl
theorem EM {α:Type} {V:α→Prop} {a:α} {l:List α} (v:V a) (h:∀y∈l,V y):∀y∈a :: l,V y:=fun y hy=>by
 rcases List.mem_cons.1 hy with rfl | hy
 ·exact v
 ·exact h y hy
section
variable {α:Type} {f:α→List UInt8} {V:α→Prop} {R:Z→Option (α×Z)} {k:Nat} {L:Int×Z→List UInt8→Bool→List α→Int→Option ((List UInt8×Bool×List α×Int)⊕(List α×Z))}
def kQ (R:Z→Option (α×Z)) (k:Nat) (x5:Int×Z) (B:List UInt8) (F:Bool) (acc:List α) (v:Int):Option ((List UInt8×Bool×List α×Int)⊕(List α×Z)):=
 if(decide (v<x5.1))=true then Option.bind (R ⟨B,F⟩) (fun x13=>if x13.2.Bad=true then some (.inr ([],x13.2))else gd ((List.length (acc++[x13.1]))*k≤140737488355328∧(List.length (acc++[x13.1]))≤140737488355328) (some (.inl (x13.2.B,x13.2.Bad,acc++[x13.1],IntKind.i64.wrap (v+1)))))else some (.inr (acc,⟨B,F⟩))
theorem K6 (h:bh (Fo f V) R) (hk:k≤200) (x:Int×Z):∀(m i N:Nat) (b:List UInt8) (acc:List α),(i:Int)+m=x.1→m<N→acc.length+m≤2000000→i+m≤2000000→b.length≤5000 →
  ∃a r,am (fun(s:List UInt8×Bool×List α×Int)=>kQ R k x s.1 s.2.1 s.2.2.1 s.2.2.2) N (b,false,acc,(i:Int))=some (a,r)∧r.B.length≤b.length∧(r.Bad=true∨∃l,l.length=m∧a=acc++l∧(∀y∈l,V y)∧r.Bad=false∧b=l.flatMap f++r.B):=by
 intro m
 induction m with
 | zero=>
  intro i N b acc hi hN ha hm hb
  obtain⟨N,rfl⟩:∃M,N=M+1:=⟨N-1,by omega⟩
  exact⟨acc,⟨b,false⟩,eC (by simp only[kQ];rw[dD (aw (by omega))]),Nat.le_refl _,.inr ⟨[],rfl,by simp,by simp,rfl,by simp⟩⟩
 | succ m ih=>
  intro i N b acc hi hN ha hm hb
  obtain⟨N,rfl⟩:∃M,N=M+1:=⟨N-1,by omega⟩
  obtain⟨a,⟨B,F⟩,h1,h2,h3⟩:=h.get b hb
  dsimp only at h2 h3
  rcases h3 with rfl | ⟨x1,⟨rfl,v⟩,rfl,rfl⟩
  ·exact⟨[],⟨B,true⟩,eC (by simp only[kQ];rw[dM (ay (by omega)),h1,Option.bind_some,dM rfl]),h2,.inl rfl⟩
  ·obtain⟨a',r,g1,g2,g3⟩:=ih (i+1) N B (acc++[a]) (by omega) (by omega) (by simp;omega) (by omega) (by omega)
   refine⟨a',r,?_,by omega,?_⟩
   ·rw[eb (s':=(B,false,acc++[a],((i+1:Nat):Int)))]
    ·exact g1
    ·simp only[kQ]
     rw[dM (ay (by omega)),h1,Option.bind_some,if_neg (by simp),aD (vB (by simp;omega) hk),iH (by omega)]
   ·rcases g3 with g3 | ⟨l,l1,rfl,l3,l4,rfl⟩
    ·exact .inl g3
    ·exact .inr ⟨a :: l,by simp[l1],by simp,EM v l3,l4,by simp⟩
theorem K7 (h:bh (Fo f V) R) (hk:k≤200) (x:Int×Z) (q:List UInt8):∀(l:List α) (i N:Nat) (acc:List α),(i:Int)+l.length=x.1→l.length<N→acc.length+l.length≤2000000→i+l.length≤2000000→(l.flatMap f++q).length≤5000→(∀y∈l,V y) →
  am (fun(s:List UInt8×Bool×List α×Int)=>kQ R k x s.1 s.2.1 s.2.2.1 s.2.2.2) N (l.flatMap f++q,false,acc,(i:Int))=some (acc++l,⟨q,false⟩):=by
 intro l
 induction l with
 | nil=>
  intro i N acc hi hN ha hm hb hv
  obtain⟨N,rfl⟩:∃M,N=M+1:=⟨N-1,by omega⟩
  rw[eC (r:=(acc,⟨q,false⟩)) (by simp only[kQ];rw[dD (aw (by simp at hi;omega))];rfl)]
  simp
 | cons a l ih=>
  intro i N acc hi hN ha hm hb hv
  simp only[List.length_cons]at hi hN ha hm
  obtain⟨N,rfl⟩:∃M,N=M+1:=⟨N-1,by omega⟩
  have e:(a :: l).flatMap f++q=f a++(l.flatMap f++q):=by simp
  rw[e]at hb ⊢
  have h1:=h.put a (f a) (l.flatMap f++q) ⟨rfl,hv a List.mem_cons_self⟩ hb
  rw[eb (s':=(l.flatMap f++q,false,acc++[a],((i+1:Nat):Int)))]
  ·rw[ih (i+1) N (acc++[a]) (by omega) (by omega) (by simp;omega) (by omega) (by rw[List.length_append]at hb;omega) fun y hy=>hv y (List.mem_cons_of_mem _ hy)]
   simp
  ·simp only[kQ]
   rw[dM (ay (by omega)),h1,Option.bind_some,if_neg (by simp),aD (vB (by simp;omega) hk),iH (by omega)]
theorem yX {b:List UInt8} (hb:b.length≤5000):dZ ⟨b,false⟩=some (0,⟨[],true⟩)∨∃(n:Nat) (q:List UInt8),dZ ⟨b,false⟩=some ((n:Int),⟨q,false⟩)∧n≤q.length∧b=bq (n:Int)++q:=by
 unfold dZ
 cases h:pW b with
 | none=>left;rw[my (by omega) h];rfl
 | some x=>
  obtain⟨n,q⟩:=x
  have hs:=fe h
  have hl:q.length≤b.length:=by rw[hs.2,List.length_append];omega
  rw[cO (by omega) h,Option.bind_some]
  dsimp only
  by_cases c:(q.length:Int)<n
  ·left;rw[dM (ay (by rw[fL (by omega) (by omega)];exact c))]
  ·right
   have h0:=hs.1.1
   refine⟨n.toNat,q,?_,by omega,?_⟩
   ·rw[dD (aw (by rw[fL (by omega) (by omega)];exact c)),dz (by omega) (by omega),Int.toNat_of_nonneg h0]
   ·rw[Int.toNat_of_nonneg h0];exact hs.2
theorem yY {n:Nat} {q:List UInt8} (h:n≤q.length) (hq:q.length≤5000):dZ ⟨bq (n:Int)++q,false⟩=some ((n:Int),⟨q,false⟩):=by
 unfold dZ
 rw[show bq (n:Int)=bP (n:Int).toNat from rfl]
 have hp:=ib (n:=n) (by omega)
 rw[cO (by rw[List.length_append,Int.toNat_natCast];omega) (mu ⟨by omega,by omega⟩ q),Option.bind_some]
 dsimp only
 rw[dD (aw (by rw[fL (by omega) (by omega)];omega)),dz (by omega) (by omega)]
theorem px (hpos:∀a,V a→1≤(f a).length):∀(l:List α),(∀y∈l,V y)→l.length≤(l.flatMap f).length
 | [],_=>by simp
 | a :: l,h=>by
  have h1:=hpos a (h a List.mem_cons_self)
  have h2:=px hpos l fun y hy=>h y (List.mem_cons_of_mem _ hy)
  simp only[List.length_cons,List.flatMap_cons,List.length_append];omega
def dh (V:α→Prop) (l:List α):Prop:=(∀y∈l,V y)∧l.length≤5000
theorem nE (h:bh (Fo f V) R) (hk:k≤200) (hpos:∀a,V a→1≤(f a).length):bh (Fo (bD f) (dh V)) (fun r=>Option.bind (dZ r) fun x5=>am (fun(s:List UInt8×Bool×List α×Int)=>kQ R k x5 s.1 s.2.1 s.2.2.1 s.2.2.2) Fu (x5.2.B,x5.2.Bad,[],0)):=by
 have e0:∀l:List α,bD f l=bq (l.length:Int)++l.flatMap f:=fun l=>by simp[bD,bC,bq]
 have z:∀(F:Bool) (r:Z),am (fun(s:List UInt8×Bool×List α×Int)=>kQ R k ((0:Int),r) s.1 s.2.1 s.2.2.1 s.2.2.2) Fu ([],F,[],0)=some ([],⟨[],F⟩):=fun F r=>by
  rw[kI];exact eC (by simp only[kQ];rw[dD (aw (by omega))])
 refine⟨?_,fun b hb=>?_,fun b hb=>⟨[],⟨[],true⟩,?_,by simp,rfl⟩⟩
 ·rintro l x q ⟨rfl,v,vl⟩ hl
  rw[e0,List.append_assoc]at hl ⊢
  have h1:=px hpos l v
  show Option.bind _ _=_
  rw[yY (by rw[List.length_append];omega) (by rw[List.length_append]at hl;omega),Option.bind_some]
  exact K7 h hk _ q l 0 Fu [] (by simp) (by unfold Fu;omega) (by simp;omega) (by omega) (by rw[List.length_append]at hl;omega) v
 ·rcases yX hb with h0 | ⟨n,q,h1,h2,rfl⟩
  ·exact⟨[],⟨[],true⟩,by show Option.bind _ _=_;rw[h0,Option.bind_some];exact z _ _,by simp,.inl rfl⟩
  ·have hq:q.length≤5000:=by rw[List.length_append]at hb;omega
   obtain⟨a,r,g1,g2,g3⟩:=K6 h hk ((n:Int),(⟨q,false⟩:Z)) n 0 Fu q [] (by simp) (by unfold Fu;omega) (by simp;omega) (by omega) hq
   refine⟨a,r,by show Option.bind _ _=_;rw[h1,Option.bind_some];exact g1,by rw[List.length_append];omega,?_⟩
   rcases g3 with g3 | ⟨l,rfl,rfl,l3,l4,rfl⟩
   ·exact .inl g3
   ·refine .inr ⟨bD f a,⟨rfl,l3,?_⟩,l4,by rw[e0,List.append_assoc]⟩
    have:=px hpos a l3
    rw[List.length_append]at h2 hq;omega
 ·show Option.bind _ _=_
  rw[vA (by omega),Option.bind_some];exact z _ _
end
section
variable {α ρ:Type} {f:α→List UInt8} {V:α→Prop} {R:Z→Option (α×Z)} {k:Nat}
def dK (R:Z→Option (α×Z)) (k:Nat) (out:List α→List UInt8→Bool→ρ) (x5:Int×Z) (B:List UInt8) (F:Bool) (acc:List α) (v:Int):Option ((List UInt8×Bool×List α×Int)⊕ρ):=
 Option.bind (if(decide (v<x5.1))=true then(if(!F)=true then some (Sum.inl ())else some (Sum.inr (Sum.inr (out acc B F))))else some (Sum.inr (Sum.inr (out acc B F)))) (Sum.elim (fun _=>Option.bind (R ⟨B,F⟩) (fun y=>gd ((List.length (acc++[y.1]))*k≤140737488355328∧(List.length (acc++[y.1]))≤140737488355328) (some (Sum.inl (y.2.B,y.2.Bad,acc++[y.1],IntKind.i64.wrap (v+1)))))) some)
theorem se (out:List α→List UInt8→Bool→ρ) (x:Int×Z) (b:List UInt8) (F:Bool) (acc:List α) (v:Int) (h:F=true∨¬v<x.1) (N:Nat):am (fun(s:List UInt8×Bool×List α×Int)=>dK R k out x s.1 s.2.1 s.2.2.1 s.2.2.2) (N+1) (b,F,acc,v)=some (out acc b F):=by
 refine eC ?_
 simp only[dK]
 by_cases c:v<x.1
 ·rw[dM (ay c)]
  rcases h with rfl | h
  ·rfl
  ·exact absurd c h
 ·rw[dD (aw c)];rfl
theorem EN (h:bh (Fo f V) R) (hk:k≤200) (hpos:∀a,V a→1≤(f a).length) (out:List α→List UInt8→Bool→ρ) (x:Int×Z) (hx:x.1≤1073741824):∀(c i N:Nat) (b:List UInt8) (acc:List α),b.length≤c→c+1<N→c≤5000→acc.length+c≤2000000→(i:Int)≤x.1 →
  ∃(a:List α) (r:Z),am (fun(s:List UInt8×Bool×List α×Int)=>dK R k out x s.1 s.2.1 s.2.2.1 s.2.2.2) N (b,false,acc,(i:Int))=some (out a r.B r.Bad)∧r.B.length≤b.length∧(r.Bad=true∨∃l,(i:Int)+l.length=x.1∧a=acc++l∧(∀y∈l,V y)∧r.Bad=false∧b=l.flatMap f++r.B):=by
 intro c
 induction c using Nat.strongRecOn with
 | _ c ih=>
  intro i N b acc hb hN hc ha hi
  obtain⟨N,rfl⟩:∃M,N=M+1:=⟨N-1,by omega⟩
  by_cases hv:(i:Int)<x.1
  ·obtain⟨a,⟨B,F⟩,h1,h2,h3⟩:=h.get b (by omega)
   dsimp only at h2 h3
   have hs:dK R k out x b false acc (i:Int)=some (Sum.inl (B,F,acc++[a],((i+1:Nat):Int))):=by
    simp only[dK]
    rw[dM (ay hv),dM (by rfl),yp,h1,Option.bind_some,aD (vB (by simp;omega) hk),iH (by omega)]
   rw[eb (s':=(B,F,acc++[a],((i+1:Nat):Int))) hs]
   rcases h3 with rfl | ⟨x1,⟨rfl,v⟩,rfl,rfl⟩
   ·obtain⟨N,rfl⟩:∃M,N=M+1:=⟨N-1,by omega⟩
    exact⟨_,⟨B,true⟩,se out x B true _ _ (.inl rfl) N,h2,.inl rfl⟩
   ·have hp:=hpos a v
    rw[List.length_append]at hb
    obtain⟨a',r,g1,g2,g3⟩:=ih B.length (by omega) (i+1) N B (acc++[a]) (Nat.le_refl _) (by omega) (by omega) (by simp;omega) (by omega)
    refine⟨a',r,g1,by rw[List.length_append];omega,?_⟩
    rcases g3 with g3 | ⟨l,l1,rfl,l3,l4,rfl⟩
    ·exact .inl g3
    ·exact .inr ⟨a :: l,by simp only[List.length_cons];omega,by simp,EM v l3,l4,by simp⟩
  ·exact⟨acc,⟨b,false⟩,se out x b false acc _ (.inr hv) N,Nat.le_refl _,.inr ⟨[],by simp;omega,by simp,by simp,rfl,by simp⟩⟩
theorem EO (h:bh (Fo f V) R) (hk:k≤200) (out:List α→List UInt8→Bool→ρ) (x:Int×Z) (q:List UInt8):∀(l:List α) (i N:Nat) (acc:List α),(i:Int)+l.length=x.1→l.length<N→acc.length+l.length≤2000000→i+l.length≤2000000→(l.flatMap f++q).length≤5000→(∀y∈l,V y) →
  am (fun(s:List UInt8×Bool×List α×Int)=>dK R k out x s.1 s.2.1 s.2.2.1 s.2.2.2) N (l.flatMap f++q,false,acc,(i:Int))=some (out (acc++l) q false):=by
 intro l
 induction l with
 | nil=>
  intro i N acc hi hN ha hm hb hv
  obtain⟨N,rfl⟩:∃M,N=M+1:=⟨N-1,by omega⟩
  rw[show([]:List α).flatMap f++q=q from rfl,se out x q false acc _ (.inr (by simp at hi;omega)) N]
  simp
 | cons a l ih=>
  intro i N acc hi hN ha hm hb hv
  simp only[List.length_cons]at hi hN ha hm
  obtain⟨N,rfl⟩:∃M,N=M+1:=⟨N-1,by omega⟩
  have e:(a :: l).flatMap f++q=f a++(l.flatMap f++q):=by simp
  rw[e]at hb ⊢
  have h1:=h.put a (f a) (l.flatMap f++q) ⟨rfl,hv a List.mem_cons_self⟩ hb
  rw[eb (s':=(l.flatMap f++q,false,acc++[a],((i+1:Nat):Int)))]
  ·rw[ih (i+1) N (acc++[a]) (by omega) (by omega) (by simp;omega) (by omega) (by rw[List.length_append]at hb;omega) fun y hy=>hv y (List.mem_cons_of_mem _ hy)]
   simp
  ·simp only[dK]
   rw[dM (ay (by omega)),dM (by rfl),yp,h1,Option.bind_some,aD (vB (by simp;omega) hk),iH (by omega)]
theorem nF (h:bh (Fo f V) R) (hk:k≤200) (hpos:∀a,V a→1≤(f a).length):bh (Fo (bD f) (dh V)) (fun r=>Option.bind (bR r 1073741824) fun x5=>am (fun(s:List UInt8×Bool×List α×Int)=>dK R k (fun a B F=>(a,(⟨B,F⟩:Z))) x5 s.1 s.2.1 s.2.2.1 s.2.2.2) Fu (x5.2.B,x5.2.Bad,[],0)):=by
 have e0:∀l:List α,bD f l=bq (l.length:Int)++l.flatMap f:=fun l=>by simp[bD,bC,bq]
 have hi:=yV (top:=1073741824) (by omega) (by omega)
 have z:∀(n:Int) (B:List UInt8) (r:Z),am (fun(s:List UInt8×Bool×List α×Int)=>dK R k (fun a B F=>(a,(⟨B,F⟩:Z))) (n,r) s.1 s.2.1 s.2.2.1 s.2.2.2) Fu (B,true,[],0)=some ([],⟨B,true⟩):=fun n B r=>by
  rw[kI];exact se _ _ B true [] 0 (.inl rfl) _
 refine⟨?_,fun b hb=>?_,fun b hb=>?_⟩
 ·rintro l x q ⟨rfl,v,vl⟩ hl
  rw[e0,List.append_assoc]at hl ⊢
  show Option.bind _ _=_
  rw[hi.put (l.length:Int) _ (l.flatMap f++q) ⟨rfl,by omega,by omega⟩ hl,Option.bind_some]
  exact EO h hk _ _ q l 0 Fu [] (by simp) (by unfold Fu;omega) (by simp;omega) (by omega) (by rw[List.length_append]at hl;omega) v
 ·obtain⟨n,⟨B,F⟩,h1,h2,h3⟩:=hi.get b hb
  dsimp only at h2 h3
  rcases h3 with rfl | ⟨x1,⟨rfl,v0,v1⟩,rfl,rfl⟩
  ·exact⟨[],⟨B,true⟩,by show Option.bind _ _=_;rw[h1,Option.bind_some];exact z _ _ _,h2,.inl rfl⟩
  ·have hq:B.length≤5000:=by rw[List.length_append]at hb;omega
   obtain⟨a,r,g1,g2,g3⟩:=EN h hk hpos (fun a B F=>(a,(⟨B,F⟩:Z))) (n,(⟨B,false⟩:Z)) v1 B.length 0 Fu B [] (Nat.le_refl _) (by unfold Fu;omega) hq (by simp;omega) v0
   refine⟨a,r,by show Option.bind _ _=_;rw[h1,Option.bind_some];exact g1,by rw[List.length_append];omega,?_⟩
   rcases g3 with g3 | ⟨l,l1,rfl,l3,l4,rfl⟩
   ·exact .inl g3
   ·have e:n=(a.length:Int):=by simp at l1;omega
    refine .inr ⟨bD f a,⟨rfl,l3,?_⟩,l4,by rw[e0,e,List.append_assoc]⟩
    have:=px hpos a l3
    rw[List.length_append]at hq;omega
 ·obtain⟨n,⟨B,F⟩,h1,h2,h3⟩:=hi.bad b hb
  dsimp only at h2 h3
  subst h3
  exact⟨[],⟨B,true⟩,by show Option.bind _ _=_;rw[h1,Option.bind_some];exact z _ _ _,h2,rfl⟩
end
end Go.Proofs.YtjklegmimpehlaaGreat.Ab
namespace Go.Proofs.YtjklegmimpehlaaGreat.Ab
open Go Go.RowKit
set_option linter.unusedVariables false
set_option linter.unusedSimpArgs false
theorem K8 {α:Type} (R:Z→Option (α×Z)) (r:Z):Option.bind (R r) (fun x=>some (x.1,x.2))=R r:=by cases R r<;>rfl
theorem gp {σ ρ β:Type} {body:σ→Option (σ⊕ρ)} {s:σ} {X:Option β} {g:β→σ} (h:body s=Option.bind X fun x=>some (Sum.inl (g x))) (n:Nat):am body (n+1) s=Option.bind X fun x=>am body n (g x):=by
 simp only[am,h]
 cases X<;>rfl
abbrev aO:Int:=1099511627776
theorem gq:(0:Int)≤aO∧aO≤1099511627776:=⟨by decide,by decide⟩
def nm (l:List Int):List UInt8:=l.flatMap bq
def jd (t:Trace):Prop:=cI t.Hi∧cI t.Lo
def mE (v:bT):Prop:=jd v.Trace
def nG (x:Edge):Prop:=iG x.From∧iG x.To∧cg aO x.Count∧cg aO x.Errs
def nH (x:bz):Prop:=iG x.Service∧iG x.Op∧jd x.Trace∧cI x.Id∧cg aO x.Block
def nI (b:Block):Prop:=cg aO b.Number∧cg aO b.Born∧cg aO b.Tier∧b.Episodes=[]
def mF (top:Int) (r:bo):Prop:=cg top r.Level∧cg aO r.Window∧iG r.Service∧iG r.Op∧cg aO r.Counter.Count∧cg aO r.Counter.Errs∧cg aO r.Counter.By.c0∧cg aO r.Counter.By.c1∧cg aO r.Counter.By.c2∧cg aO r.Counter.By.c3∧cg aO r.Counter.By.c4∧cg aO r.Counter.By.c5∧cg aO r.Counter.By.c6∧cg aO r.Counter.By.c7
section
variable {N:Z→Option (Int×Z)} {I:Int→Z→Option (Int×Z)} {X:Z→Option (ByteArray×Z)} {B:Z→Option (Bool×Z)}
variable (hN:bh (Fo bq cI) N) (hI:∀top:Int,0≤top→top≤1099511627776→bh (Fo bq (cg top)) (I top)) (hX:bh (Fo co iG) X) (hB:bh (Fo (fun b:Bool=>bq (df b)) fun _=>True) B)
include hN in
theorem EP:bh (Fo ef jd) (fun r=>Option.bind (N r) fun x=>Option.bind (N x.2) fun y=>some (Trace.mk x.1 y.1,y.2)):=by
 refine(hN.bind fun a=>hN.bind fun b=>bh.ret (Trace.mk a b)).iff fun c x=>⟨?_,?_⟩
 ·rintro⟨a,_,_,⟨rfl,va⟩,⟨b,_,_,⟨rfl,vb⟩,⟨rfl,rfl⟩,rfl⟩,rfl⟩
  exact⟨by simp[ef,bC,bq],va,vb⟩
 ·rintro⟨rfl,va,vb⟩
  exact⟨_,_,_,⟨rfl,va⟩,⟨_,_,_,⟨rfl,vb⟩,⟨rfl,rfl⟩,rfl⟩,by simp[ef,bC,bq]⟩
theorem EQ {Tr:Z→Option (Trace×Z)} (hT:bh (Fo ef jd) Tr) (hB:bh (Fo (fun b:Bool=>bq (df b)) fun _=>True) B):bh (Fo dS mE) (fun r=>Option.bind (Tr r) fun x=>Option.bind (B x.2) fun y=>some (bT.mk x.1 y.1,y.2)):=by
 refine(hT.bind fun a=>hB.bind fun b=>bh.ret (bT.mk a b)).iff fun c x=>⟨?_,?_⟩
 ·rintro⟨a,_,_,⟨rfl,va⟩,⟨b,_,_,⟨rfl,vb⟩,⟨rfl,rfl⟩,rfl⟩,rfl⟩
  exact⟨by simp[dS,bC,bq],va⟩
 ·rintro⟨rfl,va⟩
  exact⟨_,_,_,⟨rfl,va⟩,⟨_,_,_,⟨rfl,trivial⟩,⟨rfl,rfl⟩,rfl⟩,by simp[dS,bC,bq]⟩
include hI hX in
theorem ER:bh (Fo dU nG) (fun r=>Option.bind (X r) fun x=>Option.bind (X x.2) fun y=>Option.bind (I aO y.2) fun z=>Option.bind (I aO z.2) fun w=>some (Edge.mk x.1 y.1 z.1 w.1,w.2)):=by
 have h4:=hI aO gq.1 gq.2
 refine(hX.bind fun a=>hX.bind fun b=>h4.bind fun c=>h4.bind fun d=>bh.ret (Edge.mk a b c d)).iff fun e x=>⟨?_,?_⟩
 ·rintro⟨a,_,_,⟨rfl,va⟩,⟨b,_,_,⟨rfl,vb⟩,⟨c,_,_,⟨rfl,vc⟩,⟨d,_,_,⟨rfl,vd⟩,⟨rfl,rfl⟩,rfl⟩,rfl⟩,rfl⟩,rfl⟩
  exact⟨by simp[dU,dA,bC,bq],va,vb,vc,vd⟩
 ·rintro⟨rfl,va,vb,vc,vd⟩
  exact⟨_,_,_,⟨rfl,va⟩,⟨_,_,_,⟨rfl,vb⟩,⟨_,_,_,⟨rfl,vc⟩,⟨_,_,_,⟨rfl,vd⟩,⟨rfl,rfl⟩,rfl⟩,rfl⟩,rfl⟩,by simp[dU,dA,bC,bq]⟩
include hN hI hX in
theorem ES {Tr:Z→Option (Trace×Z)} (hT:bh (Fo ef jd) Tr):bh (Fo dV nH) (fun r=>Option.bind (X r) fun x=>Option.bind (X x.2) fun y=>Option.bind (Tr y.2) fun z=>Option.bind (N z.2) fun w=>Option.bind (I aO w.2) fun u=>some (bz.mk x.1 y.1 z.1 w.1 u.1,u.2)):=by
 have h4:=hI aO gq.1 gq.2
 refine(hX.bind fun a=>hX.bind fun b=>hT.bind fun c=>hN.bind fun d=>h4.bind fun g=>bh.ret (bz.mk a b c d g)).iff fun e x=>⟨?_,?_⟩
 ·rintro⟨a,_,_,⟨rfl,va⟩,⟨b,_,_,⟨rfl,vb⟩,⟨c,_,_,⟨rfl,vc⟩,⟨d,_,_,⟨rfl,vd⟩,⟨g,_,_,⟨rfl,vg⟩,⟨rfl,rfl⟩,rfl⟩,rfl⟩,rfl⟩,rfl⟩,rfl⟩
  exact⟨by simp[dV,ef,dA,bC,bq],va,vb,vc,vd,vg⟩
 ·rintro⟨rfl,va,vb,vc,vd,vg⟩
  exact⟨_,_,_,⟨rfl,va⟩,⟨_,_,_,⟨rfl,vb⟩,⟨_,_,_,⟨rfl,vc⟩,⟨_,_,_,⟨rfl,vd⟩,⟨_,_,_,⟨rfl,vg⟩,⟨rfl,rfl⟩,rfl⟩,rfl⟩,rfl⟩,rfl⟩,by simp[dV,ef,dA,bC,bq]⟩
include hI in
theorem ET:bh (Fo d6 nI) (fun r=>Option.bind (I aO r) fun x=>Option.bind (I aO x.2) fun y=>Option.bind (I aO y.2) fun z=>some (Block.mk x.1 y.1 z.1 [],z.2)):=by
 have h4:=hI aO gq.1 gq.2
 refine(h4.bind fun a=>h4.bind fun b=>h4.bind fun c=>bh.ret (Block.mk a b c [])).iff fun e x=>⟨?_,?_⟩
 ·rintro⟨a,_,_,⟨rfl,va⟩,⟨b,_,_,⟨rfl,vb⟩,⟨c,_,_,⟨rfl,vc⟩,⟨rfl,rfl⟩,rfl⟩,rfl⟩,rfl⟩
  exact⟨by simp[d6,bC,bq],va,vb,vc,rfl⟩
 ·rintro⟨rfl,va,vb,vc,vd⟩
  refine⟨_,_,_,⟨rfl,va⟩,⟨_,_,_,⟨rfl,vb⟩,⟨_,_,_,⟨rfl,vc⟩,⟨?_,rfl⟩,rfl⟩,rfl⟩,by simp[d6,bC,bq]⟩
  cases e;simp_all
include hI in
theorem K9 {β:Type} (f:Int→Int→Int→Int→Int→Int→Int→Int→β) (S:β→List UInt8→Prop) (hS:∀c x,S c x↔∃a b d e g h i j,c=f a b d e g h i j∧x=nm [a,b,d,e,g,h,i,j]∧(cg aO a∧cg aO b∧cg aO d∧cg aO e∧cg aO g∧cg aO h∧cg aO i∧cg aO j)) :
  bh S (fun r=>Option.bind (I aO r) fun a=>Option.bind (I aO a.2) fun b=>Option.bind (I aO b.2) fun d=>Option.bind (I aO d.2) fun e=>Option.bind (I aO e.2) fun g=>Option.bind (I aO g.2) fun h=>Option.bind (I aO h.2) fun i=>Option.bind (I aO i.2) fun j=>some (f a.1 b.1 d.1 e.1 g.1 h.1 i.1 j.1,j.2)):=by
 have h4:=hI aO gq.1 gq.2
 refine(h4.bind fun a=>h4.bind fun b=>h4.bind fun d=>h4.bind fun e=>h4.bind fun g=>h4.bind fun h=>h4.bind fun i=>h4.bind fun j=>bh.ret (f a b d e g h i j)).iff fun c x=>?_
 rw[hS]
 constructor
 ·rintro⟨a,_,_,⟨rfl,va⟩,⟨b,_,_,⟨rfl,vb⟩,⟨d,_,_,⟨rfl,vd⟩,⟨e,_,_,⟨rfl,ve⟩,⟨g,_,_,⟨rfl,vg⟩,⟨h,_,_,⟨rfl,vh⟩,⟨i,_,_,⟨rfl,vi⟩,⟨j,_,_,⟨rfl,vj⟩,⟨rfl,rfl⟩,rfl⟩,rfl⟩,rfl⟩,rfl⟩,rfl⟩,rfl⟩,rfl⟩,rfl⟩
  exact⟨a,b,d,e,g,h,i,j,rfl,by simp[nm],va,vb,vd,ve,vg,vh,vi,vj⟩
 ·rintro⟨a,b,d,e,g,h,i,j,rfl,rfl,va,vb,vd,ve,vg,vh,vi,vj⟩
  exact⟨a,_,_,⟨rfl,va⟩,⟨b,_,_,⟨rfl,vb⟩,⟨d,_,_,⟨rfl,vd⟩,⟨e,_,_,⟨rfl,ve⟩,⟨g,_,_,⟨rfl,vg⟩,⟨h,_,_,⟨rfl,vh⟩,⟨i,_,_,⟨rfl,vi⟩,⟨j,_,_,⟨rfl,vj⟩,⟨rfl,rfl⟩,rfl⟩,rfl⟩,rfl⟩,rfl⟩,rfl⟩,rfl⟩,rfl⟩,by simp[nm]⟩
include hI hX in
theorem EU (top:Int) (h0:0≤top) (h1:top≤1099511627776):bh (Fo dT (mF top)) (fun r=>Option.bind (I top r) fun x=>Option.bind (I aO x.2) fun y=>Option.bind (X y.2) fun z=>Option.bind (X z.2) fun w=>Option.bind (I aO w.2) fun u=>Option.bind (I aO u.2) fun v=>
  Option.bind (I aO v.2) fun a=>Option.bind (I aO a.2) fun b=>Option.bind (I aO b.2) fun d=>Option.bind (I aO d.2) fun e=>Option.bind (I aO e.2) fun g=>Option.bind (I aO g.2) fun h=>Option.bind (I aO h.2) fun i=>Option.bind (I aO i.2) fun j=>some (bo.mk x.1 y.1 z.1 w.1 (Counter.mk u.1 v.1 (fO.mk a.1 b.1 d.1 e.1 g.1 h.1 i.1 j.1)),j.2)):=by
 have h4:=hI aO gq.1 gq.2
 refine((hI top h0 h1).bind fun x=>h4.bind fun y=>hX.bind fun z=>hX.bind fun w=>h4.bind fun u=>h4.bind fun v=>K9 hI (fun a b d e g h i j=>bo.mk x y z w (Counter.mk u v (fO.mk a b d e g h i j))) _ fun c x=>Iff.rfl).iff fun c x=>⟨?_,?_⟩
 ·rintro⟨x,_,_,⟨rfl,vx⟩,⟨y,_,_,⟨rfl,vy⟩,⟨z,_,_,⟨rfl,vz⟩,⟨w,_,_,⟨rfl,vw⟩,⟨u,_,_,⟨rfl,vu⟩,⟨v,_,_,⟨rfl,vv⟩,⟨a,b,d,e,g,h,i,j,rfl,rfl,va⟩,rfl⟩,rfl⟩,rfl⟩,rfl⟩,rfl⟩,rfl⟩
  exact⟨by simp[dT,dN,dA,bC,bq,nm],vx,vy,vz,vw,vu,vv,va⟩
 ·rintro⟨rfl,vx,vy,vz,vw,vu,vv,va⟩
  exact⟨_,_,_,⟨rfl,vx⟩,⟨_,_,_,⟨rfl,vy⟩,⟨_,_,_,⟨rfl,vz⟩,⟨_,_,_,⟨rfl,vw⟩,⟨_,_,_,⟨rfl,vu⟩,⟨_,_,_,⟨rfl,vv⟩,⟨_,_,_,_,_,_,_,_,rfl,rfl,va⟩,rfl⟩,rfl⟩,rfl⟩,rfl⟩,rfl⟩,by simp[dT,dN,dA,bC,bq,nm]⟩
end
theorem pI:∀top:Int,0≤top→top≤1099511627776→bh (Fo bq (cg top)) ((fun t r=>cE r t) top):=fun top h0 h1=>EI h0 h1
theorem yZ:bh (Fo ef jd) oh:=EP EH
theorem La:bh (Fo dS mE) wU:=EQ yZ EJ
theorem Lb:bh (Fo dU nG) wX:=ER pI yU
theorem Lc:bh (Fo dV nH) wZ:=ES EH pI yU yZ
theorem Ld:bh (Fo d6 nI) xb:=ET pI
theorem EV:Fu=1208925819614629174706167+1+1+1+1+1+1+1+1+1:=rfl
theorem Le (r:Z):oi r=Option.bind (cE r 3) fun x=>Option.bind (cE x.2 aO) fun y=>Option.bind (ew y.2) fun z=>Option.bind (ew z.2) fun w=>Option.bind (cE w.2 aO) fun u=>Option.bind (cE u.2 aO) fun v=>
  Option.bind (cE v.2 aO) fun a=>Option.bind (cE a.2 aO) fun b=>Option.bind (cE b.2 aO) fun d=>Option.bind (cE d.2 aO) fun e=>Option.bind (cE e.2 aO) fun g=>Option.bind (cE g.2 aO) fun h=>Option.bind (cE h.2 aO) fun i=>Option.bind (cE i.2 aO) fun j=>some (bo.mk x.1 y.1 z.1 w.1 (Counter.mk u.1 v.1 (fO.mk a.1 b.1 d.1 e.1 g.1 h.1 i.1 j.1)),j.2):=by
 unfold oi
 refine congrArg (Option.bind _) (funext fun x=>congrArg (Option.bind _) (funext fun y=>congrArg (Option.bind _) (funext fun z=>congrArg (Option.bind _) (funext fun w=>congrArg (Option.bind _) (funext fun u=>congrArg (Option.bind _) (funext fun v=>?_))))))
 rw[EV]
 refine(gp rfl _).trans (congrArg (Option.bind _) (funext fun a=>?_))
 refine(gp rfl _).trans (congrArg (Option.bind _) (funext fun b=>?_))
 refine(gp rfl _).trans (congrArg (Option.bind _) (funext fun d=>?_))
 refine(gp rfl _).trans (congrArg (Option.bind _) (funext fun e=>?_))
 refine(gp rfl _).trans (congrArg (Option.bind _) (funext fun g=>?_))
 refine(gp rfl _).trans (congrArg (Option.bind _) (funext fun h=>?_))
 refine(gp rfl _).trans (congrArg (Option.bind _) (funext fun i=>?_))
 refine(gp rfl _).trans (congrArg (Option.bind _) (funext fun j=>?_))
 exact eC rfl
theorem Lf:bh (Fo dT (mF 3)) oi:=by
 rw[show oi=_ from funext Le]
 exact EU pI yU 3 (by omega) (by omega)
theorem xI:∀top:Int,0≤top→top≤1099511627776→bh (Fo bq (cg top)) ((fun t r=>bR r t) top):=fun top h0 h1=>yV h0 h1
theorem EW:bh (Fo (fun b:Bool=>bq (df b)) fun _=>True) (fun r=>Option.bind (bR r 1) fun x=>some (x.1 == 1,x.2)):=by
 refine((yV (top:=1) (by omega) (by omega)).bind fun n=>bh.ret (n == 1)).iff fun a x=>⟨?_,?_⟩
 ·rintro⟨n,x1,x2,⟨rfl,v1,v2⟩,⟨rfl,rfl⟩,rfl⟩
  refine⟨?_,trivial⟩
  show bq n++[]=bq (df (n == 1))
  rw[yF v1 v2,List.append_nil]
 ·rintro⟨rfl,_⟩
  refine⟨df a,_,[],⟨rfl,?_⟩,⟨(yG a).symm,rfl⟩,by rw[List.append_nil]⟩
  cases a<;>exact⟨by decide,by decide⟩
def nJ (r:Z):Option (Trace×Z):=Option.bind (eM r) fun x=>Option.bind (eM x.2) fun y=>some (Trace.mk x.1 y.1,y.2)
theorem za:bh (Fo ef jd) nJ:=EP EL
end Go.Proofs.YtjklegmimpehlaaGreat.Ab
namespace Go.Proofs.YtjklegmimpehlaaGreat.Ab
open Go Go.RowKit
set_option linter.unusedVariables false
set_option linter.unusedSimpArgs false
theorem Lg {σ ρ ρ':Type} {b1:σ→Option (σ⊕ρ)} {b2:σ→Option (σ⊕ρ')} (g:ρ→ρ') (h:∀s,b2 s=Option.map (Sum.map id g) (b1 s)):∀(N:Nat) (s:σ),am b2 N s=Option.map g (am b1 N s):=by
 intro N
 induction N with
 | zero=>intro s;rfl
 | succ N ih=>
  intro s
  simp only[am,h]
  cases b1 s with
  | none=>rfl
  | some q=>
   cases q with
   | inl s'=>exact ih s'
   | inr r=>rfl
theorem zb {α ρ:Type} {R:Z→Option (α×Z)} {k:Nat} (g:List α×Z→ρ) (x:Int×Z):∀(N:Nat) (s:List UInt8×Bool×List α×Int),
  am (fun(s:List UInt8×Bool×List α×Int)=>dK R k (fun a B F=>g (a,(⟨B,F⟩:Z))) x s.1 s.2.1 s.2.2.1 s.2.2.2) N s=Option.map g (am (fun(s:List UInt8×Bool×List α×Int)=>dK R k (fun a B F=>(a,(⟨B,F⟩:Z))) x s.1 s.2.1 s.2.2.1 s.2.2.2) N s):=by
 refine Lg g ?_
 rintro⟨B,F,acc,v⟩
 simp only[dK]
 cases decide (v<x.1)with
 | false=>rfl
 | true=>
  cases F with
  | true=>rfl
  | false=>
   simp only[if_true,Bool.not_false,Option.bind_some,Sum.elim_inl]
   cases R ⟨B,false⟩with
   | none=>rfl
   | some y=>
    simp only[Option.bind_some]
    unfold gd
    split<;>rfl
theorem Lh {α:Type} {f:α→List UInt8} {V:α→Prop} {R:Z→Option (α×Z)} {k:Nat} (h:bh (Fo f V) R) (hk:k≤200) (hpos:∀a,V a→1≤(f a).length):bh (Fo (bD f) (dh V)) (fun r=>Option.bind (dZ r) fun x5=>am (fun(s:List UInt8×Bool×List α×Int)=>dK R k (fun a B F=>(a,(⟨B,F⟩:Z))) x5 s.1 s.2.1 s.2.2.1 s.2.2.2) Fu (x5.2.B,x5.2.Bad,[],0)):=by
 have e0:∀l:List α,bD f l=bq (l.length:Int)++l.flatMap f:=fun l=>by simp[bD,bC,bq]
 have z:∀(n:Int) (B:List UInt8) (r:Z),am (fun(s:List UInt8×Bool×List α×Int)=>dK R k (fun a B F=>(a,(⟨B,F⟩:Z))) (n,r) s.1 s.2.1 s.2.2.1 s.2.2.2) Fu (B,true,[],0)=some ([],⟨B,true⟩):=fun n B r=>by
  rw[kI];exact se _ _ B true [] 0 (.inl rfl) _
 refine⟨?_,fun b hb=>?_,fun b hb=>⟨[],⟨[],true⟩,by show Option.bind _ _=_;rw[vA (by omega),Option.bind_some];exact z _ _ _,by simp,rfl⟩⟩
 ·rintro l x q ⟨rfl,v,vl⟩ hl
  rw[e0,List.append_assoc]at hl ⊢
  have h1:=px hpos l v
  show Option.bind _ _=_
  rw[yY (by rw[List.length_append];omega) (by rw[List.length_append]at hl;omega),Option.bind_some]
  exact EO h hk _ _ q l 0 Fu [] (by simp) (by unfold Fu;omega) (by simp;omega) (by omega) (by rw[List.length_append]at hl;omega) v
 ·rcases yX hb with h0 | ⟨n,q,h1,h2,rfl⟩
  ·exact⟨[],⟨[],true⟩,by show Option.bind _ _=_;rw[h0,Option.bind_some];exact z _ _ _,by simp,.inl rfl⟩
  ·have hq:q.length≤5000:=by rw[List.length_append]at hb;omega
   obtain⟨a,r,g1,g2,g3⟩:=EN h hk hpos (fun a B F=>(a,(⟨B,F⟩:Z))) ((n:Int),(⟨q,false⟩:Z)) (by simp only;omega) q.length 0 Fu q [] (Nat.le_refl _) (by unfold Fu;omega) hq (by simp;omega) (by simp only;omega)
   refine⟨a,r,by show Option.bind _ _=_;rw[h1,Option.bind_some];exact g1,by rw[List.length_append];omega,?_⟩
   rcases g3 with g3 | ⟨l,l1,rfl,l3,l4,rfl⟩
   ·exact .inl g3
   ·have e:n=a.length:=by simp at l1;omega
    refine .inr ⟨bD f a,⟨rfl,l3,?_⟩,l4,by rw[e0,e,List.append_assoc]⟩
    have:=px hpos a l3
    rw[List.length_append]at hq;omega
theorem bh.check {α:Type} {S:α→List UInt8→Prop} {R:Z→Option (α×Z)} (h:bh S R) {C:α→Option Bool} {c:α→Bool} (hc:∀a x,S a x→x.length≤5000→C a=some (c a)) :
  bh (fun a x=>S a x∧c a=true) (fun r=>Option.bind (R r) fun y=>if y.2.Bad=true then some (y.1,(⟨y.2.B,true⟩:Z))else Option.bind (C y.1) fun ok=>some (y.1,(⟨y.2.B,!ok⟩:Z))):=by
 refine⟨?_,fun b hb=>?_,fun b hb=>?_⟩
 ·rintro a x q ⟨s,hs⟩ hl
  show Option.bind _ _=_
  rw[h.put a x q s hl,Option.bind_some,if_neg (by simp),hc a x s (by rw[List.length_append]at hl;omega),Option.bind_some,hs]
  rfl
 ·obtain⟨a,⟨B,F⟩,h1,h2,h3⟩:=h.get b hb
  dsimp only at h2 h3
  rcases h3 with rfl | ⟨x,s,rfl,rfl⟩
  ·exact⟨a,⟨B,true⟩,by show Option.bind _ _=_;rw[h1,Option.bind_some,if_pos rfl],h2,.inl rfl⟩
  ·refine⟨a,⟨B,!c a⟩,by show Option.bind _ _=_;rw[h1,Option.bind_some,if_neg (by simp),hc a x s (by rw[List.length_append]at hb;omega),Option.bind_some],h2,?_⟩
   cases hs:c a with
   | false=>exact .inl rfl
   | true=>exact .inr ⟨x,⟨s,rfl⟩,rfl,rfl⟩
 ·obtain⟨a,⟨B,F⟩,h1,h2,h3⟩:=h.bad b hb
  dsimp only at h2 h3
  subst h3
  exact⟨a,⟨B,true⟩,by show Option.bind _ _=_;rw[h1,Option.bind_some,if_pos rfl],h2,rfl⟩
def lI (s:aL):Prop:=i8 s∧dR s=true
def kR (e:az):Prop:=jd e.Trace∧cg aO e.First∧cg aO e.Last∧dh lI e.Spans
theorem EX:∀s,lI s→1≤(ej s).length:=fun s _=>JQ s
theorem zc (e:az):hZ e=bq e.First++(bq e.Last++(bq (df e.Sure)++bD ej e.Spans)):=by
 simp[hZ,bD,bC,bq,gB]
section
variable {I:Int→Z→Option (Int×Z)} {B:Z→Option (Bool×Z)} {L:Z→Option (List aL×Z)}
variable (hI:∀top:Int,0≤top→top≤1099511627776→bh (Fo bq (cg top)) (I top)) (hB:bh (Fo (fun b:Bool=>bq (df b)) fun _=>True) B) (hL:bh (Fo (bD ej) (dh lI)) L)
include hI hB hL in
theorem EY (t:Trace):bh (fun e x=>e.Trace=t∧x=hZ e∧cg aO e.First∧cg aO e.Last∧dh lI e.Spans) (fun r=>Option.bind (I aO r) fun x=>Option.bind (I aO x.2) fun y=>Option.bind (B y.2) fun z=>Option.bind (L z.2) fun w=>some (az.mk t x.1 y.1 z.1 w.1,w.2)):=by
 have h4:=hI aO gq.1 gq.2
 refine(h4.bind fun a=>h4.bind fun b=>hB.bind fun c=>hL.bind fun d=>bh.ret (az.mk t a b c d)).iff fun e x=>⟨?_,?_⟩
 ·rintro⟨a,_,_,⟨rfl,va⟩,⟨b,_,_,⟨rfl,vb⟩,⟨c,_,_,⟨rfl,_⟩,⟨d,_,_,⟨rfl,vd⟩,⟨rfl,rfl⟩,rfl⟩,rfl⟩,rfl⟩,rfl⟩
  exact⟨rfl,by rw[zc,List.append_nil],va,vb,vd⟩
 ·rintro⟨rfl,rfl,va,vb,vd⟩
  exact⟨_,_,_,⟨rfl,va⟩,⟨_,_,_,⟨rfl,vb⟩,⟨_,_,_,⟨rfl,trivial⟩,⟨_,_,_,⟨rfl,vd⟩,⟨rfl,rfl⟩,rfl⟩,rfl⟩,rfl⟩,by rw[zc,List.append_nil]⟩
end
theorem Li (r:Z):(Option.bind (dZ r) fun x12=>am (fun(s:List UInt8×Bool×List aL×Int)=>pJ x12 s.1 s.2.1 s.2.2.1 s.2.2.2) Fu (x12.2.B,x12.2.Bad,[],0)) =
  Option.bind (Option.bind (dZ r) fun x5=>am (fun(s:List UInt8×Bool×List aL×Int)=>dK eF 112 (fun a B F=>(a,(⟨B,F⟩:Z))) x5 s.1 s.2.1 s.2.2.1 s.2.2.2) Fu (x5.2.B,x5.2.Bad,[],0)) fun y=>some (y.2.B,y.2.Bad,y.1):=by
 have hb:∀x12:Int×Z,(fun(s:List UInt8×Bool×List aL×Int)=>pJ x12 s.1 s.2.1 s.2.2.1 s.2.2.2)=fun(s:List UInt8×Bool×List aL×Int)=>dK eF 112 (fun a B F=>(fun(y:List aL×Z)=>(y.2.B,y.2.Bad,y.1)) (a,(⟨B,F⟩:Z))) x12 s.1 s.2.1 s.2.2.1 s.2.2.2:=by
  intro x12
  funext s
  obtain⟨B,F,acc,v⟩:=s
  simp only[pJ,dK]
  cases decide (v<x12.1)with
  | false=>rfl
  | true=>cases F<;>rfl
 cases dZ r with
 | none=>rfl
 | some x=>
  simp only[Option.bind_some]
  rw[hb x,zb (fun(y:List aL×Z)=>(y.2.B,y.2.Bad,y.1)) x]
  cases am _ Fu (x.2.B,x.2.Bad,([]:List aL),(0:Int))<;>rfl
theorem Lj (r:Z) (t:Trace):mJ r t=Option.bind (Option.bind (cE r aO) fun x=>Option.bind (cE x.2 aO) fun y=>Option.bind (ji y.2) fun z=>Option.bind (Option.bind (dZ z.2) fun x5=>am (fun(s:List UInt8×Bool×List aL×Int)=>dK eF 112 (fun a B F=>(a,(⟨B,F⟩:Z))) x5 s.1 s.2.1 s.2.2.1 s.2.2.2) Fu (x5.2.B,x5.2.Bad,[],0)) fun w=>some (az.mk t x.1 y.1 z.1 w.1,w.2))
  fun y=>if y.2.Bad=true then some (y.1,(⟨y.2.B,true⟩:Z))else Option.bind (pH y.1) fun ok=>some (y.1,(⟨y.2.B,!ok⟩:Z)):=by
 unfold mJ
 simp only[Option.bind_assoc,Li,Option.bind_some,zx]
theorem Lk (t:Trace):bh (fun e x=>(e.Trace=t∧x=hZ e∧cg aO e.First∧cg aO e.Last∧dh lI e.Spans)∧eB e=true) (fun r=>mJ r t):=by
 rw[show(fun r=>mJ r t)=_ from funext fun r=>Lj r t]
 exact(EY pI EJ (Lh K3 (by omega) EX) t).check fun e x s _=>Dw e (by have:=s.2.2.2.2.2;omega)
def sf (e:az):Prop:=kR e∧eB e=true
theorem EZ:bh (Fo cW sf) mR:=by
 have h:=yZ.bind fun t=>Lk t
 have e:mR=fun r=>Option.bind (oh r) fun x=>mJ x.2 x.1:=funext fun r=>by
  unfold mR
  cases oh r with
  | none=>rfl
  | some x=>simp only[Option.bind_some];cases mJ x.2 x.1<;>rfl
 rw[e]
 refine h.iff fun c x=>⟨?_,?_⟩
 ·rintro⟨t,_,_,⟨rfl,vt⟩,⟨⟨rfl,rfl,va,vb,vd⟩,hr⟩,rfl⟩
  exact⟨rfl,⟨vt,va,vb,vd⟩,hr⟩
 ·rintro⟨rfl,⟨vt,va,vb,vd⟩,hr⟩
  exact⟨_,_,_,⟨rfl,vt⟩,⟨⟨rfl,rfl,va,vb,vd⟩,hr⟩,rfl⟩
end Go.Proofs.YtjklegmimpehlaaGreat.Ab
namespace Go.Proofs.YtjklegmimpehlaaGreat.Ab
open Go Go.RowKit
set_option linter.unusedVariables false
set_option linter.unusedSimpArgs false
def je (p:af):List UInt8:=bq ((cC 5 p).length:Int)++cC 5 p
def E0 (p:af):Prop:=ee p=true
def py (r:Z):Option (af×Z):=Option.bind (dZ r) fun x12=>Option.bind (gu x12.2 x12.1) fun x13=>Option.bind (nY x13.1) fun x14=>Option.bind (if x13.2.Bad=true then some true else some (x14.2 != 0)) fun s=>some (x14.1,(⟨x13.2.B,s⟩:Z))
theorem zd (b:List UInt8) (hb:b.length≤5000):(∃p,ee p=true∧b=cC 5 p∧nY b=some (p,0))∨nY b=some (r5,2):=by
 rcases(u3 b (by omega)).1 with ⟨p,h1,h2,h3⟩ | ⟨_,h⟩
 ·exact .inl ⟨p,h1,h2,h3⟩
 ·exact .inr h
theorem Ll:bh (Fo je E0) py:=by
 refine⟨?_,fun b hb=>?_,fun b hb=>?_⟩
 ·rintro p x q ⟨rfl,v⟩ hl
  rw[je,List.append_assoc]at hl ⊢
  unfold py
  rw[yY (by rw[List.length_append];omega) (by rw[List.length_append]at hl;omega),Option.bind_some]
  dsimp only
  rw[rT (by rw[List.length_append];omega),Option.bind_some]
  dsimp only
  rw[List.take_left,List.drop_left,DV v,Option.bind_some]
  rfl
 ·unfold py
  rcases yX hb with h0 | ⟨n,q,h1,h2,rfl⟩
  ·rw[h0,Option.bind_some]
   dsimp only
   rw[show gu (⟨[],true⟩:Z) 0=some ([],⟨[],true⟩) from rU (n:=0) (.inl rfl),Option.bind_some]
   rcases zd [] (by simp)with ⟨p,_,_,h⟩ | h
   ·exact⟨p,⟨[],true⟩,by rw[h];rfl,by simp,.inl rfl⟩
   ·exact⟨r5,⟨[],true⟩,by rw[h];rfl,by simp,.inl rfl⟩
  ·have hq:q.length≤5000:=by rw[List.length_append]at hb;omega
   rw[h1,Option.bind_some]
   dsimp only
   rw[rT h2,Option.bind_some]
   dsimp only
   have hd:(q.drop n).length≤(bq (n:Int)++q).length:=by simp;omega
   rcases zd (q.take n) (by simp;omega)with ⟨p,hr,e,h⟩ | h
   ·refine⟨p,⟨q.drop n,false⟩,by rw[h];rfl,hd,.inr ⟨je p,⟨rfl,hr⟩,rfl,?_⟩⟩
    have hn:(cC 5 p).length=n:=by rw[← e];simp;omega
    rw[je,hn,← e,List.append_assoc,List.take_append_drop]
   ·exact⟨r5,⟨q.drop n,true⟩,by rw[h];rfl,hd,.inl rfl⟩
 ·unfold py
  rw[vA (by omega),Option.bind_some]
  dsimp only
  rw[show gu (⟨[],true⟩:Z) 0=some ([],⟨[],true⟩) from rU (n:=0) (.inl rfl),Option.bind_some]
  rcases zd [] (by simp)with ⟨p,_,_,h⟩ | h
  ·exact⟨p,⟨[],true⟩,by rw[h];rfl,by simp,rfl⟩
  ·exact⟨r5,⟨[],true⟩,by rw[h];rfl,by simp,rfl⟩
theorem vC {x:List UInt8} {n:Int} {q:List UInt8} (h:x=bq n++q):1≤x.length:=by rw[h,List.length_append];have:=gC n.toNat;unfold bq;omega
theorem E3 {x:List UInt8} {t:ByteArray} {q:List UInt8} (h:x=co t++q):1≤x.length:=by rw[h,List.length_append,co,List.length_append];have:=gC t.size;omega
theorem ze (e:az):1≤(cW e).length:=vC (n:=e.Trace.Hi) (q:=bq e.Trace.Lo++hZ e) (by simp[cW,ef,bC,bq])
theorem E4 (v:bT):1≤(dS v).length:=vC (n:=v.Trace.Hi) (q:=bq v.Trace.Lo++bq (df v.Kept)) (by simp[dS,ef,bC,bq])
theorem E5 (r:bo):1≤(dT r).length:=vC (n:=r.Level) (q:=bq r.Window++(dA [r.Service,r.Op]++(bC [r.Counter.Count,r.Counter.Errs]++bC (dN r.Counter)))) (by simp[dT,bC,bq])
theorem E6 (x:Edge):1≤(dU x).length:=E3 (t:=x.From) (q:=co x.To++bC [x.Count,x.Errs]) (by simp[dU,dA])
theorem E7 (x:bz):1≤(dV x).length:=E3 (t:=x.Service) (q:=co x.Op++(bC [x.Trace.Hi,x.Trace.Lo,x.Id]++bC [x.Block])) (by simp[dV,dA])
theorem E8 (b:Block):1≤(d6 b).length:=vC (n:=b.Number) (q:=bq b.Born++bq b.Tier) (by simp[d6,bC,bq])
theorem pz {α:Type} {S:α→List UInt8→Prop} {R R':Z→Option (α×Z)} (h:bh S R) (e:∀r,R' r=Option.bind (R r) fun x=>some (x.1,x.2)):bh S R':=by
 rw[show R'=R from funext fun r=>(e r).trans (K8 R r)]
 exact h
theorem Lm:bh (Fo (bD cW) (dh sf)) wS:=by
 have h:=nE (k:=64) (R:=AI) (pz (R:=mR) EZ fun r=>rfl) (by omega) fun e _=>ze e
 exact h
theorem Ln:bh (Fo (bD cW) (dh sf)) wT:=by
 have h:=nE (k:=64) (R:=AK) (pz (R:=mR) EZ fun r=>rfl) (by omega) fun e _=>ze e
 exact h
theorem Lp:bh (Fo (bD dS) (dh mE)) wV:=nE (k:=24) (R:=wU) La (by omega) fun e _=>E4 e
theorem Lq:bh (Fo (bD dT) (dh (mF 3))) wW:=by
 have h:=nE (k:=128) (R:=AQ) (pz (R:=oi) Lf fun r=>rfl) (by omega) fun e _=>E5 e
 exact h
theorem Lr:bh (Fo (bD dU) (dh nG)) wY:=by
 have h:=nE (k:=48) (R:=AS) (pz (R:=wX) Lb fun r=>rfl) (by omega) fun e _=>E6 e
 exact h
theorem Ls:bh (Fo (bD dV) (dh nH)) xa:=by
 have h:=nE (k:=64) (R:=AU) (pz (R:=wZ) Lc fun r=>rfl) (by omega) fun e _=>E7 e
 exact h
theorem Lt:bh (Fo (bD d6) (dh nI)) xc:=by
 have h:=nE (k:=48) (R:=AX) (pz (R:=xb) Ld fun r=>rfl) (by omega) fun e _=>E8 e
 exact h
structure nK (E:az→Prop) (top:Int) (s:aC):Prop where
 now:cg aO s.Now
 sec:cg aO s.Sec
 kept:cg aO s.Kept
 next:cg aO s.Next
 pol:ee s.Policy=true
 open_:dh E s.Open
 pend:dh E s.Pending
 memo:dh mE s.Memo
 rows:dh (mF top) s.Rows
 edgs:dh nG s.Edges
 slts:dh nH s.Slots
 blks:dh nI s.Blocks
theorem nL (s:aC):ek s=bq s.Now++(bq s.Sec++(bq s.Kept++(bq s.Next++(je s.Policy++(bD cW s.Open++(bD cW s.Pending++(bD dS s.Memo++(bD dT s.Rows++(bD dU s.Edges++(bD dV s.Slots++bD d6 s.Blocks)))))))))):=by
 simp[ek,je,bC,bq]
def zf (E:az→Prop) (top:Int) (a b c d:Int) (p:af):aC→List UInt8→Prop:=fun s x=>(s.Now=a∧s.Sec=b∧s.Kept=c∧s.Next=d∧s.Policy=p)∧x=bD cW s.Open++(bD cW s.Pending++(bD dS s.Memo++(bD dT s.Rows++(bD dU s.Edges++(bD dV s.Slots++bD d6 s.Blocks)))))∧dh E s.Open∧dh E s.Pending∧dh mE s.Memo∧dh (mF top) s.Rows∧dh nG s.Edges∧dh nH s.Slots∧dh nI s.Blocks
section
variable {I:Int→Z→Option (Int×Z)} {P:Z→Option (af×Z)} {E1 E2:Z→Option (List az×Z)} {M:Z→Option (List bT×Z)} {O:Z→Option (List bo×Z)} {D:Z→Option (List Edge×Z)} {S:Z→Option (List bz×Z)} {K:Z→Option (List Block×Z)} {E:az→Prop} {top:Int}
theorem E9 (h1:bh (Fo (bD cW) (dh E)) E1) (h2:bh (Fo (bD cW) (dh E)) E2) (h3:bh (Fo (bD dS) (dh mE)) M) (h4:bh (Fo (bD dT) (dh (mF top))) O) (h5:bh (Fo (bD dU) (dh nG)) D) (h6:bh (Fo (bD dV) (dh nH)) S) (h7:bh (Fo (bD d6) (dh nI)) K) (a b c d:Int) (p:af) :
  bh (zf E top a b c d p)
   (fun r=>Option.bind (E1 r) fun x1=>Option.bind (E2 x1.2) fun x2=>Option.bind (M x2.2) fun x3=>Option.bind (O x3.2) fun x4=>Option.bind (D x4.2) fun x5=>Option.bind (S x5.2) fun x6=>Option.bind (K x6.2) fun x7=>some (aC.mk a b c d p x1.1 x2.1 x3.1 x4.1 x5.1 x6.1 x7.1,x7.2)):=by
 refine(h1.bind fun x1=>h2.bind fun x2=>h3.bind fun x3=>h4.bind fun x4=>h5.bind fun x5=>h6.bind fun x6=>h7.bind fun x7=>bh.ret (aC.mk a b c d p x1 x2 x3 x4 x5 x6 x7)).iff fun s x=>⟨?_,?_⟩
 ·rintro⟨y1,_,_,⟨rfl,v1⟩,⟨y2,_,_,⟨rfl,v2⟩,⟨y3,_,_,⟨rfl,v3⟩,⟨y4,_,_,⟨rfl,v4⟩,⟨y5,_,_,⟨rfl,v5⟩,⟨y6,_,_,⟨rfl,v6⟩,⟨y7,_,_,⟨rfl,v7⟩,⟨rfl,rfl⟩,rfl⟩,rfl⟩,rfl⟩,rfl⟩,rfl⟩,rfl⟩,rfl⟩
  exact⟨⟨rfl,rfl,rfl,rfl,rfl⟩,by simp,v1,v2,v3,v4,v5,v6,v7⟩
 ·rintro⟨⟨rfl,rfl,rfl,rfl,rfl⟩,rfl,v1,v2,v3,v4,v5,v6,v7⟩
  exact⟨_,_,_,⟨rfl,v1⟩,⟨_,_,_,⟨rfl,v2⟩,⟨_,_,_,⟨rfl,v3⟩,⟨_,_,_,⟨rfl,v4⟩,⟨_,_,_,⟨rfl,v5⟩,⟨_,_,_,⟨rfl,v6⟩,⟨_,_,_,⟨rfl,v7⟩,⟨rfl,rfl⟩,rfl⟩,rfl⟩,rfl⟩,rfl⟩,rfl⟩,rfl⟩,by simp⟩
theorem Lu (hI:∀top:Int,0≤top→top≤1099511627776→bh (Fo bq (cg top)) (I top)) (hP:bh (Fo je E0) P) {R:Int→Int→Int→Int→af→Z→Option (aC×Z)}
  (hR:∀a b c d p,bh (zf E top a b c d p) (R a b c d p)) :
  bh (Fo ek (nK E top)) (fun r=>Option.bind (I aO r) fun x=>Option.bind (I aO x.2) fun y=>Option.bind (I aO y.2) fun z=>Option.bind (I aO z.2) fun w=>Option.bind (P w.2) fun p=>R x.1 y.1 z.1 w.1 p.1 p.2):=by
 have h4:=hI aO gq.1 gq.2
 refine(h4.bind fun a=>h4.bind fun b=>h4.bind fun c=>h4.bind fun d=>hP.bind fun p=>hR a b c d p).iff fun s x=>⟨?_,?_⟩
 ·rintro⟨a,_,_,⟨rfl,va⟩,⟨b,_,_,⟨rfl,vb⟩,⟨c,_,_,⟨rfl,vc⟩,⟨d,_,_,⟨rfl,vd⟩,⟨p,_,_,⟨rfl,vp⟩,⟨⟨rfl,rfl,rfl,rfl,rfl⟩,rfl,v1,v2,v3,v4,v5,v6,v7⟩,rfl⟩,rfl⟩,rfl⟩,rfl⟩,rfl⟩
  exact⟨by rw[nL],va,vb,vc,vd,vp,v1,v2,v3,v4,v5,v6,v7⟩
 ·rintro⟨rfl,va,vb,vc,vd,vp,v1,v2,v3,v4,v5,v6,v7⟩
  exact⟨_,_,_,⟨rfl,va⟩,⟨_,_,_,⟨rfl,vb⟩,⟨_,_,_,⟨rfl,vc⟩,⟨_,_,_,⟨rfl,vd⟩,⟨_,_,_,⟨rfl,vp⟩,⟨⟨rfl,rfl,rfl,rfl,rfl⟩,rfl,v1,v2,v3,v4,v5,v6,v7⟩,rfl⟩,rfl⟩,rfl⟩,rfl⟩,by rw[nL]⟩
end
theorem Lv (r:Z):qv r=Option.bind (cE r aO) fun x=>Option.bind (cE x.2 aO) fun y=>Option.bind (cE y.2 aO) fun z=>Option.bind (cE z.2 aO) fun w=>Option.bind (py w.2) fun p=>
  Option.bind (wS p.2) fun x1=>Option.bind (wT x1.2) fun x2=>Option.bind (wV x2.2) fun x3=>Option.bind (wW x3.2) fun x4=>Option.bind (wY x4.2) fun x5=>Option.bind (xa x5.2) fun x6=>Option.bind (xc x6.2) fun x7=>some (aC.mk x.1 y.1 z.1 w.1 p.1 x1.1 x2.1 x3.1 x4.1 x5.1 x6.1 x7.1,x7.2):=by
 unfold qv py
 simp only[Option.bind_assoc,Option.bind_some,AZ]
theorem Fa:bh (Fo ek (nK sf 3)) qv:=by
 rw[show qv=_ from funext Lv]
 exact Lu pI Ll fun a b c d p=>E9 Lm Ln Lp Lq Lr Ls Lt a b c d p
end Go.Proofs.YtjklegmimpehlaaGreat.Ab
namespace Go.Proofs.YtjklegmimpehlaaGreat.Ab
open Go Go.RowKit
set_option linter.unusedVariables false
set_option linter.unusedSimpArgs false
def vD (r:Z):Option (Bool×Z):=Option.bind (bR r 1) fun x=>some (x.1 == 1,x.2)
def xL {α:Type} (R:Z→Option (α×Z)) (k:Nat) (r:Z):Option (List α×Z):=Option.bind (bR r 1073741824) fun x5=>am (fun(s:List UInt8×Bool×List α×Int)=>dK R k (fun a B F=>(a,(⟨B,F⟩:Z))) x5 s.1 s.2.1 s.2.2.1 s.2.2.2) Fu (x5.2.B,x5.2.Bad,[],0)
theorem Lw (r:Z) (t:Trace):oI r t=Option.bind (bR r aO) fun x=>Option.bind (bR x.2 aO) fun y=>Option.bind (vD y.2) fun z=>Option.bind (xL eO 112 z.2) fun w=>some (az.mk t x.1 y.1 z.1 w.1,w.2):=by
 unfold oI vD xL
 simp only[Option.bind_assoc,Option.bind_some]
 refine congrArg (Option.bind _) (funext fun x3=>congrArg (Option.bind _) (funext fun x4=>congrArg (Option.bind _) (funext fun x6=>congrArg (Option.bind _) (funext fun x8=>?_))))
 refine(zb (R:=eO) (k:=112) (fun y=>(az.mk t x3.1 x4.1 (x6.1 == 1) y.1,y.2)) x8 Fu _).trans ?_
 cases am _ Fu (x8.2.B,x8.2.Bad,([]:List aL),(0:Int))<;>rfl
theorem Lx (t:Trace):bh (fun e x=>e.Trace=t∧x=hZ e∧cg aO e.First∧cg aO e.Last∧dh lI e.Spans) (fun r=>oI r t):=by
 rw[show(fun r=>oI r t)=_ from funext fun r=>Lw r t]
 exact EY xI EW (nF K5 (by omega) EX) t
def zg (r:Z):Option (az×Z):=Option.bind (nJ r) fun x=>oI x.2 x.1
theorem Ly:bh (Fo cW kR) zg:=by
 refine(za.bind fun t=>Lx t).iff fun c x=>⟨?_,?_⟩
 ·rintro⟨t,_,_,⟨rfl,vt⟩,⟨rfl,rfl,va,vb,vd⟩,rfl⟩
  exact⟨rfl,vt,va,vb,vd⟩
 ·rintro⟨rfl,vt,va,vb,vd⟩
  exact⟨_,_,_,⟨rfl,vt⟩,⟨rfl,rfl,va,vb,vd⟩,rfl⟩
theorem Lz (r:Z):kc r=xL zg 64 r:=by
 unfold kc xL
 refine congrArg (Option.bind _) (funext fun x4=>?_)
 refine congrArg (fun b=>am b Fu (x4.2.B,x4.2.Bad,([]:List az),(0:Int))) (funext fun s=>?_)
 simp only[xr,dK,BG,zg,nJ,Option.bind_assoc,Option.bind_some]
theorem Fb:bh (Fo (bD cW) (dh kR)) kc:=by
 rw[show kc=_ from funext Lz]
 exact nF Ly (by omega) fun e _=>ze e
def vE (r:Z):Option (bT×Z):=Option.bind (nJ r) fun x=>Option.bind (vD x.2) fun y=>some (bT.mk x.1 y.1,y.2)
def vF (r:Z):Option (Edge×Z):=Option.bind (eo r) fun x=>Option.bind (eo x.2) fun y=>Option.bind (bR y.2 aO) fun z=>Option.bind (bR z.2 aO) fun w=>some (Edge.mk x.1 y.1 z.1 w.1,w.2)
def vG (r:Z):Option (bz×Z):=Option.bind (eo r) fun x=>Option.bind (eo x.2) fun y=>Option.bind (nJ y.2) fun z=>Option.bind (eM z.2) fun w=>Option.bind (bR w.2 aO) fun u=>some (bz.mk x.1 y.1 z.1 w.1 u.1,u.2)
def vH (r:Z):Option (Block×Z):=Option.bind (bR r aO) fun x=>Option.bind (bR x.2 aO) fun y=>Option.bind (bR y.2 aO) fun z=>some (Block.mk x.1 y.1 z.1 [],z.2)
def vI (r:Z):Option (bo×Z):=Option.bind (bR r 2) fun x=>Option.bind (bR x.2 aO) fun y=>Option.bind (eo y.2) fun z=>Option.bind (eo z.2) fun w=>Option.bind (bR w.2 aO) fun u=>Option.bind (bR u.2 aO) fun v=>
  Option.bind (bR v.2 aO) fun a=>Option.bind (bR a.2 aO) fun b=>Option.bind (bR b.2 aO) fun d=>Option.bind (bR d.2 aO) fun e=>Option.bind (bR e.2 aO) fun g=>Option.bind (bR g.2 aO) fun h=>Option.bind (bR h.2 aO) fun i=>Option.bind (bR i.2 aO) fun j=>some (bo.mk x.1 y.1 z.1 w.1 (Counter.mk u.1 v.1 (fO.mk a.1 b.1 d.1 e.1 g.1 h.1 i.1 j.1)),j.2)
theorem LA:bh (Fo dS mE) vE:=EQ za EW
theorem LB:bh (Fo dU nG) vF:=ER xI yW
theorem LC:bh (Fo dV nH) vG:=ES EL xI yW za
theorem LD:bh (Fo d6 nI) vH:=ET xI
theorem LF:bh (Fo dT (mF 2)) vI:=EU xI yW 2 (by omega) (by omega)
theorem sg {α β:Type} {R:Z→Option (α×Z)} {k:Nat} {L:Int×Z→List UInt8×Bool×List α×Int→Option ((List UInt8×Bool×List α×Int)⊕(List UInt8×Bool×List α))} (hL:∀x s,L x s=dK R k (fun a B F=>(B,F,a)) x s.1 s.2.1 s.2.2.1 s.2.2.2) (K:List UInt8→Bool→List α→Option β) (r:Z) :
  (Option.bind (bR r 1073741824) fun x=>Option.bind (am (L x) Fu (x.2.B,x.2.Bad,[],0)) fun s=>K s.1 s.2.1 s.2.2)=Option.bind (xL R k r) fun y=>K y.2.B y.2.Bad y.1:=by
 unfold xL
 rw[Option.bind_assoc]
 refine congrArg (Option.bind _) (funext fun x=>?_)
 rw[show L x=fun s=>dK R k (fun a B F=>(fun(y:List α×Z)=>(y.2.B,y.2.Bad,y.1)) (a,(⟨B,F⟩:Z))) x s.1 s.2.1 s.2.2.1 s.2.2.2 from funext (hL x),zb (fun(y:List α×Z)=>(y.2.B,y.2.Bad,y.1)) x]
 cases am _ Fu (x.2.B,x.2.Bad,([]:List α),(0:Int))<;>rfl
theorem LG (x:Int×Z) (s:List UInt8×Bool×List bT×Int):qL x s.1 s.2.1 s.2.2.1 s.2.2.2=dK vE 24 (fun a B F=>(B,F,a)) x s.1 s.2.1 s.2.2.1 s.2.2.2:=by
 simp only[qL,dK,BH,vE,nJ,vD,Option.bind_assoc,Option.bind_some]
theorem LH (x:Int×Z) (s:List UInt8×Bool×List Edge×Int):tW x s.1 s.2.1 s.2.2.1 s.2.2.2=dK vF 48 (fun a B F=>(B,F,a)) x s.1 s.2.1 s.2.2.1 s.2.2.2:=by
 simp only[tW,dK,BK,vF,Option.bind_assoc,Option.bind_some]
theorem LI (x:Int×Z) (s:List UInt8×Bool×List bz×Int):tX x s.1 s.2.1 s.2.2.1 s.2.2.2=dK vG 64 (fun a B F=>(B,F,a)) x s.1 s.2.1 s.2.2.1 s.2.2.2:=by
 simp only[tX,dK,BL,vG,nJ,Option.bind_assoc,Option.bind_some]
theorem LJ (x:Int×Z) (s:List UInt8×Bool×List Block×Int):tY x s.1 s.2.1 s.2.2.1 s.2.2.2=dK vH 48 (fun a B F=>(B,F,a)) x s.1 s.2.1 s.2.2.1 s.2.2.2:=by
 simp only[tY,dK,BM,vH,Option.bind_assoc,Option.bind_some]
theorem LK {β:Type} (r:Z) (K:List UInt8→Bool→Int→Int→Int→Int→Int→Int→Int→Int→Option β) :
  (Option.bind (am (fun(s:List UInt8×Bool×Int×Int×Int×Int×Int×Int×Int×Int×Int)=>xt s.1 s.2.1 s.2.2.1 s.2.2.2.1 s.2.2.2.2.1 s.2.2.2.2.2.1 s.2.2.2.2.2.2.1 s.2.2.2.2.2.2.2.1 s.2.2.2.2.2.2.2.2.1 s.2.2.2.2.2.2.2.2.2.1 s.2.2.2.2.2.2.2.2.2.2) Fu (r.B,r.Bad,0,0,0,0,0,0,0,0,0)) fun s=>K s.1 s.2.1 s.2.2.1 s.2.2.2.1 s.2.2.2.2.1 s.2.2.2.2.2.1 s.2.2.2.2.2.2.1 s.2.2.2.2.2.2.2.1 s.2.2.2.2.2.2.2.2.1 s.2.2.2.2.2.2.2.2.2) =
  Option.bind (bR r aO) fun a=>Option.bind (bR a.2 aO) fun b=>Option.bind (bR b.2 aO) fun d=>Option.bind (bR d.2 aO) fun e=>Option.bind (bR e.2 aO) fun g=>Option.bind (bR g.2 aO) fun h=>Option.bind (bR h.2 aO) fun i=>Option.bind (bR i.2 aO) fun j=>K j.2.B j.2.Bad a.1 b.1 d.1 e.1 g.1 h.1 i.1 j.1:=by
 rw[EV,gp rfl,Option.bind_assoc]
 refine congrArg (Option.bind _) (funext fun a=>?_)
 rw[gp rfl,Option.bind_assoc]
 refine congrArg (Option.bind _) (funext fun b=>?_)
 rw[gp rfl,Option.bind_assoc]
 refine congrArg (Option.bind _) (funext fun d=>?_)
 rw[gp rfl,Option.bind_assoc]
 refine congrArg (Option.bind _) (funext fun e=>?_)
 rw[gp rfl,Option.bind_assoc]
 refine congrArg (Option.bind _) (funext fun g=>?_)
 rw[gp rfl,Option.bind_assoc]
 refine congrArg (Option.bind _) (funext fun h=>?_)
 rw[gp rfl,Option.bind_assoc]
 refine congrArg (Option.bind _) (funext fun i=>?_)
 rw[gp rfl,Option.bind_assoc]
 refine congrArg (Option.bind _) (funext fun j=>?_)
 rw[eC rfl]
 rfl
theorem LL (x:Int×Z) (s:List UInt8×Bool×List bo×Int):tV x s.1 s.2.1 s.2.2.1 s.2.2.2=dK vI 128 (fun a B F=>(B,F,a)) x s.1 s.2.1 s.2.2.1 s.2.2.2:=by
 unfold tV dK
 refine congrArg (fun f=>Option.bind _ (Sum.elim f some)) (funext fun _=>?_)
 unfold BJ
 simp only[vI,Option.bind_assoc,Option.bind_some]
 refine congrArg (Option.bind _) (funext fun x70=>congrArg (Option.bind _) (funext fun x71=>congrArg (Option.bind _) (funext fun x72=>congrArg (Option.bind _) (funext fun x73=>congrArg (Option.bind _) (funext fun x75=>congrArg (Option.bind _) (funext fun x77=>?_))))))
 exact LK x77.2 (BI s.2.2.1 s.2.2.2 x70 x71 x72 x73 x75 x77)
def sh (a b c d:Int) (p:af) (r:Z):Option (aC×Z):=Option.bind (kc r) fun x1=>Option.bind (kc x1.2) fun x2=>Option.bind (xL vE 24 x2.2) fun x3=>Option.bind (xL vI 128 x3.2) fun x4=>Option.bind (xL vF 48 x4.2) fun x5=>Option.bind (xL vG 64 x5.2) fun x6=>Option.bind (xL vH 48 x6.2) fun x7=>some (aC.mk a b c d p x1.1 x2.1 x3.1 x4.1 x5.1 x6.1 x7.1,x7.2)
theorem Fc (a b c d:Int) (p:af):bh (zf kR 2 a b c d p) (sh a b c d p):=E9 (E:=kR) (top:=2) Fb Fb (nF LA (by omega:24≤200) fun e _=>E4 e) (nF LF (by omega:128≤200) fun e _=>E5 e) (nF LB (by omega:48≤200) fun e _=>E6 e) (nF LC (by omega:64≤200) fun e _=>E7 e) (nF LD (by omega:48≤200) fun e _=>E8 e) a b c d p
def cR:aC:=aC.mk 0 0 0 0 (af.mk 0 0 (aa []) (aa []) []) [] [] [] [] [] [] []
def pA (b:List UInt8) (y:aC×Z):Option (aC×Int):=if y.2.Bad=true then some (cR,2)else Option.bind (oH y.1) fun z=>if(!(ByteArray.toList (aa z) == ByteArray.toList (aa b)))=true then some (cR,2)else some (y.1,0)
theorem LM (a0:List UInt8) (x10 x11 x12 x13:Int×Z) (x26:af×Int) (r:Z):(Option.bind (kc r) fun x36=>Option.bind (kc x36.2) fun x38=>Option.bind (bR x38.2 1073741824) fun x40=>Option.bind (am (fun(s:List UInt8×Bool×List bT×Int)=>qL x40 s.1 s.2.1 s.2.2.1 s.2.2.2) Fu (x40.2.B,x40.2.Bad,[],0)) fun s=>xv a0 x10 x11 x12 x13 x26 x36 x38 s.1 s.2.1 s.2.2)=Option.bind (sh x10.1 x11.1 x12.1 x13.1 x26.1 r) (pA a0):=by
 unfold sh
 simp only[Option.bind_assoc,Option.bind_some]
 refine congrArg (Option.bind _) (funext fun x36=>congrArg (Option.bind _) (funext fun x38=>?_))
 refine(sg LG (xv a0 x10 x11 x12 x13 x26 x36 x38) x38.2).trans (congrArg (Option.bind _) (funext fun y1=>?_))
 refine(sg LL (BP a0 x10 x11 x12 x13 x26 x36 x38 y1.1) y1.2).trans (congrArg (Option.bind _) (funext fun y2=>?_))
 refine(sg LH (BO a0 x10 x11 x12 x13 x26 x36 x38 y1.1 y2.1) y2.2).trans (congrArg (Option.bind _) (funext fun y3=>?_))
 refine(sg LI (BN a0 x10 x11 x12 x13 x26 x36 x38 y1.1 y2.1 y3.1) y3.2).trans (congrArg (Option.bind _) (funext fun y4=>?_))
 exact(sg LJ (xu a0 x10 x11 x12 x13 x26 x36 x38 y1.1 y2.1 y3.1 y4.1) y4.2).trans (congrArg (Option.bind _) (funext fun y5=>rfl))
end Go.Proofs.YtjklegmimpehlaaGreat.Ab
namespace Go.Proofs.YtjklegmimpehlaaGreat.Ab
open Go Go.RowKit
set_option linter.unusedVariables false
set_option linter.unusedSimpArgs false
def Wx (F:List UInt8→Option (List UInt8)) (x:List UInt8):Prop:=∀b,(b++x).length≤90000000→F b=some (b++x)
theorem Wx.bind {F G:List UInt8→Option (List UInt8)} {x y:List UInt8} (h1:Wx F x) (h2:Wx G y):Wx (fun b=>Option.bind (F b) G) (x++y):=by
 intro b hb
 rw[← List.append_assoc]at hb ⊢
 show Option.bind _ _=_
 rw[h1 b (by rw[List.length_append]at hb;omega),Option.bind_some]
 exact h2 _ hb
theorem Wx.some {F:List UInt8→Option (List UInt8)} {x:List UInt8} (h:Wx F x):Wx (fun b=>Option.bind (F b) fun c=>some c) x:=by
 intro b hb
 show Option.bind _ _=_
 rw[h b hb];rfl
theorem vJ {n:Int} (h:cI n):Wx (fun b=>dm b n) (bq n):=fun b hb=>DO b h.1 h.2 (by rw[List.length_append]at hb;omega)
theorem zh {n:Int} (h:cg aO n):cI n:=⟨h.1,by have:=h.2;unfold aO at this;omega⟩
theorem LN {n:Int} (h:cg aO n):Wx (fun b=>dm b (IntKind.u64.wrap n)) (bq n):=by
 rw[fL (zh h).1 (zh h).2]
 exact vJ (zh h)
theorem LO {s:ByteArray} (h:s.size≤5000):Wx (fun b=>ga b s) (co s):=fun b hb=>ns b s (by rw[List.length_append]at hb;omega) (by omega)
theorem zi {n:Int} (h:cI n) (b:List UInt8) (hb:(b++bq n).length≤90000000):dm b n=some (b++bq n):=vJ h b hb
theorem jf {n:Int} (h:cg aO n) (b:List UInt8) (hb:(b++bq n).length≤90000000):dm b (IntKind.u64.wrap n)=some (b++bq n):=LN h b hb
theorem pB {s:ByteArray} (h:s.size≤5000) (b:List UInt8) (hb:(b++co s).length≤90000000):ga b s=some (b++co s):=LO h b hb
theorem lJ {α ρ:Type} {f:α→List UInt8} (l:List α) (hl:l.length≤1000000) {body:List UInt8×Int→Option ((List UInt8×Int)⊕ρ)} (g:List UInt8→ρ) (step:∀(i:Nat) (a:α) (b:List UInt8),l[i]? = some a→i<l.length→(b++f a).length≤90000000→body (b,(i:Int))=some (.inl (b++f a,((i+1:Nat):Int))))
  (fin:∀b,body (b,(l.length:Int))=some (.inr (g b))) {b:List UInt8} (hb:(b++l.flatMap f).length≤90000000):am body Fu (b,0)=some (g (b++l.flatMap f)):=by
 have key:∀(m i N:Nat) (b:List UInt8),i+m=l.length→m<N→(b++(l.drop i).flatMap f).length≤90000000→am body N (b,(i:Int))=some (g (b++(l.drop i).flatMap f)):=by
  intro m
  induction m with
  | zero=>
   intro i N b hi hN hb
   obtain⟨N,rfl⟩:∃M,N=M+1:=⟨N-1,by omega⟩
   obtain rfl:i=l.length:=by omega
   rw[eC (fin b)];simp
  | succ m ih=>
   intro i N b hi hN hb
   obtain⟨N,rfl⟩:∃M,N=M+1:=⟨N-1,by omega⟩
   have hlt:i<l.length:=by omega
   have e:(l.drop i).flatMap f=f l[i]++(l.drop (i+1)).flatMap f:=by rw[List.drop_eq_getElem_cons hlt,List.flatMap_cons]
   rw[e,← List.append_assoc]at hb ⊢
   rw[eb (step i l[i] b (by simp[hlt]) hlt (by rw[List.length_append]at hb;omega))]
   exact ih (i+1) N _ (by omega) (by omega) hb
 exact key l.length 0 Fu b (by omega) (by unfold Fu;omega) hb
theorem LP (l:List Int) (hl:l.length≤1000) (h:∀n∈l,cg aO n):Wx (fun b=>kb b l) (nm l):=by
 intro b hb
 show kb b l=_
 unfold kb
 refine lJ (f:=bq) l (by omega) (body:=fun(s:List UInt8×Int)=>qG l s.1 s.2) id (fun i a b ha hi hb=>?_) (fun b=>?_) hb
 ·simp only[qG]
  rw[dM (ay (by omega)),aD (by omega),Int.toNat_natCast,ha,Option.bind_some,jf (h a (List.mem_of_getElem? ha)) b hb,Option.bind_some,iH (by omega)]
 ·simp only[qG]
  rw[dD (aw (by omega))];rfl
theorem LQ {t:Trace} (h:jd t):Wx (fun b=>qH b t) (ef t):=by
 have:=(vJ h.1).bind (vJ h.2).some
 rw[show bq t.Hi++bq t.Lo=ef t by simp[ef,bC,bq]]at this
 exact this
theorem zj {t:Trace} (h:jd t) (b:List UInt8) (hb:(b++ef t).length≤90000000):qH b t=some (b++ef t):=LQ h b hb
theorem mG {α:Type} {l:List α} (h:l.length≤1000000):cg aO (l.length:Int):=⟨by omega,by unfold aO;omega⟩
theorem LR {e:az} (h1:cg aO e.First) (h2:cg aO e.Last) (h3:∀s∈e.Spans,lI s) (h4:e.Spans.length≤400000):Wx (fun b=>qJ b e) (hZ e):=by
 rw[zc]
 intro b hb
 show qJ b e=_
 unfold qJ
 have e0:bD ej e.Spans=bq (e.Spans.length:Int)++e.Spans.flatMap ej:=by simp[bD,bC,bq]
 rw[e0]at hb ⊢
 simp only[List.length_append]at hb
 have hbit:mP e.Sure=some (df e.Sure):=by cases e.Sure<;>rfl
 rw[jf h1 b (by rw[List.length_append];omega),Option.bind_some,jf h2 _ (by simp only[List.length_append];omega),Option.bind_some,hbit,Option.bind_some,zi (n:=df e.Sure) (by cases e.Sure<;>exact⟨by decide,by decide⟩) _ (by simp only[List.length_append];omega),Option.bind_some,jf (mG (l:=e.Spans) (by omega)) _ (by simp only[List.length_append];omega),Option.bind_some]
 refine(lJ (f:=ej) e.Spans (by omega) (body:=fun(s:List UInt8×Int)=>qI e s.1 s.2) id (fun i a b ha hi hb=>?_) (fun b=>?_) (by simp only[List.length_append];omega)).trans (by simp)
 ·have hs:=h3 a (List.mem_of_getElem? ha)
  simp only[qI]
  rw[dM (ay (by omega)),aD (by omega),Int.toNat_natCast,ha,Option.bind_some,JS b a hs.1 hs.2 (by rw[List.length_append]at hb;omega),Option.bind_some,iH (by omega)]
 ·simp only[qI]
  rw[dD (aw (by omega))];rfl
theorem LS {e:az} (h1:cg aO e.First) (h2:cg aO e.Last) (h3:∀s∈e.Spans,lI s) (h4:e.Spans.length≤400000) (b:List UInt8) (hb:(b++hZ e).length≤90000000):qJ b e=some (b++hZ e):=LR h1 h2 h3 h4 b hb
def zk (e:az):Prop:=jd e.Trace∧cg aO e.First∧cg aO e.Last∧(∀s∈e.Spans,lI s)∧e.Spans.length≤400000
theorem LU (l:List az) (hl:l.length≤400000) (h:∀e∈l,zk e):Wx (fun b=>oA b l) (bD cW l):=by
 intro b hb
 show oA b l=_
 unfold oA
 have e0:bD cW l=bq (l.length:Int)++l.flatMap cW:=by simp[bD,bC,bq]
 rw[e0]at hb ⊢
 simp only[List.length_append]at hb
 rw[jf (mG (l:=l) (by omega)) _ (by simp only[List.length_append];omega),Option.bind_some]
 refine(lJ (f:=cW) l (by omega) (body:=fun(s:List UInt8×Int)=>qK l s.1 s.2) id (fun i a b ha hi hb=>?_) (fun b=>?_) (by simp only[List.length_append];omega)).trans (by simp)
 ·obtain⟨g1,g2,g3,g4,g5⟩:=h a (List.mem_of_getElem? ha)
  rw[cW,List.length_append,List.length_append]at hb
  simp only[qK]
  rw[dM (ay (by omega)),aD (by omega),Int.toNat_natCast,ha,Option.bind_some,zj g1 b (by rw[List.length_append];omega),Option.bind_some,aD (by omega),Option.bind_some,LS g2 g3 g4 g5 _ (by simp only[List.length_append];omega),Option.bind_some,iH (by omega),cW,List.append_assoc]
 ·simp only[qK]
  rw[dD (aw (by omega))];rfl
end Go.Proofs.YtjklegmimpehlaaGreat.Ab
namespace Go.Proofs.YtjklegmimpehlaaGreat.Ab
open Go Go.RowKit
set_option linter.unusedVariables false
set_option linter.unusedSimpArgs false
theorem si (l:List Int) (hl:l.length≤1000) (h:∀n∈l,cg aO n) (b:List UInt8) (hb:(b++nm l).length≤90000000):kb b l=some (b++nm l):=LP l hl h b hb
theorem Fe (l:List az) (hl:l.length≤400000) (h:∀e∈l,zk e) (b:List UInt8) (hb:(b++bD cW l).length≤90000000):oA b l=some (b++bD cW l):=LU l hl h b hb
theorem gr {α:Type} (f:α→List UInt8) (l:List α):bD f l=bq (l.length:Int)++l.flatMap f:=by simp[bD,bC,bq]
theorem gt {n:Int} (h:cn n=true):cg aO n:=by have:=o7 h;exact⟨this.1,this.2⟩
theorem zm {p:Int→Prop} {a b:Int} (ha:p a) (hb:p b):∀n∈[a,b],p n:=by simp;exact⟨ha,hb⟩
theorem LV {p:Int→Prop} {a b c:Int} (ha:p a) (hb:p b) (hc:p c):∀n∈[a,b,c],p n:=by simp;exact⟨ha,hb,hc⟩
theorem LW (s:aC) (hl:s.Memo.length≤400000) (hv:∀v∈s.Memo,mE v) (b:List UInt8) (hb:(b++s.Memo.flatMap dS).length≤90000000):am (fun(q:List UInt8×Int)=>oB s q.1 q.2) Fu (b,0)=some (b++s.Memo.flatMap dS):=by
 refine lJ (f:=dS) s.Memo (by omega) (body:=fun(q:List UInt8×Int)=>oB s q.1 q.2) id (fun i a b ha hi hb=>?_) (fun b=>?_) hb
 ·have hv:=hv a (List.mem_of_getElem? ha)
  have e:dS a=ef a.Trace++bq (df a.Kept):=by simp[dS,bC,bq]
  have hbit:mP a.Kept=some (df a.Kept):=by cases a.Kept<;>rfl
  rw[e]at hb ⊢
  simp only[List.length_append]at hb
  simp only[oB]
  rw[dM (ay (by omega)),aD (by omega),Int.toNat_natCast,ha,Option.bind_some,zj hv b (by rw[List.length_append];omega),Option.bind_some,aD (by omega),Option.bind_some,hbit,Option.bind_some,zi (n:=df a.Kept) (by cases a.Kept<;>exact⟨by decide,by decide⟩) _ (by simp only[List.length_append];omega),Option.bind_some,iH (by omega),List.append_assoc]
 ·simp only[oB]
  rw[dD (aw (by omega))];rfl
theorem Ff {r:bo} (h:gH r=true):mF 2 r∧r.Service.size≤16∧r.Op.size≤16:=by
 obtain⟨h2,h3,h4,h5,h6,h7⟩:=vn h
 have a1:=eE h3
 have a2:=eE h4
 have c:=fun n hn=>gt (h7 n hn)
 simp only[dN,List.mem_cons,List.not_mem_nil,or_false]at c
 exact⟨⟨⟨h2.1,h2.2.1⟩,⟨h2.2.2.1,h2.2.2.2⟩,by unfold iG;omega,by unfold iG;omega,gt h5,gt h6,c _ (.inl rfl),c _ (.inr (.inl rfl)),c _ (.inr (.inr (.inl rfl))),c _ (.inr (.inr (.inr (.inl rfl)))),c _ (.inr (.inr (.inr (.inr (.inl rfl))))),c _ (.inr (.inr (.inr (.inr (.inr (.inl rfl)))))),c _ (.inr (.inr (.inr (.inr (.inr (.inr (.inl rfl))))))),c _ (.inr (.inr (.inr (.inr (.inr (.inr (.inr rfl))))))) ⟩,a1.2,a2.2⟩
theorem LX (v:Int) (r:bo) (hr:∀n∈dN r.Counter,cg aO n) (b:List UInt8) (hb:(b++(dN r.Counter).flatMap bq).length≤90000000):am (fun(q:List UInt8×Int)=>oC v r q.1 q.2) Fu (b,0)=some (Sum.inl (b++(dN r.Counter).flatMap bq,IntKind.i64.wrap (v+1))):=by
 refine lJ (f:=bq) (dN r.Counter) (by simp[dN]) (body:=fun(q:List UInt8×Int)=>oC v r q.1 q.2) (fun c=>Sum.inl (c,IntKind.i64.wrap (v+1))) (fun i a b ha hi hb=>?_) (fun b=>?_) hb
 ·have h8:i<8:=hi
  have ha':([r.Counter.By.c0,r.Counter.By.c1,r.Counter.By.c2,r.Counter.By.c3,r.Counter.By.c4,r.Counter.By.c5,r.Counter.By.c6,r.Counter.By.c7]:List Int)[i]? = some a:=ha
  simp only[oC]
  rw[dM (ay (by omega)),aD (by omega),aD (by omega),Int.toNat_natCast,ha',Option.bind_some,jf (hr a (List.mem_of_getElem? ha)) b hb,Option.bind_some,iH (by omega)]
 ·show oC v r b 8=_
  rfl
theorem LY (s:aC) (hl:s.Rows.length≤400000) (hv:∀v∈s.Rows,gH v=true) (b:List UInt8) (hb:(b++s.Rows.flatMap dT).length≤90000000):am (fun(q:List UInt8×Int)=>oD s q.1 q.2) Fu (b,0)=some (b++s.Rows.flatMap dT):=by
 refine lJ (f:=dT) s.Rows (by omega) (body:=fun(q:List UInt8×Int)=>oD s q.1 q.2) id (fun i a b ha hi hb=>?_) (fun b=>?_) hb
 ·have hr:=hv a (List.mem_of_getElem? ha)
  obtain⟨⟨v1,v2,v3,v4,v5,v6,_⟩,n1,n2⟩:=Ff hr
  have hby:∀n∈dN a.Counter,cg aO n:=fun n hn=>gt ((vn hr).2.2.2.2.2 n hn)
  have e:dT a=nm [a.Level,a.Window]++(co a.Service++(co a.Op++(nm [a.Counter.Count,a.Counter.Errs]++(dN a.Counter).flatMap bq))):=by simp[dT,bC,dA,nm,bq];rfl
  rw[e]at hb ⊢
  simp only[List.length_append]at hb
  have h1:=si [a.Level,a.Window] (by simp) (zm ⟨v1.1,by have:=v1.2;unfold aO;omega⟩ v2) b (by rw[List.length_append];omega)
  have h2:=pB (s:=a.Service) (by omega) (b++nm [a.Level,a.Window]) (by simp only[List.length_append];omega)
  have h3:=pB (s:=a.Op) (by omega) (b++nm [a.Level,a.Window]++co a.Service) (by simp only[List.length_append];omega)
  have h4:=si [a.Counter.Count,a.Counter.Errs] (by simp) (zm v5 v6) (b++nm [a.Level,a.Window]++co a.Service++co a.Op) (by simp only[List.length_append];omega)
  have h5:=LX (i:Int) a hby (b++nm [a.Level,a.Window]++co a.Service++co a.Op++nm [a.Counter.Count,a.Counter.Errs]) (by simp only[List.length_append];omega)
  simp only[oD]
  rw[dM (ay (by omega)),aD (by omega),Int.toNat_natCast,ha,Option.bind_some,h1,Option.bind_some,h2,Option.bind_some,h3,Option.bind_some,h4,Option.bind_some,h5,iH (by omega)]
  simp only[List.append_assoc]
 ·simp only[oD]
  rw[dD (aw (by omega))];rfl
theorem LZ (s:aC) (hl:s.Edges.length≤400000) (hv:∀v∈s.Edges,ij v=true) (b:List UInt8) (hb:(b++s.Edges.flatMap dU).length≤90000000):am (fun(q:List UInt8×Int)=>oE s q.1 q.2) Fu (b,0)=some (b++s.Edges.flatMap dU):=by
 refine lJ (f:=dU) s.Edges (by omega) (body:=fun(q:List UInt8×Int)=>oE s q.1 q.2) id (fun i a b ha hi hb=>?_) (fun b=>?_) hb
 ·obtain⟨n1,n2,c1,c2⟩:=yO (hv a (List.mem_of_getElem? ha))
  have a1:=eE n1
  have a2:=eE n2
  have e:dU a=co a.From++(co a.To++nm [a.Count,a.Errs]):=by simp[dU,bC,dA,nm,bq]
  rw[e]at hb ⊢
  simp only[List.length_append]at hb
  have h2:=pB (s:=a.From) (by omega) b (by simp only[List.length_append];omega)
  have h3:=pB (s:=a.To) (by omega) (b++co a.From) (by simp only[List.length_append];omega)
  have h4:=si [a.Count,a.Errs] (by simp) (zm (gt c1) (gt c2)) (b++co a.From++co a.To) (by simp only[List.length_append];omega)
  simp only[oE]
  rw[dM (ay (by omega)),aD (by omega),Int.toNat_natCast,ha,Option.bind_some,h2,Option.bind_some,h3,Option.bind_some,h4,Option.bind_some,iH (by omega)]
  simp only[List.append_assoc]
 ·simp only[oE]
  rw[dD (aw (by omega))];rfl
theorem L0 (s:aC) (hl:s.Slots.length≤400000) (hv:∀v∈s.Slots,ik v=true∧jd v.Trace∧cI v.Id) (b:List UInt8) (hb:(b++s.Slots.flatMap dV).length≤90000000):am (fun(q:List UInt8×Int)=>oF s q.1 q.2) Fu (b,0)=some (b++s.Slots.flatMap dV):=by
 refine lJ (f:=dV) s.Slots (by omega) (body:=fun(q:List UInt8×Int)=>oF s q.1 q.2) id (fun i a b ha hi hb=>?_) (fun b=>?_) hb
 ·obtain⟨hs,t1,t2⟩:=hv a (List.mem_of_getElem? ha)
  obtain⟨n1,n2,c1⟩:=yP hs
  have a1:=eE n1
  have a2:=eE n2
  have e:dV a=co a.Service++(co a.Op++(ef a.Trace++(bq a.Id++bq a.Block))):=by simp[dV,ef,bC,dA,bq]
  rw[e]at hb ⊢
  simp only[List.length_append]at hb
  have h2:=pB (s:=a.Service) (by omega) b (by simp only[List.length_append];omega)
  have h3:=pB (s:=a.Op) (by omega) (b++co a.Service) (by simp only[List.length_append];omega)
  have h4:=zj t1 (b++co a.Service++co a.Op) (by simp only[List.length_append];omega)
  have h5:=zi t2 (b++co a.Service++co a.Op++ef a.Trace) (by simp only[List.length_append];omega)
  have h6:=jf (gt c1) (b++co a.Service++co a.Op++ef a.Trace++bq a.Id) (by simp only[List.length_append];omega)
  simp only[oF]
  rw[dM (ay (by omega)),aD (by omega),Int.toNat_natCast,ha,Option.bind_some,h2,Option.bind_some,h3,Option.bind_some,h4,Option.bind_some,h5,Option.bind_some,h6,Option.bind_some,iH (by omega)]
  simp only[List.append_assoc]
 ·simp only[oF]
  rw[dD (aw (by omega))];rfl
theorem L3 (s:aC) (hl:s.Blocks.length≤400000) (hv:∀v∈s.Blocks,iF v=true) (b:List UInt8) (hb:(b++s.Blocks.flatMap d6).length≤90000000):am (fun(q:List UInt8×Int)=>oG s q.1 q.2) Fu (b,0)=some (b++s.Blocks.flatMap d6):=by
 refine lJ (f:=d6) s.Blocks (by omega) (body:=fun(q:List UInt8×Int)=>oG s q.1 q.2) id (fun i a b ha hi hb=>?_) (fun b=>?_) hb
 ·obtain⟨c1,c2,c3⟩:=yQ (hv a (List.mem_of_getElem? ha))
  have e:d6 a=nm [a.Number,a.Born,a.Tier]:=rfl
  rw[e]at hb ⊢
  have h4:=si [a.Number,a.Born,a.Tier] (by simp) (LV (gt c1) (gt c2) (gt c3)) b hb
  simp only[oG]
  rw[dM (ay (by omega)),aD (by omega),Int.toNat_natCast,ha,Option.bind_some,aD (by omega),Option.bind_some,aD (by omega),Option.bind_some,h4,Option.bind_some,iH (by omega)]
 ·simp only[oG]
  rw[dD (aw (by omega))];rfl
theorem Fg {e:az} (h:eB e=true) (hw:np e) (hl:e.Spans.length≤400000):zk e:=by
 simp only[eB,Bool.and_eq_true,List.all_eq_true]at h
 exact⟨⟨hw.1,hw.2.1⟩,gt h.1,gt h.2.1,fun s hs=>⟨hw.2.2 s hs,h.2.2.2.1 s hs⟩,hl⟩
theorem zn (s:aC) (hm:sa s) (hw:po s) (hB:fE s=true→(ek s).length≤50000000):oH s=some (kN s):=by
 unfold oH
 rw[Ei s hm,Option.bind_some,kN]
 cases h:fE s with
 | false=>rfl
 | true=>
  have hB:=hB h
  obtain⟨⟨c1,c2,c3,c4⟩,h2,h3,h4,h5,h6,h7,h8⟩:=sc h
  rw[List.all_eq_true]at h3 h4
  obtain⟨⟨m1,m1'⟩,⟨m2,m2'⟩,m3,m4,m5,m6,m7⟩:=hm
  have hl:=pk h2
  have e1:∀n:Int,nm [s.Now,s.Sec,s.Kept,s.Next,n]=bq s.Now++(bq s.Sec++(bq s.Kept++(bq s.Next++bq n))):=fun n=>by simp[nm]
  rw[nL]at hB
  simp only[je,gr,List.length_append]at hB
  rw[if_neg (by simp),(DT _).2,Option.bind_some,JJ h2,si [s.Now,s.Sec,s.Kept,s.Next,((cC 5 s.Policy).length:Int)] (by simp) (by
   intro n hn
   simp only[List.mem_cons,List.not_mem_nil,or_false]at hn
   rcases hn with rfl | rfl | rfl | rfl | rfl
   ·exact gt c1
   ·exact gt c2
   ·exact gt c3
   ·exact gt c4
   ·exact mG (by omega)) [] (by rw[e1];simp only[List.length_append,List.length_nil];omega),Option.bind_some]
  rw[e1,aD (by simp only[List.length_append,List.length_nil];omega),Fe s.Open (by omega) (fun e he=>Fg (h3 e he) (hw.open_ e he) (m1' e he)) _ (by simp only[gr,List.length_append,List.length_nil];omega),Option.bind_some,Fe s.Pending (by omega) (fun e he=>Fg (h4 e he) (hw.pend e he) (m2' e he)) _ (by simp only[gr,List.length_append,List.length_nil];omega),Option.bind_some,
   jf (mG (l:=s.Memo) (by omega)) _ (by simp only[gr,List.length_append,List.length_nil];omega),Option.bind_some,LW s (by omega) (fun v hv=>hw.memo v hv) _ (by simp only[gr,List.length_append,List.length_nil];omega),Option.bind_some,BE,
   jf (mG (l:=s.Rows) (by omega)) _ (by simp only[gr,List.length_append,List.length_nil];omega),Option.bind_some,LY s (by omega) h5 _ (by simp only[gr,List.length_append,List.length_nil];omega),Option.bind_some,BD,
   jf (mG (l:=s.Edges) (by omega)) _ (by simp only[gr,List.length_append,List.length_nil];omega),Option.bind_some,LZ s (by omega) h6 _ (by simp only[gr,List.length_append,List.length_nil];omega),Option.bind_some,BC,
   jf (mG (l:=s.Slots) (by omega)) _ (by simp only[gr,List.length_append,List.length_nil];omega),Option.bind_some,L0 s (by omega) (fun v hv=>⟨h7 v hv,⟨(hw.slts v hv).1,(hw.slts v hv).2.1⟩,(hw.slts v hv).2.2⟩) _ (by simp only[gr,List.length_append,List.length_nil];omega),Option.bind_some,BB,
   jf (mG (l:=s.Blocks) (by omega)) _ (by simp only[gr,List.length_append,List.length_nil];omega),Option.bind_some,L3 s (by omega) h8 _ (by simp only[gr,List.length_append,List.length_nil];omega),Option.bind_some,BA,IZ _ (by simp only[gr,List.length_append,List.length_nil];omega),Option.bind_some]
  rw[if_pos rfl,nL]
  simp only[je,gr,List.append_assoc,List.nil_append]
end Go.Proofs.YtjklegmimpehlaaGreat.Ab
namespace Go.Proofs.YtjklegmimpehlaaGreat.Ab
open Go Go.RowKit
set_option linter.unusedVariables false
set_option linter.unusedSimpArgs false
theorem Fh {b p:List UInt8} (h:kG b=some p):b=fc p:=by
 unfold kG at h
 split at h
 ·cases h
 ·split at h
  ·rename_i h2
   cases h
   rw[fc,h2,List.take_append_drop]
  ·cases h
theorem nM (x:List UInt8):(fc x).length=x.length+4:=by rw[fc,List.length_append,vq]
theorem vK {E:az→Prop} (hE:∀e,E e→kR e) {top:Int} {s:aC} (h:nK E top s):sa s:=
 ⟨⟨by have:=h.open_.2;omega,fun e he=>by have:=(hE e (h.open_.1 e he)).2.2.2.2;omega⟩,⟨by have:=h.pend.2;omega,fun e he=>by have:=(hE e (h.pend.1 e he)).2.2.2.2;omega⟩,by have:=h.memo.2;omega,by have:=h.rows.2;omega,by have:=h.edgs.2;omega,by have:=h.slts.2;omega,by have:=h.blks.2;omega⟩
theorem zo {E:az→Prop} (hE:∀e,E e→kR e) {top:Int} {s:aC} (h:nK E top s):po s:=
 ⟨fun e he=>by have:=hE e (h.open_.1 e he);exact⟨this.1.1,this.1.2,fun x hx=>(this.2.2.2.1 x hx).1⟩,fun e he=>by have:=hE e (h.pend.1 e he);exact⟨this.1.1,this.1.2,fun x hx=>(this.2.2.2.1 x hx).1⟩,fun v hv=>h.memo.1 v hv,fun x hx=>by have:=h.slts.1 x hx;exact⟨this.2.2.1.1,this.2.2.1.2,this.2.2.2.1⟩⟩
def vL (s:aC):Prop:=nK sf 3 s∧fE s=true
def sj (s:aC):Prop:=nK kR 2 s∧fE s=true
theorem zp (s:aC):vL s↔sj s:=by
 constructor
 ·rintro⟨h,hr⟩
  obtain⟨_,_,h3,h4,h5,_⟩:=sc hr
  exact⟨{ h with open_:=⟨fun e he=>(h.open_.1 e he).1,h.open_.2⟩,pend:=⟨fun e he=>(h.pend.1 e he).1,h.pend.2⟩,rows:=⟨fun r hr=>(Ff (h5 r hr)).1,h.rows.2⟩ },hr⟩
 ·rintro⟨h,hr⟩
  obtain⟨_,_,h3,h4,h5,_⟩:=sc hr
  rw[List.all_eq_true]at h3 h4
  exact⟨{ h with open_:=⟨fun e he=>⟨h.open_.1 e he,h3 e he⟩,h.open_.2⟩,pend:=⟨fun e he=>⟨h.pend.1 e he,h4 e he⟩,h.pend.2⟩,rows:=⟨fun r hr=>by have:=h.rows.1 r hr;exact⟨⟨this.1.1,by have:=this.1.2;omega⟩,this.2⟩,h.rows.2⟩ },hr⟩
theorem Fi {s:aC} (hg:vL s) (hl:(fc (ek s)).length≤5000):iM (fc (ek s))=some (s,0):=by
 have ho:=Dr (fc (ek s)) (by omega)
 rw[Dt]at ho
 rw[nM]at hl
 have hp:=Fa.put s (ek s) [] ⟨rfl,hg.1⟩ (by rw[List.append_nil];omega)
 rw[List.append_nil]at hp
 rw[iM,ho,Option.bind_some,if_neg (by simp),hp,Option.bind_some,if_neg (by simp),if_neg (by simp),yL s (vK (fun e h=>h.1) hg.1),Option.bind_some,hg.2]
 rfl
theorem Fj (b:List UInt8) (hb:b.length≤5000):∃s e,iM b=some (s,e)∧((e=2∧s=cR)∨(e=0∧vL s∧b=fc (ek s))):=by
 have ho:=Dr b (by omega)
 cases h:kG b with
 | none=>
  rw[h]at ho
  obtain⟨x,hx⟩:=ho
  exact⟨cR,2,by rw[iM,hx,Option.bind_some];rfl,.inl ⟨rfl,rfl⟩⟩
 | some p=>
  rw[h]at ho
  have e:=Fh h
  have hl:p.length≤5000:=by rw[e,nM]at hb;omega
  obtain⟨s,⟨B,F⟩,h1,h2,h3⟩:=Fa.get p hl
  dsimp only at h3
  rcases h3 with rfl | ⟨x,⟨rfl,hv⟩,rfl,rfl⟩
  ·exact⟨cR,2,by rw[iM,ho,Option.bind_some,if_neg (by simp),h1,Option.bind_some];rfl,.inl ⟨rfl,rfl⟩⟩
  ·cases B with
   | cons c B=>exact⟨cR,2,by rw[iM,ho,Option.bind_some,if_neg (by simp),h1,Option.bind_some,if_neg (by simp),if_pos (by simp)];rfl,.inl ⟨rfl,rfl⟩⟩
   | nil=>
    have hr:=yL s (vK (fun e h=>h.1) hv)
    cases hs:fE s with
    | false=>exact⟨cR,2,by rw[iM,ho,Option.bind_some,if_neg (by simp),h1,Option.bind_some,if_neg (by simp),if_neg (by simp),hr,Option.bind_some,hs];rfl,.inl ⟨rfl,rfl⟩⟩
    | true=>exact⟨s,0,by rw[iM,ho,Option.bind_some,if_neg (by simp),h1,Option.bind_some,if_neg (by simp),if_neg (by simp),hr,Option.bind_some,hs];rfl,.inr ⟨rfl,⟨hv,hs⟩,by rw[e,List.append_nil]⟩⟩
structure vM where
 a:Int
 b:Int
 c:Int
 d:Int
 k:Int
def zq (L:Int) (r:Z):Option (vM×Z):=Option.bind (bR r aO) fun x=>Option.bind (bR x.2 aO) fun y=>Option.bind (bR y.2 aO) fun z=>Option.bind (bR z.2 aO) fun w=>Option.bind (bR w.2 L) fun k=>some (vM.mk x.1 y.1 z.1 w.1 k.1,k.2)
theorem Fk {L:Int} (h0:0≤L) (h1:L≤1099511627776):bh (fun h x=>x=bq h.a++(bq h.b++(bq h.c++(bq h.d++bq h.k)))∧cg aO h.a∧cg aO h.b∧cg aO h.c∧cg aO h.d∧cg L h.k) (zq L):=by
 have h4:=xI aO gq.1 gq.2
 refine(h4.bind fun a=>h4.bind fun b=>h4.bind fun c=>h4.bind fun d=>(xI L h0 h1).bind fun k=>bh.ret (vM.mk a b c d k)).iff fun h x=>⟨?_,?_⟩
 ·rintro⟨a,_,_,⟨rfl,va⟩,⟨b,_,_,⟨rfl,vb⟩,⟨c,_,_,⟨rfl,vc⟩,⟨d,_,_,⟨rfl,vd⟩,⟨k,_,_,⟨rfl,vk⟩,⟨rfl,rfl⟩,rfl⟩,rfl⟩,rfl⟩,rfl⟩,rfl⟩
  exact⟨by simp,va,vb,vc,vd,vk⟩
 ·rintro⟨rfl,va,vb,vc,vd,vk⟩
  exact⟨_,_,_,⟨rfl,va⟩,⟨_,_,_,⟨rfl,vb⟩,⟨_,_,_,⟨rfl,vc⟩,⟨_,_,_,⟨rfl,vd⟩,⟨_,_,_,⟨rfl,vk⟩,⟨rfl,rfl⟩,rfl⟩,rfl⟩,rfl⟩,rfl⟩,by simp⟩
def QW (b:List UInt8) (h:vM) (r:Z):Option (aC×Int):=Option.bind (pU (List.take (Int.toNat h.k) r.B)) fun x26=>if(x26.2 != 0)=true then some (cR,2)else Option.bind (sh h.a h.b h.c h.d x26.1 ⟨List.drop (Int.toNat h.k) r.B,r.Bad⟩) (pA b)
theorem Fl (b p:List UInt8) (ho:pF b=some (p,true)):mT b=Option.bind (zq (List.length p:Int) ⟨p,false⟩) fun y=>if y.2.Bad=true then some (cR,2)else if(decide ((List.length y.2.B:Int)<y.1.k))=true then some (cR,2)else gd (0≤y.1.k) (gd (y.1.k≤(List.length y.2.B:Int)) (Option.bind (pU (List.take (Int.toNat y.1.k) y.2.B)) fun x26=>if(x26.2 != 0)=true then some (cR,2)else gd (0≤y.1.k) (gd (y.1.k≤(List.length y.2.B:Int)) (Option.bind (sh y.1.a y.1.b y.1.c y.1.d x26.1 ⟨List.drop (Int.toNat y.1.k) y.2.B,y.2.Bad⟩) (pA b))))):=by
 unfold mT zq
 rw[ho,Option.bind_some,if_neg (by simp)]
 simp only[Option.bind_assoc,Option.bind_some]
 refine congrArg (Option.bind _) (funext fun x10=>congrArg (Option.bind _) (funext fun x11=>congrArg (Option.bind _) (funext fun x12=>congrArg (Option.bind _) (funext fun x13=>congrArg (Option.bind _) (funext fun x15=>?_)))))
 cases hF:x15.2.Bad with
 | true=>rfl
 | false=>
  simp only[Bool.false_eq_true,if_false]
  by_cases c:(List.length x15.2.B:Int)<x15.1
  ·rw[dM (ay c),dM (ay c)];rfl
  ·rw[dD (aw c),dD (aw c),yp]
   unfold BQ
   simp only[LM,hF]
   rfl
theorem L4 (b:List UInt8) (hb:b.length≤5000):∃s e,mT b=some (s,e)∧((e=2∧s=cR)∨(e=0∧sj s∧b=fc (ek s))):=by
 have ho:=Ds b (by omega)
 cases h:kG b with
 | none=>
  rw[h]at ho
  exact⟨cR,2,by rw[mT,ho,Option.bind_some];rfl,.inl ⟨rfl,rfl⟩⟩
 | some p=>
  rw[h]at ho
  have e:=Fh h
  have hl:p.length≤5000:=by rw[e,nM]at hb;omega
  rw[Fl b p ho]
  obtain⟨hd,⟨B,F⟩,h1,h2,h3⟩:=(Fk (L:=(p.length:Int)) (by omega) (by omega)).get p hl
  rw[h1,Option.bind_some]
  dsimp only at h2 h3 ⊢
  rcases h3 with rfl | ⟨x,⟨rfl,va,vb,vc,vd,vk0,vk1⟩,rfl,hp⟩
  ·exact⟨cR,2,by rw[if_pos rfl],.inl ⟨rfl,rfl⟩⟩
  ·rw[if_neg (by simp)]
   by_cases c:(B.length:Int)<hd.k
   ·exact⟨cR,2,by rw[dM (ay c)],.inl ⟨rfl,rfl⟩⟩
   ·rw[dD (aw c),aD vk0,aD (by omega)]
    rcases(u3 (List.take (Int.toNat hd.k) B) (by simp;omega)).2 with ⟨q,q1,q2,q3⟩ | ⟨_,q3⟩
    ·rw[q3,Option.bind_some,if_neg (by simp),aD vk0,aD (by omega)]
     obtain⟨s,⟨B2,F2⟩,t1,t2,t3⟩:=(Fc hd.a hd.b hd.c hd.d q).get (List.drop (Int.toNat hd.k) B) (by simp;omega)
     dsimp only at t1 t2 t3 ⊢
     rw[t1,Option.bind_some]
     rcases t3 with rfl | ⟨y,⟨⟨rfl',f2,f3,f4,f5⟩,g0,g1,g2,g3,g4,g5,g6,g7⟩,rfl,hq⟩
     ·exact⟨cR,2,by rw[pA,if_pos rfl],.inl ⟨rfl,rfl⟩⟩
     ·have hv:nK kR 2 s:=⟨by rw[rfl'];exact va,by rw[f2];exact vb,by rw[f3];exact vc,by rw[f4];exact vd,by rw[f5];exact q1,g1,g2,g3,g4,g5,g6,g7⟩
      have hk:(cC 5 s.Policy).length=Int.toNat hd.k:=by rw[f5,← q2];simp;omega
      have hp2:p=ek s++B2:=by
       rw[hp,nL,je,hk,Int.toNat_of_nonneg vk0,rfl',f2,f3,f4,f5,← q2]
       conv=>lhs;rw[← List.take_append_drop (Int.toNat hd.k) B]
       rw[hq,g0]
       simp only[List.append_assoc]
      have hsl:(ek s).length≤5000:=by rw[hp2,List.length_append]at hl;omega
      have hx:=zn s (vK (fun e h=>h) hv) (zo (fun e h=>h) hv) (fun _=>by omega)
      rw[pA,if_neg (by simp),hx,Option.bind_some]
      by_cases hc:kN s=b
      ·cases hr:fE s with
       | false=>
        rw[kN,hr]at hc
        rw[e]at hc
        have:=congrArg List.length hc
        rw[nM]at this
        simp at this
       | true=>
        refine⟨s,0,by rw[hc];simp,.inr ⟨rfl,⟨hv,hr⟩,?_⟩⟩
        rw[← hc,kN,if_pos hr]
      ·refine⟨cR,2,?_,.inl ⟨rfl,rfl⟩⟩
       rw[if_pos]
       simp only[yo,Bool.not_eq_true',beq_eq_false_iff_ne]
       exact hc
    ·exact⟨cR,2,by rw[q3];rfl,.inl ⟨rfl,rfl⟩⟩
theorem L5 {s:aC} (hg:sj s) (hl:(fc (ek s)).length≤5000):mT (fc (ek s))=some (s,0):=by
 have ho:=Ds (fc (ek s)) (by omega)
 rw[Dt]at ho
 have hl':=hl
 rw[nM]at hl'
 obtain⟨hv,hr⟩:=hg
 have hrl:=pk hv.pol
 rw[Fl _ _ ho]
 have e:ek s=(bq s.Now++(bq s.Sec++(bq s.Kept++(bq s.Next++bq ((cC 5 s.Policy).length:Int)))))++(cC 5 s.Policy++(bD cW s.Open++(bD cW s.Pending++(bD dS s.Memo++(bD dT s.Rows++(bD dU s.Edges++(bD dV s.Slots++bD d6 s.Blocks))))))):=by
  rw[nL,je];simp only[List.append_assoc]
 generalize hT:bD cW s.Open++(bD cW s.Pending++(bD dS s.Memo++(bD dT s.Rows++(bD dU s.Edges++(bD dV s.Slots++bD d6 s.Blocks)))))=T at e
 have hlen:(cC 5 s.Policy).length+T.length≤(ek s).length:=by rw[e];simp only[List.length_append];omega
 have h1:=(Fk (L:=((ek s).length:Int)) (by omega) (by omega)).put ⟨s.Now,s.Sec,s.Kept,s.Next,((cC 5 s.Policy).length:Int)⟩ _ (cC 5 s.Policy++T) ⟨rfl,hv.now,hv.sec,hv.kept,hv.next,Int.natCast_nonneg _,by show((cC 5 s.Policy).length:Int)≤((ek s).length:Int);omega⟩ (by rw[← e];omega)
 rw[← e]at h1
 rw[h1,Option.bind_some]
 dsimp only
 rw[if_neg (by simp),dD (aw (by simp only[List.length_append];omega)),aD (by omega),aD (by simp only[List.length_append];omega),Int.toNat_natCast,List.take_left,List.drop_left]
 have hq:pU (cC 5 s.Policy)=some (s.Policy,0):=by
  obtain⟨q1,q2⟩:=u3 (cC 5 s.Policy) (by omega)
  rw[← JG q1 q2];exact DV hv.pol
 rw[hq,Option.bind_some,if_neg (by simp),aD (by omega),aD (by simp only[List.length_append];omega)]
 have ht:=(Fc s.Now s.Sec s.Kept s.Next s.Policy).put s T [] ⟨⟨rfl,rfl,rfl,rfl,rfl⟩,hT.symm,hv.open_,hv.pend,hv.memo,hv.rows,hv.edgs,hv.slts,hv.blks⟩ (by rw[List.append_nil];omega)
 rw[List.append_nil]at ht
 rw[ht,Option.bind_some,pA,if_neg (by simp),zn s (vK (fun e h=>h) hv) (zo (fun e h=>h) hv) (fun _=>by omega),Option.bind_some,kN,if_pos hr]
 simp
theorem L6 (b:List UInt8) (hb:b.length≤5000):∃s e,iM b=some (s,e)∧mT b=some (s,e)∧((e=2∧s=cR)∨(e=0∧sj s)):=by
 obtain⟨s,e,h1,h2⟩:=Fj b hb
 obtain⟨t,g,k1,k2⟩:=L4 b hb
 rcases h2 with ⟨rfl,rfl⟩ | ⟨rfl,hg,rfl⟩
 ·rcases k2 with ⟨rfl,rfl⟩ | ⟨rfl,kg,rfl⟩
  ·exact⟨_,_,h1,k1,.inl ⟨rfl,rfl⟩⟩
  ·rw[Fi ((zp t).2 kg) hb]at h1
   cases h1
 ·exact⟨s,0,h1,L5 ((zp s).1 hg) hb,.inr ⟨rfl,(zp s).1 hg⟩⟩
end Go.Proofs.YtjklegmimpehlaaGreat.Ab
