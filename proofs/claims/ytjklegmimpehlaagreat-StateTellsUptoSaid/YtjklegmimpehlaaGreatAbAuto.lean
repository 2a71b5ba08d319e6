import Derived.Test.YtjklegmimpehlaaGreatAbArg2
import Derived.Test.YtjklegmimpehlaaGreatAbWords
namespace Go.Proofs.YtjklegmimpehlaaGreat.Ab
open Go Go.RowKit
set_option linter.unusedVariables false
set_option linter.unusedSimpArgs false
variable {α β σ ρ τ:Type}
def gd (p:Prop) [Decidable p] (x:Option α):Option α:=if p then x else none
theorem BX {p:Prop} [Decidable p] {x:Option α} {r:α} (h:gd p x=some r):p∧x=some r:=by
 unfold gd at h
 split at h
 ·exact⟨‹_›,h⟩
 ·cases h
theorem aD {p:Prop} [Decidable p] {x:Option α} (h:p):gd p x=x:=if_pos h
theorem BY {x:Option α} {f:α→Option β} {r:β} (h:Option.bind x f=some r):∃a,x=some a∧f a=some r:=by
 cases x with
 | none=>cases h
 | some a=>exact⟨a,rfl,h⟩
theorem fy {c:Bool} {A B:Option α} {r:α} (g:c=true) (h:(if c=true then A else B)=some r):A=some r:=by rw[if_pos g]at h;exact h
theorem fA {c:Bool} {A B:Option α} {r:α} (g:c=false) (h:(if c=true then A else B)=some r):B=some r:=by rw[if_neg (by rw[g];decide)]at h;exact h
def am (body:σ→Option (σ⊕ρ)):Nat→σ→Option ρ
 | 0,_=>none
 | n+1,s=>match body s with
  | none=>none
  | some (.inl s')=>am body n s'
  | some (.inr r)=>some r
theorem bu {body:σ→Option (σ⊕ρ)} {m:Nat} {s:σ} {r:ρ} (h:am body m s=some r):∃m' q,m=m'+1∧body s=some q∧Sum.elim (am body m') some q=some r:=by
 cases m with
 | zero=>cases h
 | succ m=>
  simp only[am]at h
  split at h
  ·cases h
  ·rename_i s' e;exact⟨m,_,rfl,e,h⟩
  ·rename_i r' e;exact⟨m,_,rfl,e,h⟩
theorem aI {a:σ} {q:σ⊕τ} {f:σ→Option ρ} {g:τ→Option ρ} {r:ρ} (h:some (Sum.inl a)=some q) (k:Sum.elim f g q=some r):f a=some r:=by
 injection h with h;subst h;exact k
theorem ah {x:ρ} {q:σ⊕ρ} {f:σ→Option ρ} {r:ρ} (h:some (Sum.inr x)=some q) (k:Sum.elim f some q=some r):some x=some r:=by
 injection h with h;subst h;exact k
theorem G3 {T:Option ρ} {q:σ⊕ρ} {f:σ→Option ρ} {r:ρ} (h:Option.bind T (fun p=>some (Sum.inr p))=some q) (k:Sum.elim f some q=some r):T=some r:=by
 obtain⟨p,h1,h2⟩:=BY h
 injection h2 with h2;subst h2;exact h1.trans k
def Fu:Nat:=1208925819614629174706176
theorem oN:Fu=1208925819614629174706176:=rfl
theorem lq {body:σ→Option (σ⊕ρ)} (I:Nat→σ→Prop) (Q:ρ→Prop) (step:∀n s,I n s→(∃s' m,body s=some (.inl s')∧m<n∧I m s')∨∃r,body s=some (.inr r)∧Q r) :
  ∀N n s,I n s→n<N→∃r,am body N s=some r∧Q r
 | 0,n,s,_,h=>absurd h (Nat.not_lt_zero _)
 | N+1,n,s,hi,h=>by
  rcases step n s hi with ⟨s',m,h1,h2,h3⟩ | ⟨r,h1,h2⟩
  ·obtain⟨r,h4,h5⟩:=lq I Q step N m s' h3 (by omega)
   exact⟨r,by simp only[am,h1];exact h4,h5⟩
  ·exact⟨r,by simp only[am,h1],h2⟩
def mX (p q:PV):Prop:=(p.one=true→q.one=true)∧∀w M J v,aG w M J p v→aG w M J q v
theorem ao (p:PV):mX p p:=⟨id,fun _ _ _ _ h=>h⟩
theorem ba (sz:Nat):mX .nil (.sl sz []):=⟨fun _=>rfl,fun _ _ _ _ h=>by cases h;exact .sl0 _ _ _⟩
def rm:List PV→List PV→Prop
 | [],[]=>True
 | p :: ps,q :: qs=>mX p q∧rm ps qs
 | _,_=>False
theorem ui:∀{ps qs:List PV},rm ps qs→ps.length=qs.length∧∀(i:Nat) (p q:PV),ps[i]? = some p→qs[i]? = some q→mX p q
 | [],[],_=>⟨rfl,fun i p q h=>by simp at h⟩
 | p :: ps,[],h=>h.elim
 | [],q :: qs,h=>h.elim
 | p :: ps,q :: qs,⟨h1,h2⟩=>by
  obtain⟨h3,h4⟩:=ui h2
  refine⟨by simp[h3],fun i a b ha hb=>?_⟩
  cases i with
  | zero=>simp at ha hb;subst ha hb;exact h1
  | succ i=>simp at ha hb;exact h4 i a b ha hb
theorem xG {ps qs:List PV} (h:rm ps qs):mX (.agg ps) (.agg qs):=⟨fun h=>by simp[PV.one]at h,fun w M J v hv=>by
 obtain⟨h3,h4⟩:=ui h
 cases hv with
 | agg _ _ vs hl hr=>
  refine .agg _ _ _ (h3 ▸ hl) fun i c v hc hv=>?_
  have hi:i<ps.length:=by rw[h3];exact(List.getElem?_eq_some_iff.1 hc).1
  exact(h4 i _ c (List.getElem?_eq_getElem hi) hc).2 _ _ _ _ (hr i _ v (List.getElem?_eq_getElem hi) hv)⟩
def uj:List (Nat×PV)→List (Nat×PV)→Prop
 | [],[]=>True
 | p :: ps,q :: qs=>p.1=q.1∧mX p.2 q.2∧uj ps qs
 | _,_=>False
theorem BZ {w:World} {M:Nat→Prop} {J:bI} {v:Value} (t:Nat):∀{ps qs:List (Nat×PV)},uj ps qs→aG w M J (kE ps t) v→aG w M J (kE qs t) v
 | [],[],_,h=>h
 | p :: ps,[],h,_=>h.elim
 | [],q :: qs,h,_=>h.elim
 | (t1,p) :: ps,(t2,q) :: qs,⟨h1,h2,h3⟩,h=>by
  simp only at h1 h2
  subst h1
  simp only[kE]at h ⊢
  cases hb:(t == t1)with
  | true=>rw[hb]at h;exact h2.2 _ _ _ _ h
  | false=>rw[hb]at h;exact BZ t h3 h
inductive oO:cb→cb→Prop
 | rfl (o):oO o o
 | box {a b:List PV} (h:rm a b):oO (.box a) (.box b)
def uk:List ((Nat×Nat)×cb)→List ((Nat×Nat)×cb)→Prop
 | [],[]=>True
 | p :: ps,q :: qs=>p.1=q.1∧oO p.2 q.2∧uk ps qs
 | _,_=>False
theorem xH (d n:Nat):∀{ps qs:List ((Nat×Nat)×cb)},uk ps qs→(gA ps d n=none∧gA qs d n=none)∨∃a b,gA ps d n=some a∧gA qs d n=some b∧oO a b
 | [],[],_=>.inl ⟨rfl,rfl⟩
 | p :: ps,[],h=>h.elim
 | [],q :: qs,h=>h.elim
 | ((d1,n1),p) :: ps,((d2,n2),q) :: qs,⟨h1,h2,h3⟩=>by
  simp only[Prod.mk.injEq]at h1 h2
  obtain⟨rfl,rfl⟩:=h1
  simp only[gA]
  cases hb:(d == d1&&n == n1)with
  | true=>exact .inr ⟨p,q,rfl,rfl,h2⟩
  | false=>exact xH d n h3
theorem G4 {a b:cb} (h:oO a b):b.mut=a.mut:=by cases h<;>rfl
variable {P:Program} {N:Nat}
theorem G5 {tl tl':List (Nat×PV)} {ol ol':List ((Nat×Nat)×cb)} {nx:List (Nat×Nat)} {X:jM} (h1:uj tl tl') (h2:uk ol ol'):eH N (lit tl ol nx X) (lit tl' ol' nx X):=by
 have back:∀{d n o'},gA ol' d n=some o'→∃o,gA ol d n=some o∧oO o o':=fun {d n o'} h=>by
  rcases xH d n h2 with ⟨_,k⟩ | ⟨a,b,k1,k2,k3⟩
  ·rw[k]at h;cases h
  ·rw[k2]at h;injection h with h;subst h;exact⟨a,k1,k3⟩
 refine⟨rfl,fun w0 Mv J a w h=>⟨J,?_⟩⟩
 have hom:∀g,cJ (lit tl' ol' nx X) J g→cJ (lit tl ol nx X) J g:=by
  rintro g ⟨d,n,o,v,k1,k2,k3,k4⟩
  obtain⟨o0,j1,j2⟩:=back k1
  exact⟨d,n,o0,v,j1,(G4 j2) ▸ k2,k3,k4⟩
 have hM:∀g,aT (lit tl' ol' nx X) J g→aT (lit tl ol nx X) J g:=by
  rintro g (k | k)
  ·exact .inl k
  ·exact .inr (hom g k)
 have keep:∀{J0 pv u},aG w (aT (lit tl ol nx X) J) J0 pv u→aG w (aT (lit tl' ol' nx X) J) J0 pv u:=fun hr=>hr.mono (fun _ _ _=>rfl) (fun g _ hg=>hM g hg) (fun _ _ _ h=>h)
 refine⟨h.size,h.defers,fun t ht=>?_,fun d n o ho=>?_,fun d n d' n' o o' v v' g k1 k2=>?_,fun d n hle=>?_,h.frame,fun g hg hlt=>h.mutb g (hom g hg) hlt,h.xlt,fun d n o v g k1=>?_,h.ext,h.grow,h.os,h.tape,h.output,h.drawn⟩
 ·exact BZ t h1 (keep (h.env t ht))
 ·obtain⟨o0,j1,j2⟩:=back ho
  have:=(h.obj d n o0 j1)
  cases j2 with
  | rfl=>exact this.kept (fun _ _ _=>rfl) (fun g _ hg=>hM g hg) (fun _ _ _ h=>h) (fun _ _ _ _=>rfl)
  | box hl=>
   obtain⟨g,cur,t,a1,a2,a3,a4,a5⟩:=this
   obtain⟨e1,e2⟩:=ui hl
   refine⟨g,cur,t,a1,a2,a3.trans e1,fun c hc=>?_,fun k c v hc hv=>?_⟩
   ·obtain⟨i,hi⟩:=List.getElem?_of_mem hc
    have hlt:=(List.getElem?_eq_some_iff.1 hi).1
    have hlt':=e1 ▸ hlt
    exact(e2 i _ c (List.getElem?_eq_getElem hlt') hi).1 (a4 _ (List.getElem_mem hlt'))
   ·have hlt:=(List.getElem?_eq_some_iff.1 hc).1
    have hlt':=e1 ▸ hlt
    exact(e2 k _ c (List.getElem?_eq_getElem hlt') hc).2 _ _ _ _ (keep (a5 k _ v (List.getElem?_eq_getElem hlt') hv))
 ·obtain⟨o1,j1,_⟩:=back k1
  obtain⟨o2,j2,_⟩:=back k2
  exact h.sep d n d' n' o1 o2 v v' g j1 j2
 ·obtain⟨j1,j2⟩:=h.nxt d n hle
  refine⟨?_,j2⟩
  rcases xH d n h2 with ⟨_,k⟩ | ⟨a,b,k1,k2,k3⟩
  ·exact k
  ·have:gA ol d n=none:=j1
   rw[k1]at this;cases this
 ·obtain⟨o1,j1,_⟩:=back k1
  exact h.sepX d n o1 v g j1
theorem eH.trans {s s' s'':St} (h:eH N s s') (k:eH N s' s''):eH N s s'':=⟨k.1.trans h.1,fun w0 Mv J a w hs=>by
 obtain⟨J',h'⟩:=h.2 w0 Mv J a w hs
 exact k.2 w0 Mv J' a w h'⟩
theorem dy {s:St} {tl tl':List (Nat×PV)} {ol ol':List ((Nat×Nat)×cb)} {nx:List (Nat×Nat)} {X:jM} (h:eH N s (lit tl ol nx X)) (h1:uj tl tl') (h2:uk ol ol'):eH N s (lit tl' ol' nx X):=h.trans (G5 h1 h2)
theorem ul {α:Type} {f:α→PV} {l:List α} {i:Nat} {x:α} (h:l[i]? = some x):(List.map f l)[i]? = some (f x):=by simp[h]
theorem dL {α:Type} {f:α→PV} (a b:List α):List.map f a++List.map f b=List.map f (a++b):=List.map_append.symm
theorem G6 {α:Type} {f:α→PV} (l:List α) (i k:Nat):((List.map f l).take k).drop i=List.map f ((l.take k).drop i):=by rw[List.map_drop,List.map_take]
theorem um {α:Type} {f:α→PV} (l:List α):PV.int .i64 ((List.map f l).length:Int) = .int .i64 (l.length:Int):=by rw[List.length_map]
theorem dv {α:Type} {f:α→PV} {l:List α} {b:Nat} (h:l.length*b≤140737488355328∧l.length≤140737488355328):(List.map f l).length*b≤140737488355328∧(List.map f l).length≤140737488355328:=by rw[List.length_map];exact h
theorem B0 {k:IntKind} {a b:Int} (h:¬b=0):lr .quo (.int k a) (.int k b)=some (.int k (k.wrap (a.tdiv b))):=by simp[lr,h]
theorem xJ {k k':IntKind} {a b:Int} (h:¬b<0):lr .shl (.int k a) (.int k' b)=some (.int k (k.wrap (a*2 ^ min b.toNat k.bits))):=by simp[lr,h]
theorem G7 {k k':IntKind} {a b:Int} (h:¬b<0):lr .shr (.int k a) (.int k' b)=some (.int k (a.fdiv (2 ^ min b.toNat k.bits))):=by simp[lr,h]
def u8 (e:Int):UInt8:=UInt8.ofNat e.toNat
theorem gx {e:Int} (h:0≤e∧e<256):e=((u8 e).toNat:Int):=by
 unfold u8
 rw[UInt8.toNat_ofNat']
 omega
theorem gh {i:Int} (h:0≤i):i=(i.toNat:Int):=(Int.toNat_of_nonneg h).symm
end Go.Proofs.YtjklegmimpehlaaGreat.Ab
