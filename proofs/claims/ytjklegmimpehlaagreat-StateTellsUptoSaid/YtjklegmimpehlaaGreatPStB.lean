/- States as bytes, told plainly: how one is written. -/
import Derived.Test.YtjklegmimpehlaaGreatXSt3
import Derived.Test.YtjklegmimpehlaaGreatPRuleP
import Derived.Test.YtjklegmimpehlaaGreatPBlkE
namespace Go.Proofs.YtjklegmimpehlaaGreat.Ab
open Go Go.RowKit
set_option linter.unusedVariables false
set_option linter.unusedSimpArgs false
def go (a:Int):Int:=if a=0 then 60 else if a=1 then 3600 else if a=2 then 86400 else 0
def mC (a w:Int):Bool:=decide (go a≠0)&&(decide (0≤w)&&decide (w≤Int.tdiv 1099511627776 (go a)))
theorem J3 (a:Int):wB a=some (go a):=by
 unfold wB go
 by_cases h:a<0
 ·rw[ay h,eI,if_neg (by omega),if_neg (by omega),if_neg (by omega)];rfl
 by_cases h2:3≤a
 ·rw[aw h,d3,ay h2,eI,if_neg (by omega),if_neg (by omega),if_neg (by omega)];rfl
 have:a=0∨a=1∨a=2:=by omega
 rcases this with rfl | rfl | rfl<;>rfl
theorem J4 (a:Int):xd a=some (go a):=by
 unfold xd go
 by_cases h0:a=0
 ·simp[h0]
 by_cases h1:a=1
 ·simp[h1]
 by_cases h2:a=2
 ·simp[h2]
 simp[h0,h1,h2]
theorem Ef (a:Int):IntKind.i64.wrap (Int.tdiv 1099511627776 (go a))=Int.tdiv 1099511627776 (go a):=by
 unfold go
 split
 ·decide
 ·split
  ·decide
  ·split<;>decide
theorem J5 (a w:Int):∃x y,wC a w=some (x,y,mC a w):=by
 rw[wC,J3,Option.bind_some,mC]
 by_cases h0:go a=0
 ·exact⟨0,0,by simp[h0]⟩
 rw[show(go a == 0)=false from by simpa using h0,d3,ay h0,Bool.true_and]
 by_cases h1:w<0
 ·exact⟨0,0,by rw[ay h1,eI,aw (by omega:¬0≤w)];rfl⟩
 rw[aw h1,d3,aD h0,Ef,ay (by omega:0≤w),Bool.true_and]
 by_cases h2:Int.tdiv 1099511627776 (go a)<w
 ·exact⟨0,0,by rw[ay h2,eI,aw (by omega)];rfl⟩
 ·rw[aw h2,d3,ay (by omega)]
  exact⟨_,_,rfl⟩
theorem J6 (a w:Int):∃x y,xe a w=some (x,y,mC a w):=by
 rw[xe,J4,Option.bind_some,mC]
 by_cases h0:go a=0
 ·exact⟨0,0,by simp[h0]⟩
 rw[show(go a == 0)=false from by simpa using h0,d3,ay h0,Bool.true_and,aD h0,Ef,u6,Option.bind_some]
 cases (decide (0≤w)&&decide (w≤Int.tdiv 1099511627776 (go a)))with
 | false=>exact⟨0,0,rfl⟩
 | true=>exact⟨_,_,rfl⟩
theorem J7 {a w:Int} (h:mC a w=true):0≤a∧a≤2∧0≤w∧w≤1099511627776:=by
 simp only[mC,Bool.and_eq_true,decide_eq_true_eq]at h
 obtain⟨h1,h2,h3⟩:=h
 unfold go at h1 h3
 split at h3
 ·subst_vars
  have:Int.tdiv 1099511627776 60=18325193796:=by decide
  omega
 ·split at h3
  ·subst_vars
   have:Int.tdiv 1099511627776 3600=305419896:=by decide
   omega
  ·split at h3
   ·subst_vars
    have:Int.tdiv 1099511627776 86400=12725829:=by decide
    omega
   ·simp_all
theorem yJ (s:ByteArray):lS s=some (dt s):=by
 unfold lS dt
 by_cases h:1≤s.size
 ·rw[ay (by omega:(1:Int)≤(s.size:Int)),eI,ay h,Bool.true_and]
  congr 2
  exact propext ⟨fun h=>by omega,fun h=>by omega⟩
 ·rw[aw (by omega:¬(1:Int)≤(s.size:Int)),d3,aw h];rfl
def dN (c:Counter):List Int:=[c.By.c0,c.By.c1,c.By.c2,c.By.c3,c.By.c4,c.By.c5,c.By.c6,c.By.c7]
def gH (r:bo):Bool:=mC r.Level r.Window&&(dt r.Service&&(dt r.Op&&((cn r.Counter.Count&&cn r.Counter.Errs)&&(dN r.Counter).all cn)))
def ij (x:Edge):Bool:=dt x.From&&(dt x.To&&(cn x.Count&&cn x.Errs))
def ik (x:bz):Bool:=dt x.Service&&(dt x.Op&&cn x.Block)
def iF (b:Block):Bool:=cn b.Number&&(cn b.Born&&cn b.Tier)
theorem J8 (r:bo):wD r=some (gH r):=by
 obtain⟨x,y,h⟩:=J5 r.Level r.Window
 rw[wD,h,Option.bind_some,gH,kM,kM,ni _ (by simp),ni _ (by simp)]
 simp only[Option.bind_some,List.all_cons,List.all_nil,Bool.and_true,dN]
 cases mC r.Level r.Window
 ·rfl
 cases dt r.Service
 ·rfl
 cases dt r.Op
 ·rfl
 cases (cn r.Counter.Count&&cn r.Counter.Errs)<;>rfl
theorem J9 (x:Edge):wE x=some (ij x):=by
 rw[wE,ij,kM,kM,ni _ (by simp)]
 simp only[Option.bind_some,List.all_cons,List.all_nil,Bool.and_true]
 cases dt x.From
 ·rfl
 cases dt x.To<;>rfl
theorem Ka (x:bz):wF x=some (ik x):=by
 rw[wF,ik,kM,kM,ni _ (by simp)]
 simp only[Option.bind_some,List.all_cons,List.all_nil,Bool.and_true]
 cases dt x.Service
 ·rfl
 cases dt x.Op<;>rfl
theorem Kb (b:Block):wN b=some (iF b):=by
 rw[wN,ni _ (by simp),iF]
 simp only[Option.bind_some,List.all_cons,List.all_nil,Bool.and_true]
theorem Eg (l:List az) (hl:l.length≤1000000) (he:∀e∈l,e.Spans.length≤1000000):tg l=some (l.all eB):=by
 obtain⟨v,g1,g2⟩:=mr (body:=fun(q:Int)=>qk l q) (fun s=>!eB s) l (by omega) (fun j hj=>by
  simp only[qk,ay (by omega:(j:Int)<(l.length:Int)),if_true,aD (by omega:(0:Int)≤(j:Int)),Int.toNat_natCast,List.getElem?_eq_getElem hj,Option.bind_some,Ar,Dw l[j] (by have:=he _ (List.getElem_mem hj);omega),cw (by omega:j<1099511627776)]) (by simp only[qk,aw (by omega:¬(l.length:Int)<(l.length:Int)),Bool.false_eq_true,if_false])
 rw[tg,As,wG,g1,Option.bind_some,g2,Option.bind_some]
 congr 1
 rw[Bool.eq_iff_iff];simp
theorem Kc (l:List bo) (hl:l.length≤1000000):wI l=some (l.all gH):=by
 obtain⟨v,g1,g2⟩:=mr (body:=fun(q:Int)=>ql l q) (fun s=>!gH s) l (by omega) (fun j hj=>by
  simp only[ql,ay (by omega:(j:Int)<(l.length:Int)),if_true,aD (by omega:(0:Int)≤(j:Int)),Int.toNat_natCast,List.getElem?_eq_getElem hj,Option.bind_some,At,J8,cw (by omega:j<1099511627776)]) (by simp only[ql,aw (by omega:¬(l.length:Int)<(l.length:Int)),Bool.false_eq_true,if_false])
 rw[wI,Au,wH,g1,Option.bind_some,g2,Option.bind_some]
 congr 1
 rw[Bool.eq_iff_iff];simp
theorem Ke (l:List Edge) (hl:l.length≤1000000):wK l=some (l.all ij):=by
 obtain⟨v,g1,g2⟩:=mr (body:=fun(q:Int)=>qm l q) (fun s=>!ij s) l (by omega) (fun j hj=>by
  simp only[qm,ay (by omega:(j:Int)<(l.length:Int)),if_true,aD (by omega:(0:Int)≤(j:Int)),Int.toNat_natCast,List.getElem?_eq_getElem hj,Option.bind_some,Av,J9,cw (by omega:j<1099511627776)]) (by simp only[qm,aw (by omega:¬(l.length:Int)<(l.length:Int)),Bool.false_eq_true,if_false])
 rw[wK,Aw,wJ,g1,Option.bind_some,g2,Option.bind_some]
 congr 1
 rw[Bool.eq_iff_iff];simp
theorem Kf (l:List bz) (hl:l.length≤1000000):wM l=some (l.all ik):=by
 obtain⟨v,g1,g2⟩:=mr (body:=fun(q:Int)=>qn l q) (fun s=>!ik s) l (by omega) (fun j hj=>by
  simp only[qn,ay (by omega:(j:Int)<(l.length:Int)),if_true,aD (by omega:(0:Int)≤(j:Int)),Int.toNat_natCast,List.getElem?_eq_getElem hj,Option.bind_some,Ax,Ka,cw (by omega:j<1099511627776)]) (by simp only[qn,aw (by omega:¬(l.length:Int)<(l.length:Int)),Bool.false_eq_true,if_false])
 rw[wM,Ay,wL,g1,Option.bind_some,g2,Option.bind_some]
 congr 1
 rw[Bool.eq_iff_iff];simp
theorem Kg (l:List Block) (hl:l.length≤1000000):wP l=some (l.all iF):=by
 obtain⟨v,g1,g2⟩:=mr (body:=fun(q:Int)=>qo l q) (fun s=>!iF s) l (by omega) (fun j hj=>by
  simp only[qo,ay (by omega:(j:Int)<(l.length:Int)),if_true,aD (by omega:(0:Int)≤(j:Int)),Int.toNat_natCast,List.getElem?_eq_getElem hj,Option.bind_some,Az,Kb,cw (by omega:j<1099511627776)]) (by simp only[qo,aw (by omega:¬(l.length:Int)<(l.length:Int)),Bool.false_eq_true,if_false])
 rw[wP,AA,wO,g1,Option.bind_some,g2,Option.bind_some]
 congr 1
 rw[Bool.eq_iff_iff];simp
structure lG (s:aC):Prop where
 open_:s.Open.length≤200∧∀e∈s.Open,e.Spans.length≤100
 pend:s.Pending.length≤200∧∀e∈s.Pending,e.Spans.length≤100
 memo:s.Memo.length≤100
 rows:s.Rows.length≤100
 edgs:s.Edges.length≤100
 slts:s.Slots.length≤100
 blks:s.Blocks.length≤100
structure sa (s:aC):Prop where
 open_:s.Open.length≤400000∧∀e∈s.Open,e.Spans.length≤400000
 pend:s.Pending.length≤400000∧∀e∈s.Pending,e.Spans.length≤400000
 memo:s.Memo.length≤400000
 rows:s.Rows.length≤400000
 edgs:s.Edges.length≤400000
 slts:s.Slots.length≤400000
 blks:s.Blocks.length≤400000
theorem yK {s:aC} (h:lG s):sa s:=by
 obtain⟨⟨h1,h1'⟩,⟨h2,h2'⟩,h3,h4,h5,h6,h7⟩:=h
 exact⟨⟨by omega,fun e he=>by have:=h1' e he;omega⟩,⟨by omega,fun e he=>by have:=h2' e he;omega⟩,by omega,by omega,by omega,by omega,by omega⟩
def fE (s:aC):Bool:=(cn s.Now&&(cn s.Sec&&(cn s.Kept&&cn s.Next)))&&(ee s.Policy&&(s.Open.all eB&&(s.Pending.all eB&&(s.Rows.all gH&&(s.Edges.all ij&&(s.Slots.all ik&&s.Blocks.all iF))))))
theorem yL (s:aC) (h:sa s):mQ s=some (fE s):=by
 obtain⟨⟨h1,h1'⟩,⟨h2,h2'⟩,h3,h4,h5,h6,h7⟩:=h
 rw[mQ,ni _ (by simp),yx,Eg s.Open (by omega) (fun e he=>by have:=h1' e he;omega),Eg s.Pending (by omega) (fun e he=>by have:=h2' e he;omega),Kc _ (by omega),Ke _ (by omega),Kf _ (by omega),Kg _ (by omega),fE]
 simp only[Option.bind_some,List.all_cons,List.all_nil,Bool.and_true]
 cases (cn s.Now&&(cn s.Sec&&(cn s.Kept&&cn s.Next)))
 ·rfl
 cases ee s.Policy
 ·rfl
 cases s.Open.all eB
 ·rfl
 cases s.Pending.all eB
 ·rfl
 cases s.Rows.all gH
 ·rfl
 cases s.Edges.all ij
 ·rfl
 cases s.Slots.all ik<;>rfl
theorem Kh {ρ:Type} (a b c d:Bool) (x y:ρ):(if(!a)=true then x else if(!b)=true then x else if(!c)=true then x else if(!d)=true then x else y)=if(a&&(b&&(c&&d)))=true then y else x:=by
 cases a<;>cases b<;>cases c<;>cases d<;>rfl
theorem Eh {ρ:Type} (a b c:Bool) (x y:ρ):(if(!a)=true then x else if(!b)=true then x else if(!c)=true then x else y)=if(a&&(b&&c))=true then y else x:=by
 cases a<;>cases b<;>cases c<;>rfl
theorem Ki {ρ:Type} (a:Bool) (x y:ρ):(if(!a)=true then x else y)=if a=true then y else x:=by
 cases a<;>rfl
theorem Kj {ρ:Type} (a b c d e f:Bool) (x y:ρ):Option.bind (if a=true then if b=true then if c=true then if d=true then some e else some false else some false else some false else some false) (fun s=>some (if(s&&f)=true then y else x))=if(a&&(b&&(c&&((d&&e)&&f))))=true then some y else some x:=by
 cases a<;>cases b<;>cases c<;>cases d<;>cases e<;>cases f<;>rfl
theorem Kk (s:aC) (h:∀e∈s.Open++s.Pending,e.Spans.length≤1000000) (hl:(s.Open++s.Pending).length≤1000000) (k:Nat) (hk:k<(s.Open++s.Pending).length):oj s (k:Int)=if eB (s.Open++s.Pending)[k]=true then some (.inl ((k+1:Nat):Int))else some (.inr (.inr false)):=by
 simp only[oj,ay (by omega:(k:Int)<((s.Open++s.Pending).length:Int)),if_true,aD (by omega:(0:Int)≤(k:Int)),Int.toNat_natCast,List.getElem?_eq_getElem hk,Option.bind_some,I6 (s.Open++s.Pending)[k] (by have:=h _ (List.getElem_mem hk);omega),cw (by omega:k<1099511627776)]
 exact Ki _ _ _
theorem Kl (v:Int) (r:bo) (b:Bool):am (fun(s:Bool×Int)=>om v r s.1 s.2) Fu (b,0)=some (if(b&&(dN r.Counter).all cn)=true then .inl (IntKind.i64.wrap (v+1))else .inr (.inr false)):=by
 have hlen:(dN r.Counter).length=8:=rfl
 refine fd (l:=dN r.Counter) (fun k q s=>s=(b&&((dN r.Counter).take k).all cn,(k:Int))∧q=if(b&&(dN r.Counter).all cn)=true then .inl (IntKind.i64.wrap (v+1))else .inr (.inr false)) (by rw[hlen];omega) ?_ ?_ ⟨by simp,rfl⟩
 ·rintro k hk q s ⟨rfl,rfl⟩
  rw[hlen]at hk
  refine .inl ⟨(b&&((dN r.Counter).take (k+1)).all cn,((k+1:Nat):Int)),?_,rfl,rfl⟩
  have hk':k<(dN r.Counter).length:=hk
  rw[List.take_succ_eq_append_getElem hk',List.all_append]
  cases hb:(b&&((dN r.Counter).take k).all cn)with
  | false=>
   simp only[om,ay (by omega:(k:Int)<8),if_true,Bool.false_eq_true,if_false,cw (by omega:k<1099511627776)]
   rw[← Bool.and_assoc,hb];rfl
  | true=>
   have e:([r.Counter.By.c0,r.Counter.By.c1,r.Counter.By.c2,r.Counter.By.c3,r.Counter.By.c4,r.Counter.By.c5,r.Counter.By.c6,r.Counter.By.c7]:List Int)[k]? = some (dN r.Counter)[k]:=List.getElem?_eq_getElem hk'
   simp only[om,ay (by omega:(k:Int)<8),if_true,aD (by omega:(0:Int)≤(k:Int)),aD (by omega:(k:Int)<8),Int.toNat_natCast,e,Option.bind_some,mo,cw (by omega:k<1099511627776)]
   rw[← Bool.and_assoc,hb];simp
 ·rintro q s ⟨rfl,rfl⟩
  rw[hlen]
  simp only[om,aw (by decide:¬(((8:Nat):Int)<8)),Bool.false_eq_true,if_false]
  rw[← hlen,List.take_length]
  cases (b&&(dN r.Counter).all cn)<;>rfl
theorem Km (s:aC) (hl:s.Rows.length≤1000000) (k:Nat) (hk:k<s.Rows.length):oo s (k:Int)=if gH s.Rows[k]=true then some (.inl ((k+1:Nat):Int))else some (.inr (.inr false)):=by
 obtain⟨x,y,hw⟩:=J6 s.Rows[k].Level s.Rows[k].Window
 simp only[oo,ay (by omega:(k:Int)<(s.Rows.length:Int)),if_true,aD (by omega:(0:Int)≤(k:Int)),Int.toNat_natCast,List.getElem?_eq_getElem hk,Option.bind_some,hw,yJ,mo,xf,Kl,cw (by omega:k<1099511627776)]
 exact Kj _ _ _ _ _ _ _ _
theorem Kn (s:aC) (hl:s.Edges.length≤1000000) (k:Nat) (hk:k<s.Edges.length):oq s (k:Int)=if ij s.Edges[k]=true then some (.inl ((k+1:Nat):Int))else some (.inr (.inr false)):=by
 simp only[oq,ay (by omega:(k:Int)<(s.Edges.length:Int)),if_true,aD (by omega:(0:Int)≤(k:Int)),Int.toNat_natCast,List.getElem?_eq_getElem hk,Option.bind_some,yJ,mo,cw (by omega:k<1099511627776)]
 exact Kh _ _ _ _ _ _
theorem Ko (s:aC) (hl:s.Slots.length≤1000000) (k:Nat) (hk:k<s.Slots.length):ot s (k:Int)=if ik s.Slots[k]=true then some (.inl ((k+1:Nat):Int))else some (.inr (.inr false)):=by
 simp only[ot,ay (by omega:(k:Int)<(s.Slots.length:Int)),if_true,aD (by omega:(0:Int)≤(k:Int)),Int.toNat_natCast,List.getElem?_eq_getElem hk,Option.bind_some,yJ,mo,cw (by omega:k<1099511627776)]
 exact Eh _ _ _ _ _
theorem Kp (s:aC) (hl:s.Blocks.length≤1000000) (k:Nat) (hk:k<s.Blocks.length):ou s (k:Int)=if iF s.Blocks[k]=true then some (.inl ((k+1:Nat):Int))else some (.inr false):=by
 simp only[ou,ay (by omega:(k:Int)<(s.Blocks.length:Int)),if_true,aD (by omega:(0:Int)≤(k:Int)),Int.toNat_natCast,List.getElem?_eq_getElem hk,Option.bind_some,mo,cw (by omega:k<1099511627776)]
 exact Eh _ _ _ _ _
theorem sb {α ρ:Type} {body:Int→Option (Int⊕ρ)} {l:List α} (p:α→Bool) (fin out:ρ) (hn:l.length≤1000000) (step:∀(k:Nat) (hk:k<l.length),body (k:Int)=if p l[k]=true then some (.inl ((k+1:Nat):Int))else some (.inr out)) (last:body (l.length:Int)=some (.inr fin)):am body Fu 0=some (if l.all p=true then fin else out):=by
 have:=mq (body:=body) (l:=l) (fun x=>!p x) (fun k=>(k:Int)) fin out (by omega) (fun k hk hb hk2=>by
  rw[step k hk]
  simp only[Bool.not_eq_false']at hk2
  rw[hk2];rfl) (fun k hk hb hk2=>by
  rw[step k hk]
  simp only[Bool.not_eq_true']at hk2
  rw[hk2];rfl) (fun _=>last)
 refine this.trans ?_
 have e:l.all p = !l.any (fun x=>!p x):=by rw[Bool.eq_iff_iff];simp
 rw[e]
 cases l.any (fun x=>!p x)<;>rfl
theorem Ei (s:aC) (h:sa s):qy s=some (fE s):=by
 obtain⟨⟨h1,h1'⟩,⟨h2,h2'⟩,h3,h4,h5,h6,h7⟩:=h
 have hol:(s.Open++s.Pending).length≤1000000:=by rw[List.length_append];omega
 have hos:∀e∈s.Open++s.Pending,e.Spans.length≤1000000:=fun e he=>by
  rcases List.mem_append.1 he with he | he
  ·have:=h1' e he;omega
  ·have:=h2' e he;omega
 have l1:=sb (body:=fun(q:Int)=>oj s q) (l:=s.Open++s.Pending) eB (.inl ()) (.inr false) (by omega) (fun k hk=>Kk s hos (by omega) k hk) (by simp only[oj,aw (by omega:¬((s.Open++s.Pending).length:Int)<((s.Open++s.Pending).length:Int)),Bool.false_eq_true,if_false])
 have l2:=sb (body:=fun(q:Int)=>oo s q) (l:=s.Rows) gH (.inl ()) (.inr false) (by omega) (fun k hk=>Km s (by omega) k hk) (by simp only[oo,aw (by omega:¬(s.Rows.length:Int)<(s.Rows.length:Int)),Bool.false_eq_true,if_false])
 have l3:=sb (body:=fun(q:Int)=>oq s q) (l:=s.Edges) ij (.inl ()) (.inr false) (by omega) (fun k hk=>Kn s (by omega) k hk) (by simp only[oq,aw (by omega:¬(s.Edges.length:Int)<(s.Edges.length:Int)),Bool.false_eq_true,if_false])
 have l4:=sb (body:=fun(q:Int)=>ot s q) (l:=s.Slots) ik (.inl ()) (.inr false) (by omega) (fun k hk=>Ko s (by omega) k hk) (by simp only[ot,aw (by omega:¬(s.Slots.length:Int)<(s.Slots.length:Int)),Bool.false_eq_true,if_false])
 have l5:=sb (body:=fun(q:Int)=>ou s q) (l:=s.Blocks) iF true false (by omega) (fun k hk=>Kp s (by omega) k hk) (by simp only[ou,aw (by omega:¬(s.Blocks.length:Int)<(s.Blocks.length:Int)),Bool.false_eq_true,if_false])
 rw[qy,fE]
 simp only[mo,yy,Option.bind_some]
 cases cn s.Now
 ·rfl
 cases cn s.Sec
 ·rfl
 cases cn s.Kept
 ·rfl
 cases cn s.Next
 ·rfl
 cases ee s.Policy
 ·rfl
 simp only[Bool.not_true,Bool.false_eq_true,if_false,Option.bind_some,Sum.elim_inl,A8,Bool.and_self,Bool.true_and]
 rw[aD (by omega),aD (by omega)]
 refine(congrArg (fun o=>Option.bind o _) l1).trans ?_
 rw[List.all_append]
 cases s.Open.all eB
 ·rfl
 cases s.Pending.all eB
 ·rfl
 simp only[Bool.and_self,if_true,Option.bind_some,Sum.elim_inl,A7,Bool.true_and]
 refine(congrArg (fun o=>Option.bind o _) l2).trans ?_
 cases s.Rows.all gH
 ·rfl
 simp only[if_true,Option.bind_some,Sum.elim_inl,A6,Bool.true_and]
 refine(congrArg (fun o=>Option.bind o _) l3).trans ?_
 cases s.Edges.all ij
 ·rfl
 simp only[if_true,Option.bind_some,Sum.elim_inl,A5,Bool.true_and]
 refine(congrArg (fun o=>Option.bind o _) l4).trans ?_
 cases s.Slots.all ik
 ·rfl
 simp only[if_true,Option.bind_some,Sum.elim_inl,xg,Bool.true_and]
 refine l5.trans ?_
 cases s.Blocks.all iF<;>rfl
theorem yM (s:aC) (h:lG s):mQ s=some (fE s):=yL s (yK h)
theorem Kq (s:aC) (h:lG s):qy s=some (fE s):=Ei s (yK h)
end Go.Proofs.YtjklegmimpehlaaGreat.Ab
namespace Go.Proofs.YtjklegmimpehlaaGreat.Ab
open Go Go.RowKit
set_option linter.unusedVariables false
set_option linter.unusedSimpArgs false
def ef (t:Trace):List UInt8:=bC [t.Hi,t.Lo]
def cW (e:az):List UInt8:=ef e.Trace++hZ e
def dS (v:bT):List UInt8:=ef v.Trace++bC [df v.Kept]
def dT (r:bo):List UInt8:=bC [r.Level,r.Window]++(dA [r.Service,r.Op]++(bC [r.Counter.Count,r.Counter.Errs]++bC (dN r.Counter)))
def dU (x:Edge):List UInt8:=dA [x.From,x.To]++bC [x.Count,x.Errs]
def dV (x:bz):List UInt8:=dA [x.Service,x.Op]++(bC [x.Trace.Hi,x.Trace.Lo,x.Id]++bC [x.Block])
def d6 (b:Block):List UInt8:=bC [b.Number,b.Born,b.Tier]
def bD {α:Type} (f:α→List UInt8) (l:List α):List UInt8:=bC [(l.length:Int)]++l.flatMap f
def ek (s:aC):List UInt8:=bC [s.Now,s.Sec,s.Kept,s.Next]++(bC [((cC 5 s.Policy).length:Int)]++(cC 5 s.Policy++(bD cW s.Open++(bD cW s.Pending++(bD dS s.Memo++(bD dT s.Rows++(bD dU s.Edges++(bD dV s.Slots++bD d6 s.Blocks))))))))
structure po (s:aC):Prop where
 open_:∀e∈s.Open,np e
 pend:∀e∈s.Pending,np e
 memo:∀v∈s.Memo,cI v.Trace.Hi∧cI v.Trace.Lo
 slts:∀x∈s.Slots,cI x.Trace.Hi∧cI x.Trace.Lo∧cI x.Id
theorem mD {α:Type} {f:α→List UInt8} {m:Nat}:∀(l:List α),(∀x∈l,(f x).length≤m)→(l.flatMap f).length≤m*l.length
 | [],_=>by simp
 | x :: l,h=>by
  have h1:=h x List.mem_cons_self
  have h2:=mD l fun y hy=>h y (List.mem_cons_of_mem _ hy)
  rw[List.flatMap_cons,List.length_append,List.length_cons,Nat.mul_succ];omega
theorem pp {α:Type} (f:α→List UInt8) {l:List α} {k:Nat} (hk:k<l.length):(l.take (k+1)).flatMap f=(l.take k).flatMap f++f l[k]:=by
 rw[List.take_succ_eq_append_getElem hk,List.flatMap_append];simp
theorem pq {n:Int} (h:cn n=true):0≤n∧n<9223372036854775808:=by have:=o7 h;omega
theorem vm (l:List Int) (h:∀n∈l,cn n=true):(∀n∈l,0≤n∧n<9223372036854775808)∧(∀n∈l,cI n):=⟨fun n hn=>pq (h n hn),fun n hn=>fD (h n hn)⟩
theorem eE {s:ByteArray} (h:dt s=true):1≤s.size∧s.size≤16:=by simpa [dt] using h
theorem lH {α:Type} {p:α→Prop} {a b:α} (ha:p a) (hb:p b):∀x∈[a,b],p x:=by
 intro x hx
 simp only[List.mem_cons,List.not_mem_nil,or_false]at hx
 rcases hx with rfl | rfl<;>assumption
theorem pt {a b:ByteArray} (ha:a.size≤16) (hb:b.size≤16):(dA [a,b]).length≤52:=uX [a,b] 16 (by omega) (lH (p:=fun x:ByteArray=>x.size≤16) ha hb)
theorem yN {e:az} (hw:np e) (h:eB e=true) (hl:e.Spans.length≤100):(cW e).length≤40200:=by
 obtain⟨h1,h2,h3,h4⟩:=Dx h
 have a1:=jU (fD h1) (fD h2)
 have a2:=lA (ym e.Sure)
 have a3:=lA (rN (n:=e.Spans.length) (by omega))
 have a4:=yl e.Spans fun s hs=>⟨hw.2.2 s hs,h4 s hs⟩
 have a5:=jU hw.1 hw.2.1
 simp only[cW,ef,hZ,List.length_append];omega
theorem Ej {v:bT} (h:cI v.Trace.Hi∧cI v.Trace.Lo):(dS v).length≤30:=by
 have a1:=jU h.1 h.2
 have a2:=lA (ym v.Kept)
 simp only[dS,ef,List.length_append];omega
theorem vn {r:bo} (h:gH r=true):(0≤r.Level∧r.Level≤2∧0≤r.Window∧r.Window≤1099511627776)∧dt r.Service=true∧dt r.Op=true∧cn r.Counter.Count=true∧cn r.Counter.Errs=true∧∀n∈dN r.Counter,cn n=true:=by
 simp only[gH,Bool.and_eq_true,List.all_eq_true]at h
 exact⟨J7 h.1,h.2.1,h.2.2.1,h.2.2.2.1.1,h.2.2.2.1.2,h.2.2.2.2⟩
theorem Ek {r:bo} (h:gH r=true):(dT r).length≤200:=by
 obtain⟨h1,h2,h3,h4,h5,h6⟩:=vn h
 have a1:=jU (m:=r.Level) (n:=r.Window) ⟨h1.1,by omega⟩ ⟨h1.2.2.1,by omega⟩
 have a2:=pt (eE h2).2 (eE h3).2
 have a3:=jU (fD h4) (fD h5)
 have a4:=ie (dN r.Counter) (vm _ h6).2
 have a5:(dN r.Counter).length=8:=rfl
 simp only[dT,List.length_append];omega
theorem yO {x:Edge} (h:ij x=true):dt x.From=true∧dt x.To=true∧cn x.Count=true∧cn x.Errs=true:=by
 simpa only[ij,Bool.and_eq_true] using h
theorem El {x:Edge} (h:ij x=true):(dU x).length≤100:=by
 obtain⟨h1,h2,h3,h4⟩:=yO h
 have a1:=pt (eE h1).2 (eE h2).2
 have a2:=jU (fD h3) (fD h4)
 simp only[dU,List.length_append];omega
theorem yP {x:bz} (h:ik x=true):dt x.Service=true∧dt x.Op=true∧cn x.Block=true:=by
 simpa only[ik,Bool.and_eq_true] using h
theorem Em {x:bz} (h:ik x=true) (w:cI x.Trace.Hi∧cI x.Trace.Lo∧cI x.Id):(dV x).length≤100:=by
 obtain⟨h1,h2,h3⟩:=yP h
 have a1:=pt (eE h1).2 (eE h2).2
 have a2:=ie [x.Trace.Hi,x.Trace.Lo,x.Id] (by simpa using w)
 have a3:=lA (fD h3)
 simp only[dV,List.length_append,List.length_cons,List.length_nil]at a2 ⊢;omega
theorem yQ {b:Block} (h:iF b=true):cn b.Number=true∧cn b.Born=true∧cn b.Tier=true:=by
 simpa only[iF,Bool.and_eq_true] using h
theorem En {b:Block} (h:iF b=true):(d6 b).length≤30:=by
 obtain⟨h1,h2,h3⟩:=yQ h
 exact ie [b.Number,b.Born,b.Tier] (by simpa using ⟨fD h1,fD h2,fD h3⟩)
theorem nC (w:aE) {n:Nat} (hn:n≤1000000) (hl:w.B.length≤1000000000):em w [(n:Int)]=some ⟨w.B++bC [(n:Int)]⟩:=gn w _ (fun m hm=>by rw[List.mem_singleton.1 hm];omega) (by simp only[List.length_cons,List.length_nil];omega)
theorem Eo (w:aE) (l:List az) (hl:l.length≤200) (hs:∀e∈l,e.Spans.length≤100) (hw:∀e∈l,np e) (hr:l.all eB=true) (hb:w.B.length≤100000000):tj w l=some ⟨w.B++bD cW l⟩:=by
 rw[List.all_eq_true]at hr
 have hle:∀k,((l.take k).flatMap cW).length≤40200*200:=fun k=>by
  have:=mD (f:=cW) (m:=40200) (l.take k) fun e he=>yN (hw _ (List.mem_of_mem_take he)) (hr _ (List.mem_of_mem_take he)) (hs _ (List.mem_of_mem_take he))
  have:(l.take k).length≤200:=by rw[List.length_take];omega
  omega
 rw[tj,nC w (by omega) (by omega),Option.bind_some]
 have hn:=lA (rN (n:=l.length) (by omega))
 have hB:w.B++bD cW l=(w.B++bC [(l.length:Int)])++l.flatMap cW:=by simp[bD]
 rw[hB]
 dsimp only
 generalize hC:w.B++bC [(l.length:Int)]=C
 have hCl:C.length≤100000100:=by rw[← hC,List.length_append];omega
 refine fd (l:=l) (fun k r q=>q=(C++(l.take k).flatMap cW,(k:Int))∧r=⟨C++l.flatMap cW⟩) (by omega) ?_ ?_ ⟨by simp,rfl⟩
 ·rintro k hk r q ⟨rfl,rfl⟩
  have h1:=hle k
  have hwe:=hw _ (List.getElem_mem hk)
  have n2:=jU hwe.1 hwe.2.1
  refine .inl ⟨(C++(l.take (k+1)).flatMap cW,((k+1:Nat):Int)),?_,rfl,rfl⟩
  simp only[th,ay (by omega:(k:Int)<(l.length:Int)),if_true,aD (by omega:(0:Int)≤(k:Int)),Int.toNat_natCast,List.getElem?_eq_getElem hk,Option.bind_some]
  rw[rR _ _ (lH (p:=cI) hwe.1 hwe.2.1) (by simp only[List.length_append,List.length_cons,List.length_nil];omega),Option.bind_some,I7 _ _ hwe (hr _ (List.getElem_mem hk)) (by have:=hs _ (List.getElem_mem hk);omega) (by simp only[List.length_append];omega),Option.bind_some,cw (by omega),pp cW hk]
  simp[cW,ef]
 ·rintro r q ⟨rfl,rfl⟩
  simp only[th,aw (by omega:¬(l.length:Int)<(l.length:Int)),Bool.false_eq_true,if_false,List.take_length]
theorem Kr (s:aC) (C:List UInt8) (hl:s.Memo.length≤100) (hr:∀x∈s.Memo,cI x.Trace.Hi∧cI x.Trace.Lo) (hb:C.length≤200000000):am (fun(q:List UInt8×Int)=>qu s q.1 q.2) Fu (C,0)=some (C++s.Memo.flatMap dS):=by
 have hle:∀k,((s.Memo.take k).flatMap dS).length≤30*100:=fun k=>by
  have:=mD (f:=dS) (m:=30) (s.Memo.take k) fun x hx=>Ej (hr _ (List.mem_of_mem_take hx))
  have:(s.Memo.take k).length≤100:=by rw[List.length_take];omega
  omega
 refine fd (l:=s.Memo) (fun k r q=>q=(C++(s.Memo.take k).flatMap dS,(k:Int))∧r=(C++s.Memo.flatMap dS)) (by omega) ?_ ?_ ⟨by simp,rfl⟩
 ·rintro k hk r q ⟨rfl,rfl⟩
  have h1:=hle k
  have hx:=hr _ (List.getElem_mem hk)
  have n2:=jU hx.1 hx.2
  refine .inl ⟨(C++(s.Memo.take (k+1)).flatMap dS,((k+1:Nat):Int)),?_,rfl,rfl⟩
  simp only[qu,ay (by omega:(k:Int)<(s.Memo.length:Int)),if_true,aD (by omega:(0:Int)≤(k:Int)),Int.toNat_natCast,List.getElem?_eq_getElem hk,Option.bind_some]
  rw[rR _ _ (lH (p:=cI) hx.1 hx.2) (by simp only[List.length_append,List.length_cons,List.length_nil];omega),Option.bind_some,yt _ _ (by simp only[List.length_append];omega),Option.bind_some,cw (by omega),pp dS hk]
  simp[dS,ef]
 ·rintro r q ⟨rfl,rfl⟩
  simp only[qu,aw (by omega:¬(s.Memo.length:Int)<(s.Memo.length:Int)),Bool.false_eq_true,if_false,List.take_length]
theorem Ks (s:aC) (C:List UInt8) (hl:s.Rows.length≤100) (hr:∀x∈s.Rows,gH x=true) (hb:C.length≤200000000):am (fun(q:List UInt8×Int)=>qp s q.1 q.2) Fu (C,0)=some (C++s.Rows.flatMap dT):=by
 have hle:∀k,((s.Rows.take k).flatMap dT).length≤200*100:=fun k=>by
  have:=mD (f:=dT) (m:=200) (s.Rows.take k) fun x hx=>Ek (hr _ (List.mem_of_mem_take hx))
  have:(s.Rows.take k).length≤100:=by rw[List.length_take];omega
  omega
 refine fd (l:=s.Rows) (fun k r q=>q=(C++(s.Rows.take k).flatMap dT,(k:Int))∧r=(C++s.Rows.flatMap dT)) (by omega) ?_ ?_ ⟨by simp,rfl⟩
 ·rintro k hk r q ⟨rfl,rfl⟩
  have h1:=hle k
  have hx:=hr _ (List.getElem_mem hk)
  obtain⟨h2,h3,h4,h5,h6,h7⟩:=vn hx
  have a1:=jU (m:=s.Rows[k].Level) (n:=s.Rows[k].Window) ⟨h2.1,by omega⟩ ⟨h2.2.2.1,by omega⟩
  have a2:=pt (eE h3).2 (eE h4).2
  have a3:=jU (fD h5) (fD h6)
  have a5:(dN s.Rows[k].Counter).length=8:=rfl
  have e8:[s.Rows[k].Counter.By.c0,s.Rows[k].Counter.By.c1,s.Rows[k].Counter.By.c2,s.Rows[k].Counter.By.c3,s.Rows[k].Counter.By.c4,s.Rows[k].Counter.By.c5,s.Rows[k].Counter.By.c6,s.Rows[k].Counter.By.c7]=dN s.Rows[k].Counter:=rfl
  refine .inl ⟨(C++(s.Rows.take (k+1)).flatMap dT,((k+1:Nat):Int)),?_,rfl,rfl⟩
  simp only[qp,ay (by omega:(k:Int)<(s.Rows.length:Int)),if_true,aD (by omega:(0:Int)≤(k:Int)),Int.toNat_natCast,List.getElem?_eq_getElem hk,Option.bind_some]
  rw[gn _ _ (lH (p:=fun n:Int=>0≤n∧n<9223372036854775808) ⟨h2.1,by omega⟩ ⟨h2.2.2.1,by omega⟩) (by simp only[List.length_append,List.length_cons,List.length_nil];omega),Option.bind_some,pe _ _ 16 (by omega) (lH (p:=fun x:ByteArray=>x.size≤16) (eE h3).2 (eE h4).2) (by simp only[List.length_append,List.length_cons,List.length_nil];omega),Option.bind_some,gn _ _ (lH (p:=fun n:Int=>0≤n∧n<9223372036854775808) (pq h5) (pq h6)) (by simp only[List.length_append,List.length_cons,List.length_nil];omega),Option.bind_some,e8,gn _ (dN s.Rows[k].Counter) (vm _ h7).1 (by simp only[List.length_append];omega),Option.bind_some,cw (by omega),pp dT hk]
  simp[dT,dN]
 ·rintro r q ⟨rfl,rfl⟩
  simp only[qp,aw (by omega:¬(s.Rows.length:Int)<(s.Rows.length:Int)),Bool.false_eq_true,if_false,List.take_length]
theorem Kt (s:aC) (C:List UInt8) (hl:s.Edges.length≤100) (hr:∀x∈s.Edges,ij x=true) (hb:C.length≤200000000):am (fun(q:List UInt8×Int)=>qq s q.1 q.2) Fu (C,0)=some ⟨C++s.Edges.flatMap dU⟩:=by
 have hle:∀k,((s.Edges.take k).flatMap dU).length≤100*100:=fun k=>by
  have:=mD (f:=dU) (m:=100) (s.Edges.take k) fun x hx=>El (hr _ (List.mem_of_mem_take hx))
  have:(s.Edges.take k).length≤100:=by rw[List.length_take];omega
  omega
 refine fd (l:=s.Edges) (fun k r q=>q=(C++(s.Edges.take k).flatMap dU,(k:Int))∧r=⟨C++s.Edges.flatMap dU⟩) (by omega) ?_ ?_ ⟨by simp,rfl⟩
 ·rintro k hk r q ⟨rfl,rfl⟩
  have h1:=hle k
  have hx:=hr _ (List.getElem_mem hk)
  obtain⟨h3,h4,h5,h6⟩:=yO hx
  have a2:=pt (eE h3).2 (eE h4).2
  refine .inl ⟨(C++(s.Edges.take (k+1)).flatMap dU,((k+1:Nat):Int)),?_,rfl,rfl⟩
  simp only[qq,ay (by omega:(k:Int)<(s.Edges.length:Int)),if_true,aD (by omega:(0:Int)≤(k:Int)),Int.toNat_natCast,List.getElem?_eq_getElem hk,Option.bind_some]
  rw[pe _ _ 16 (by omega) (lH (p:=fun x:ByteArray=>x.size≤16) (eE h3).2 (eE h4).2) (by simp only[List.length_append,List.length_cons,List.length_nil];omega),Option.bind_some,gn _ _ (lH (p:=fun n:Int=>0≤n∧n<9223372036854775808) (pq h5) (pq h6)) (by simp only[List.length_append,List.length_cons,List.length_nil];omega),Option.bind_some,cw (by omega),pp dU hk]
  simp[dU]
 ·rintro r q ⟨rfl,rfl⟩
  simp only[qq,aw (by omega:¬(s.Edges.length:Int)<(s.Edges.length:Int)),Bool.false_eq_true,if_false,List.take_length]
theorem Ku (s:aC) (C:List UInt8) (hl:s.Slots.length≤100) (hr:∀x∈s.Slots,ik x=true∧cI x.Trace.Hi∧cI x.Trace.Lo∧cI x.Id) (hb:C.length≤200000000):am (fun(q:List UInt8×Int)=>qr s q.1 q.2) Fu (C,0)=some (C++s.Slots.flatMap dV):=by
 have hle:∀k,((s.Slots.take k).flatMap dV).length≤100*100:=fun k=>by
  have:=mD (f:=dV) (m:=100) (s.Slots.take k) fun x hx=>Em (hr _ (List.mem_of_mem_take hx)).1 (hr _ (List.mem_of_mem_take hx)).2
  have:(s.Slots.take k).length≤100:=by rw[List.length_take];omega
  omega
 refine fd (l:=s.Slots) (fun k r q=>q=(C++(s.Slots.take k).flatMap dV,(k:Int))∧r=(C++s.Slots.flatMap dV)) (by omega) ?_ ?_ ⟨by simp,rfl⟩
 ·rintro k hk r q ⟨rfl,rfl⟩
  have h1:=hle k
  have hx:=hr _ (List.getElem_mem hk)
  obtain⟨h3,h4,h5⟩:=yP hx.1
  have a2:=pt (eE h3).2 (eE h4).2
  have a3:=ie [s.Slots[k].Trace.Hi,s.Slots[k].Trace.Lo,s.Slots[k].Id] (by simpa using hx.2)
  refine .inl ⟨(C++(s.Slots.take (k+1)).flatMap dV,((k+1:Nat):Int)),?_,rfl,rfl⟩
  simp only[qr,ay (by omega:(k:Int)<(s.Slots.length:Int)),if_true,aD (by omega:(0:Int)≤(k:Int)),Int.toNat_natCast,List.getElem?_eq_getElem hk,Option.bind_some]
  rw[pe _ _ 16 (by omega) (lH (p:=fun x:ByteArray=>x.size≤16) (eE h3).2 (eE h4).2) (by simp only[List.length_append,List.length_cons,List.length_nil];omega),Option.bind_some,rR _ _ (by simpa using hx.2) (by simp only[List.length_append,List.length_cons,List.length_nil];omega),Option.bind_some,gn _ _ (fun n hn=>by rw[List.mem_singleton.1 hn];exact pq h5) (by simp only[List.length_append,List.length_cons,List.length_nil]at a3 ⊢;omega),Option.bind_some,cw (by omega),pp dV hk]
  simp[dV]
 ·rintro r q ⟨rfl,rfl⟩
  simp only[qr,aw (by omega:¬(s.Slots.length:Int)<(s.Slots.length:Int)),Bool.false_eq_true,if_false,List.take_length]
theorem Kv (s:aC) (C:List UInt8) (hl:s.Blocks.length≤100) (hr:∀x∈s.Blocks,iF x=true) (hb:C.length≤200000000):am (fun(q:List UInt8×Int)=>qt s q.1 q.2) Fu (C,0)=some ⟨C++s.Blocks.flatMap d6⟩:=by
 have hle:∀k,((s.Blocks.take k).flatMap d6).length≤30*100:=fun k=>by
  have:=mD (f:=d6) (m:=30) (s.Blocks.take k) fun x hx=>En (hr _ (List.mem_of_mem_take hx))
  have:(s.Blocks.take k).length≤100:=by rw[List.length_take];omega
  omega
 refine fd (l:=s.Blocks) (fun k r q=>q=(C++(s.Blocks.take k).flatMap d6,(k:Int))∧r=⟨C++s.Blocks.flatMap d6⟩) (by omega) ?_ ?_ ⟨by simp,rfl⟩
 ·rintro k hk r q ⟨rfl,rfl⟩
  have h1:=hle k
  have hx:=hr _ (List.getElem_mem hk)
  refine .inl ⟨(C++(s.Blocks.take (k+1)).flatMap d6,((k+1:Nat):Int)),?_,rfl,rfl⟩
  simp only[qt,ay (by omega:(k:Int)<(s.Blocks.length:Int)),if_true,aD (by omega:(0:Int)≤(k:Int)),Int.toNat_natCast,List.getElem?_eq_getElem hk,Option.bind_some]
  rw[gn _ _ (vm [s.Blocks[k].Number,s.Blocks[k].Born,s.Blocks[k].Tier] (by simpa using yQ hx)).1 (by simp only[List.length_append,List.length_cons,List.length_nil];omega),Option.bind_some,cw (by omega),pp d6 hk]
  simp[d6]
 ·rintro r q ⟨rfl,rfl⟩
  simp only[qt,aw (by omega:¬(s.Blocks.length:Int)<(s.Blocks.length:Int)),Bool.false_eq_true,if_false,List.take_length]
theorem sc {s:aC} (h:fE s=true):(cn s.Now=true∧cn s.Sec=true∧cn s.Kept=true∧cn s.Next=true)∧ee s.Policy=true∧s.Open.all eB=true∧s.Pending.all eB=true∧(∀x∈s.Rows,gH x=true)∧(∀x∈s.Edges,ij x=true)∧(∀x∈s.Slots,ik x=true)∧∀x∈s.Blocks,iF x=true:=by
 simp only[fE,Bool.and_eq_true]at h
 obtain⟨h1,h2,h3,h4,h5,h6,h7,h8⟩:=h
 exact⟨h1,h2,h3,h4,List.all_eq_true.1 h5,List.all_eq_true.1 h6,List.all_eq_true.1 h7,List.all_eq_true.1 h8⟩
theorem part_le {α:Type} {f:α→List UInt8} {m n:Nat} (l:List α) (hl:l.length≤n) (hn:n≤1000) (h:∀x∈l,(f x).length≤m):(bD f l).length≤10+m*n:=by
 have h1:=lA (rN (n:=l.length) (by omega))
 have h2:=mD l h
 have h3:=Nat.mul_le_mul_left m hl
 rw[bD,List.length_append];omega
theorem Ep {s:aC} (hf:lG s) (hw:po s) (h:fE s=true):(ek s).length≤20000000:=by
 obtain⟨⟨c1,c2,c3,c4⟩,h2,h3,h4,h5,h6,h7,h8⟩:=sc h
 rw[List.all_eq_true]at h3 h4
 have a1:=ie [s.Now,s.Sec,s.Kept,s.Next] (by simpa using ⟨fD c1,fD c2,fD c3,fD c4⟩)
 have a2:=(pk h2).2
 have a3:=lA (rN (n:=(cC 5 s.Policy).length) (by omega))
 have b1:=part_le (f:=cW) (m:=40200) (n:=200) s.Open hf.open_.1 (by omega) fun e he=>yN (hw.open_ e he) (h3 e he) (hf.open_.2 e he)
 have b2:=part_le (f:=cW) (m:=40200) (n:=200) s.Pending hf.pend.1 (by omega) fun e he=>yN (hw.pend e he) (h4 e he) (hf.pend.2 e he)
 have b3:=part_le (f:=dS) (m:=30) (n:=100) s.Memo hf.memo (by omega) fun e he=>Ej (hw.memo e he)
 have b4:=part_le (f:=dT) (m:=200) (n:=100) s.Rows hf.rows (by omega) fun e he=>Ek (h5 e he)
 have b5:=part_le (f:=dU) (m:=100) (n:=100) s.Edges hf.edgs (by omega) fun e he=>El (h6 e he)
 have b6:=part_le (f:=dV) (m:=100) (n:=100) s.Slots hf.slts (by omega) fun e he=>Em (h7 e he) (hw.slts e he)
 have b7:=part_le (f:=d6) (m:=30) (n:=100) s.Blocks hf.blks (by omega) fun e he=>En (h8 e he)
 simp only[List.length_cons,List.length_nil]at a1
 simp only[ek,List.length_append];omega
def kN (s:aC):List UInt8:=if fE s=true then fc (ek s)else[]
theorem Er (s:aC) (hf:lG s) (hw:po s):tn s=some (kN s):=by
 rw[tn,yM s hf,Option.bind_some,kN]
 cases h:fE s with
 | false=>rfl
 | true=>
  have hle:=Ep hf hw h
  obtain⟨⟨c1,c2,c3,c4⟩,h2,h3,h4,h5,h6,h7,h8⟩:=sc h
  have a1:=vm [s.Now,s.Sec,s.Kept,s.Next] (by simpa using ⟨c1,c2,c3,c4⟩)
  have a2:=(pk h2).2
  obtain⟨f1,f2,f3,f4,f5,f6,f7⟩:=hf
  simp only[ek,List.length_append,bD]at hle
  simp only[Bool.not_true,Bool.false_eq_true,if_false,if_true]
  rw[gn _ _ a1.1 (by simp),Option.bind_some,(DT _).1,Option.bind_some,pj,if_pos h2,nC _ (by omega) (by simp only[List.length_append,List.length_nil];omega),Option.bind_some,aD (by simp only[List.length_append,List.length_nil];omega),
   Eo _ _ f1.1 f1.2 hw.open_ h3 (by simp only[List.length_append,List.length_nil];omega),Option.bind_some,Eo _ _ f2.1 f2.2 hw.pend h4 (by simp only[List.length_append,List.length_nil,bD];omega),Option.bind_some,nC _ (by omega) (by simp only[List.length_append,List.length_nil,bD];omega),Option.bind_some]
  dsimp only
  refine(congrArg (fun o=>Option.bind o _) (Kr s _ f3 hw.memo (by simp only[List.length_append,List.length_nil,bD];omega))).trans ?_
  rw[Option.bind_some,AF,AC,nC _ (by omega) (by simp only[List.length_append,List.length_nil,bD];omega),Option.bind_some]
  dsimp only
  rw[Ks s _ f4 h5 (by simp only[List.length_append,List.length_nil,bD];omega),Option.bind_some,AB,nC _ (by omega) (by simp only[List.length_append,List.length_nil,bD];omega),Option.bind_some]
  dsimp only
  rw[Kt s _ f5 h6 (by simp only[List.length_append,List.length_nil,bD];omega),Option.bind_some,AE,nC _ (by omega) (by simp only[List.length_append,List.length_nil,bD];omega),Option.bind_some]
  dsimp only
  rw[Ku s _ f6 (fun x hx=>⟨h7 x hx,hw.slts x hx⟩) (by simp only[List.length_append,List.length_nil,bD];omega),Option.bind_some,AD,nC _ (by omega) (by simp only[List.length_append,List.length_nil,bD];omega),Option.bind_some]
  dsimp only
  rw[Kv s _ f7 h8 (by simp only[List.length_append,List.length_nil,bD];omega),Option.bind_some,IX _ (by simp only[List.length_append,List.length_nil,bD];omega),Option.bind_some]
  simp only[ek,bD,List.append_assoc,List.nil_append]
end Go.Proofs.YtjklegmimpehlaaGreat.Ab
