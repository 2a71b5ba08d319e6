/- What chapter 21 asks of all states. -/
import Derived.Test.YtjklegmimpehlaaGreatPTl8
import Derived.Test.YtjklegmimpehlaaGreatPStD
import Derived.Test.YtjklegmimpehlaaGreatPStU
namespace Go.Proofs.YtjklegmimpehlaaGreat.Ab
open Go Go.RowKit
set_option linter.unusedVariables false
set_option linter.unusedSimpArgs false
theorem mH {α:Type} [DecidableEq α] {body:Int→Option (Int⊕Bool)} {F:Option Bool} (a b:List α) (ha:a.length≤1000000) (hF:F=if((a.length:Int) != (b.length:Int))=true then some false else am body Fu 0)
  (step:∀(k:Nat) (h1:k<a.length) (h2:k<b.length),body (k:Int)=if a[k]=b[k]then some (.inl ((k+1:Nat):Int))else some (.inr false)) (fin:body (a.length:Int)=some (.inr true)):F=some (decide (a=b)):=by
 rw[hF]
 by_cases hl:a.length=b.length
 ·rw[dD (by simp[hl])]
  exact lF a b hl (by omega) step fin
 ·rw[dM (by simp only[bne_iff_ne,ne_eq];omega),aw (by rintro rfl;exact hl rfl)]
def nN (e:az):Prop:=e.Spans.length≤1000000∧∀s∈e.Spans,s.Attrs.length≤1000000
theorem L7 (a b:List aL) (ha:a.length≤1000000) (hs:∀s∈a,s.Attrs.length≤1000000):Bp a b=some (decide (a=b)):=by
 refine mH a b ha rfl (fun k h1 h2=>?_) ?_
 ·simp only[tI,ay (by omega:(k:Int)<(a.length:Int)),if_true,aD (by omega:(0:Int)≤(k:Int)),Int.toNat_natCast,List.getElem?_eq_getElem h1,List.getElem?_eq_getElem h2,Option.bind_some,Kx a[k] b[k] (hs _ (List.getElem_mem h1)),cw (by omega:k<1099511627776)]
  exact jb _ _
 ·simp only[tI,aw (by omega:¬(a.length:Int)<(a.length:Int)),Bool.false_eq_true,if_false]
theorem L8 (a b:az) (h:nN a):xp a b=some (decide (a=b)):=by
 rw[xp,eu,L7 _ _ h.1 h.2]
 by_cases e1:a.Trace=b.Trace
 case neg=>rw[aw (fun e:a=b=>e1 (by rw[e]))];simp[e1]
 by_cases e2:a.First=b.First
 case neg=>rw[aw (fun e:a=b=>e2 (by rw[e]))];simp[e1,e2]
 by_cases e3:a.Last=b.Last
 case neg=>rw[aw (fun e:a=b=>e3 (by rw[e]))];simp[e1,e2,e3]
 by_cases e4:a.Sure=b.Sure
 case neg=>rw[aw (fun e:a=b=>e4 (by rw[e]))];simp[e1,e2,e3,e4]
 by_cases e5:a.Spans=b.Spans
 case neg=>rw[aw (fun e:a=b=>e5 (by rw[e]))];simp[e1,e2,e3,e4,e5]
 rw[ay (Es e1 e2 e3 e4 e5)];simp[e1,e2,e3,e4,e5]
theorem zr (a b:List az) (ha:a.length≤1000000) (hs:∀e∈a,nN e):tK a b=some (decide (a=b)):=by
 refine mH a b ha rfl (fun k h1 h2=>?_) ?_
 ·simp only[tJ,ay (by omega:(k:Int)<(a.length:Int)),if_true,aD (by omega:(0:Int)≤(k:Int)),Int.toNat_natCast,List.getElem?_eq_getElem h1,List.getElem?_eq_getElem h2,Option.bind_some,L8 a[k] b[k] (hs _ (List.getElem_mem h1)),cw (by omega:k<1099511627776)]
  exact jb _ _
 ·simp only[tJ,aw (by omega:¬(a.length:Int)<(a.length:Int)),Bool.false_eq_true,if_false]
def vN (b:Block):Prop:=b.Episodes.length≤1000000∧∀e∈b.Episodes,nN e
theorem Fm {a b:Block} (h1:a.Number=b.Number) (h2:a.Born=b.Born) (h3:a.Tier=b.Tier) (h4:a.Episodes=b.Episodes):a=b:=by cases a;cases b;simp_all
theorem L9 (a b:Block) (h:vN a):xq a b=some (decide (a=b)):=by
 rw[xq,zr _ _ h.1 h.2]
 by_cases e1:a.Number=b.Number
 case neg=>rw[aw (fun e:a=b=>e1 (by rw[e]))];simp[e1]
 by_cases e2:a.Born=b.Born
 case neg=>rw[aw (fun e:a=b=>e2 (by rw[e]))];simp[e1,e2]
 by_cases e3:a.Tier=b.Tier
 case neg=>rw[aw (fun e:a=b=>e3 (by rw[e]))];simp[e1,e2,e3]
 by_cases e4:a.Episodes=b.Episodes
 case neg=>rw[aw (fun e:a=b=>e4 (by rw[e]))];simp[e1,e2,e3,e4]
 rw[ay (Fm e1 e2 e3 e4)];simp[e1,e2,e3,e4]
theorem Ma (a b:Block) (h:vN a):xh a b=some (decide (a=b)):=by
 rw[xh,yR _ _ h.1 h.2]
 by_cases e1:a.Number=b.Number
 case neg=>rw[aw (fun e:a=b=>e1 (by rw[e]))];simp[e1]
 by_cases e2:a.Born=b.Born
 case neg=>rw[aw (fun e:a=b=>e2 (by rw[e]))];simp[e1,e2]
 by_cases e3:a.Tier=b.Tier
 case neg=>rw[aw (fun e:a=b=>e3 (by rw[e]))];simp[e1,e2,e3]
 by_cases e4:a.Episodes=b.Episodes
 case neg=>rw[aw (fun e:a=b=>e4 (by rw[e]))];simp[e1,e2,e3,e4]
 rw[ay (Fm e1 e2 e3 e4)];simp[e1,e2,e3,e4]
theorem Mb (a b:List Block) (ha:a.length≤1000000) (hs:∀e∈a,vN e):Br a b=some (decide (a=b)):=by
 refine mH a b ha rfl (fun k h1 h2=>?_) ?_
 ·simp only[tL,ay (by omega:(k:Int)<(a.length:Int)),if_true,aD (by omega:(0:Int)≤(k:Int)),Int.toNat_natCast,List.getElem?_eq_getElem h1,List.getElem?_eq_getElem h2,Option.bind_some,L9 a[k] b[k] (hs _ (List.getElem_mem h1)),cw (by omega:k<1099511627776)]
  exact jb _ _
 ·simp only[tL,aw (by omega:¬(a.length:Int)<(a.length:Int)),Bool.false_eq_true,if_false]
theorem Mc (a b:List bT) (ha:a.length≤1000000):Bs a b=some (decide (a=b)):=by
 refine mH a b ha rfl (fun k h1 h2=>?_) ?_
 ·simp only[tM,ay (by omega:(k:Int)<(a.length:Int)),if_true,aD (by omega:(0:Int)≤(k:Int)),Int.toNat_natCast,List.getElem?_eq_getElem h1,List.getElem?_eq_getElem h2,Option.bind_some,Et,cw (by omega:k<1099511627776)]
  exact jb _ _
 ·simp only[tM,aw (by omega:¬(a.length:Int)<(a.length:Int)),Bool.false_eq_true,if_false]
theorem Md (a b:List bo) (ha:a.length≤1000000):Bt a b=some (decide (a=b)):=by
 refine mH a b ha rfl (fun k h1 h2=>?_) ?_
 ·simp only[tN,ay (by omega:(k:Int)<(a.length:Int)),if_true,aD (by omega:(0:Int)≤(k:Int)),Int.toNat_natCast,List.getElem?_eq_getElem h1,List.getElem?_eq_getElem h2,Option.bind_some,Ew,cw (by omega:k<1099511627776)]
  exact jb _ _
 ·simp only[tN,aw (by omega:¬(a.length:Int)<(a.length:Int)),Bool.false_eq_true,if_false]
theorem Me (a b:List Edge) (ha:a.length≤1000000):Bu a b=some (decide (a=b)):=by
 refine mH a b ha rfl (fun k h1 h2=>?_) ?_
 ·simp only[tO,ay (by omega:(k:Int)<(a.length:Int)),if_true,aD (by omega:(0:Int)≤(k:Int)),Int.toNat_natCast,List.getElem?_eq_getElem h1,List.getElem?_eq_getElem h2,Option.bind_some,Eu,cw (by omega:k<1099511627776)]
  exact jb _ _
 ·simp only[tO,aw (by omega:¬(a.length:Int)<(a.length:Int)),Bool.false_eq_true,if_false]
theorem Mf (a b:List bz) (ha:a.length≤1000000):Bv a b=some (decide (a=b)):=by
 refine mH a b ha rfl (fun k h1 h2=>?_) ?_
 ·simp only[tQ,ay (by omega:(k:Int)<(a.length:Int)),if_true,aD (by omega:(0:Int)≤(k:Int)),Int.toNat_natCast,List.getElem?_eq_getElem h1,List.getElem?_eq_getElem h2,Option.bind_some,Ev,cw (by omega:k<1099511627776)]
  exact jb _ _
 ·simp only[tQ,aw (by omega:¬(a.length:Int)<(a.length:Int)),Bool.false_eq_true,if_false]
structure kS (s:aC):Prop where
 pol:kL 31 s.Policy
 open_:s.Open.length≤1000000∧∀e∈s.Open,nN e
 pend:s.Pending.length≤1000000∧∀e∈s.Pending,nN e
 memo:s.Memo.length≤1000000
 rows:s.Rows.length≤1000000
 edgs:s.Edges.length≤1000000
 slts:s.Slots.length≤1000000
 blks:s.Blocks.length≤1000000∧∀b∈s.Blocks,vN b
def pC (a b:aC):Bool:=(decide (a.Now=b.Now)&&(decide (a.Sec=b.Sec)&&(decide (a.Kept=b.Kept)&&(decide (a.Next=b.Next)&&fX 31 a.Policy b.Policy))))&&((decide (a.Open=b.Open)&&(decide (a.Pending=b.Pending)&&decide (a.Blocks=b.Blocks)))&&(decide (a.Memo=b.Memo)&&(decide (a.Rows=b.Rows)&&(decide (a.Edges=b.Edges)&&decide (a.Slots=b.Slots)))))
theorem Mg (a b:Int):(a == b)=decide (a=b):=by by_cases h:a=b<;>simp[h]
theorem Mh (a b:Int):(a != b) = !decide (a=b):=by by_cases h:a=b<;>simp[h]
theorem Fp (a b:aC) (h:kS a):tT a b=some (pC a b):=by
 rw[tT,show Bo a.Policy b.Policy=some (fX 31 a.Policy b.Policy) from(D0 31 a.Policy b.Policy Fu h.pol (by rw[kK];omega)).1]
 simp only[Mg,Bx,Bw,zr _ _ h.open_.1 h.open_.2,zr _ _ h.pend.1 h.pend.2,Mb _ _ h.blks.1 h.blks.2,Mc _ _ h.memo,Md _ _ h.rows,Me _ _ h.edgs,Mf _ _ h.slts,Option.bind_some,pC]
 cases decide (a.Now=b.Now)<;>cases decide (a.Sec=b.Sec)<;>cases decide (a.Kept=b.Kept)<;>cases decide (a.Next=b.Next)<;>cases fX 31 a.Policy b.Policy<;>simp only[Bool.false_eq_true,if_true,if_false,Option.bind_some,Bool.and_true,Bool.true_and,Bool.and_false,Bool.false_and] <;>
  cases decide (a.Open=b.Open)<;>cases decide (a.Pending=b.Pending)<;>cases decide (a.Blocks=b.Blocks)<;>simp only[Bool.false_eq_true,if_true,if_false,Option.bind_some,Bool.and_true,Bool.true_and,Bool.and_false,Bool.false_and] <;>
  cases decide (a.Memo=b.Memo)<;>cases decide (a.Rows=b.Rows)<;>cases decide (a.Edges=b.Edges)<;>rfl
theorem Mi (a b:aC) (h:kS a):(if((a.Blocks.length:Int) != (b.Blocks.length:Int))=true then some false else xi a b)=some (decide (a.Blocks=b.Blocks)):=by
 refine mH (body:=fun(s:Int)=>qz a b s) a.Blocks b.Blocks h.blks.1 rfl (fun k h1 h2=>?_) ?_
 ·simp only[qz,ay (by omega:(k:Int)<(a.Blocks.length:Int)),if_true,aD (by omega:(0:Int)≤(k:Int)),Int.toNat_natCast,List.getElem?_eq_getElem h1,List.getElem?_eq_getElem h2,Option.bind_some,Ma _ _ (h.blks.2 _ (List.getElem_mem h1)),cw (by have:=h.blks.1;omega:k<1099511627776)]
  exact jb _ _
 ·simp only[qz,aw (by omega:¬(a.Blocks.length:Int)<(a.Blocks.length:Int)),Bool.false_eq_true,if_false]
end Go.Proofs.YtjklegmimpehlaaGreat.Ab
namespace Go.Proofs.YtjklegmimpehlaaGreat.Ab
open Go Go.RowKit
set_option linter.unusedVariables false
set_option linter.unusedSimpArgs false
theorem Mj {c f:Bool} {k:Option Bool}:Option.bind (if c=true then some (Sum.inr f)else some (Sum.inl ())) (Sum.elim (fun(_:Unit)=>k) some)=if c=true then some f else k:=by cases c<;>rfl
theorem Mk (a b:aC) (h:kS a):xj a b=some (decide (a.Rows=b.Rows)&&(decide (a.Edges=b.Edges)&&(decide (a.Slots=b.Slots)&&decide (a.Blocks=b.Blocks)))):=by
 rw[xj,Kz _ _ h.rows,KA _ _ h.edgs,KB _ _ h.slts]
 simp only[Option.bind_some]
 cases decide (a.Rows=b.Rows)
 ·rfl
 cases decide (a.Edges=b.Edges)
 ·rfl
 cases decide (a.Slots=b.Slots)
 ·rfl
 simp only[Bool.not_true,Bool.false_eq_true,if_false,Bool.true_and]
 rw[Mj,Mi a b h]
theorem Fq (a b:aC) (h:kS a):tC a b=some (pC a b):=by
 rw[tC,show zV a.Policy b.Policy=some (fX 31 a.Policy b.Policy) from(D0 31 a.Policy b.Policy Fu h.pol (by rw[kK];omega)).2,yR _ _ h.open_.1 h.open_.2,yR _ _ h.pend.1 h.pend.2,Ky _ _ h.memo]
 simp only[Mh,Option.bind_some,Mk a b h,pC]
 cases decide (a.Now=b.Now)<;>cases decide (a.Sec=b.Sec)<;>cases decide (a.Kept=b.Kept)<;>cases decide (a.Next=b.Next)<;>cases fX 31 a.Policy b.Policy<;>simp only[Bool.not_true,Bool.not_false,Bool.false_eq_true,if_true,if_false,Option.bind_some,Sum.elim_inr,Sum.elim_inl,Bool.and_true,Bool.true_and,Bool.and_false,Bool.false_and] <;>
  cases decide (a.Open=b.Open)<;>cases decide (a.Pending=b.Pending)<;>simp only[Bool.not_true,Bool.not_false,Bool.false_eq_true,if_true,if_false,Option.bind_some,Sum.elim_inr,Sum.elim_inl,Bool.and_true,Bool.true_and,Bool.and_false,Bool.false_and] <;>
  cases decide (a.Memo=b.Memo)<;>simp only[Bool.not_true,Bool.not_false,Bool.false_eq_true,if_true,if_false,Option.bind_some,Sum.elim_inr,Sum.elim_inl,Bool.and_true,Bool.true_and,Bool.and_false,Bool.false_and] <;>
  cases decide (a.Blocks=b.Blocks)<;>cases decide (a.Rows=b.Rows)<;>cases decide (a.Edges=b.Edges)<;>cases decide (a.Slots=b.Slots)<;>rfl
theorem Fs:∀(d:Nat) (r:af),kL d r→kL (d+1) r
 | 0,r,h=>h.elim
 | d+1,r,h=>⟨h.1,fun x hx=>Fs d x (h.2 x hx)⟩
theorem zt {r:af} {a:Nat} (h:kL a r):∀k,kL (a+k) r
 | 0=>h
 | k+1=>Fs (a+k) r (zt h k)
theorem Ml {s:aC} (h:sj s):kS s:=by
 obtain⟨hv,hr⟩:=h
 obtain⟨p1,p2⟩:=iD hv.pol
 have e1:∀e,kR e→nN e:=fun e he=>⟨by have:=he.2.2.2.2;omega,fun x hx=>by have:=(r9 (he.2.2.2.1 x hx).2).2.2.2.2.2.2.2.1;omega⟩
 exact⟨zt (D2 5 s.Policy p1 (by omega)) 26,⟨by have:=hv.open_.2;omega,fun e he=>e1 e (hv.open_.1 e he)⟩,⟨by have:=hv.pend.2;omega,fun e he=>e1 e (hv.pend.1 e he)⟩,by have:=hv.memo.2;omega,by have:=hv.rows.2;omega,by have:=hv.edgs.2;omega,by have:=hv.slts.2;omega,by have:=hv.blks.2;omega,fun b hb=>by
  have:=(hv.blks.1 b hb).2.2.2
  exact⟨by rw[this];simp,by rw[this];simp⟩⟩
theorem Mm:kS cR:=⟨zt (a:=1) ⟨by simp[cR],by simp[cR]⟩ 30,⟨by simp[cR],by simp[cR]⟩,⟨by simp[cR],by simp[cR]⟩,by simp[cR],by simp[cR],by simp[cR],by simp[cR],by simp[cR],by simp[cR]⟩
theorem Ft {s:aC} (h:kS s):pC s s=true:=by simp[pC,DY 31 s.Policy h.pol]
theorem Fv (s:aC) (hb:(s.Blocks.flatMap (·.Episodes)).length≤1048576):∃v,tE s=some v∧(v=true→lG s∧kS s):=by
 obtain⟨v1,p1,q1⟩:=Jv s.Policy
 obtain⟨v2,p2,q2⟩:=yn s.Open
 obtain⟨v3,p3,q3⟩:=yn s.Pending
 obtain⟨v4,p4,q4⟩:=Ja s.Blocks hb
 rw[tE,p1,p2,p3,p4]
 cases v1
 ·exact⟨false,rfl,fun e=>by cases e⟩
 cases v2
 ·exact⟨false,rfl,fun e=>by cases e⟩
 cases v3
 ·exact⟨false,rfl,fun e=>by cases e⟩
 cases v4
 ·exact⟨false,rfl,fun e=>by cases e⟩
 by_cases c1:(100:Int)<(s.Memo.length:Int)
 ·exact⟨false,by simp[c1],fun e=>by cases e⟩
 by_cases c2:(100:Int)<(s.Rows.length:Int)
 ·exact⟨false,by simp[c1,c2],fun e=>by cases e⟩
 by_cases c3:(60:Int)<(s.Edges.length:Int)
 ·exact⟨false,by simp[c1,c2,c3],fun e=>by cases e⟩
 by_cases c4:(60:Int)<(s.Slots.length:Int)
 ·exact⟨false,by simp[c1,c2,c3,c4],fun e=>by cases e⟩
 have g2:=q2 rfl
 have g3:=q3 rfl
 have g4:=q4 rfl
 have gl:=g4.len
 have e1:∀e,uQ e→nN e:=fun e he=>⟨by have:=he.1;omega,fun x hx=>by have:=he.2 x hx;omega⟩
 have hfew:lG s:=⟨⟨by omega,fun e he=>by have:=(g2.2 e he).1;omega⟩,⟨by omega,fun e he=>by have:=(g3.2 e he).1;omega⟩,by omega,by omega,by omega,by omega,by omega⟩
 have hok:kS s:=⟨D1 31 s.Policy (q1 rfl),⟨by omega,fun e he=>e1 e (g2.2 e he)⟩,⟨by omega,fun e he=>e1 e (g3.2 e he)⟩,by omega,by omega,by omega,by omega,by omega,fun b hb=>by
  have hsub:∀e∈b.Episodes,e∈s.Blocks.flatMap (·.Episodes):=fun e he=>List.mem_flatMap.2 ⟨b,hb,he⟩
  refine⟨?_,fun e he=>e1 e (g4.small e (hsub e he))⟩
  obtain⟨l1,l2,hl⟩:=List.append_of_mem hb
  have:=g4.eps
  rw[hl,List.flatMap_append,List.flatMap_cons,List.length_append,List.length_append]at this
  omega⟩
 obtain⟨w1,r1⟩:=KD s (by omega)
 obtain⟨w2,r2⟩:=KE s (by omega)
 obtain⟨w3,r3⟩:=KF s (by omega)
 simp only[Bool.not_true,Bool.false_eq_true,if_false,Option.bind_some,aw c1,aw c2,aw c3,aw c4,Sum.elim_inl,Bj,r1]
 cases w1 with
 | inr x=>exact⟨x,rfl,fun _=>⟨hfew,hok⟩⟩
 | inl x=>
  simp only[Sum.elim_inl,Bi,r2,Option.bind_some]
  cases w2 with
  | inr x=>exact⟨x,rfl,fun _=>⟨hfew,hok⟩⟩
  | inl x=>exact⟨w3,r3,fun _=>⟨hfew,hok⟩⟩
end Go.Proofs.YtjklegmimpehlaaGreat.Ab
