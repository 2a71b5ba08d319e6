/- States: what is the same, and what is few and small. -/
import Derived.Test.YtjklegmimpehlaaGreatPStB
import Derived.Test.YtjklegmimpehlaaGreatPSameR
import Derived.Test.YtjklegmimpehlaaGreatPFew19
namespace Go.Proofs.YtjklegmimpehlaaGreat.Ab
open Go Go.RowKit
set_option linter.unusedVariables false
set_option linter.unusedSimpArgs false
theorem Kw (a b:List bf) (ha:a.length≤1000000):tH a b=some (decide (a=b)):=by
 by_cases hl:a.length=b.length
 ·have h0:((a.length:Int) != (b.length:Int))=false:=by simp[hl]
  rw[tH,dD h0]
  refine lF a b hl (by omega) (fun k hk hk2=>?_) ?_
  ·simp only[tG,ay (by omega:(k:Int)<(a.length:Int)),if_true,aD (by omega:(0:Int)≤(k:Int)),Int.toNat_natCast,List.getElem?_eq_getElem hk,List.getElem?_eq_getElem hk2,Option.bind_some,D3,mB (by omega:k<1099511627776)]
   by_cases e:a[k]=b[k]
   ·simp[e]
   ·simp[e]
  ·simp only[tG,aw (by omega:¬(a.length:Int)<(a.length:Int)),Bool.false_eq_true,if_false]
 ·have h0:((a.length:Int) != (b.length:Int))=true:=by simp only[bne_iff_ne,ne_eq];omega
  rw[tH,dM h0,aw (by rintro rfl;exact hl rfl)]
theorem Kx (a b:aL) (ha:a.Attrs.length≤1000000):jr a b=some (decide (a=b)):=by
 have no:∀(p:Prop),p→(a=b→¬p)→some false=some (decide (a=b)):=fun p hp h=>by rw[aw (fun e=>h e hp)]
 by_cases h1:a.Trace=b.Trace
 case neg=>rw[← no _ h1 (fun e h=>h (by rw[e]))];simp only[jr,eu,aw h1,Bool.false_eq_true,if_false]
 by_cases h2:a.Id=b.Id
 case neg=>rw[← no _ h2 (fun e h=>h (by rw[e]))];simp[jr,eu,h1,h2]
 by_cases h3:a.Parent=b.Parent
 case neg=>rw[← no _ h3 (fun e h=>h (by rw[e]))];simp[jr,eu,h1,h2,h3]
 by_cases h4:a.Service=b.Service
 case neg=>rw[← no _ h4 (fun e h=>h (by rw[e]))];simp[jr,eu,ea,h1,h2,h3,h4]
 by_cases h5:a.Op=b.Op
 case neg=>rw[← no _ h5 (fun e h=>h (by rw[e]))];simp[jr,eu,ea,h1,h2,h3,h4,h5]
 by_cases h6:a.Start=b.Start
 case neg=>rw[← no _ h6 (fun e h=>h (by rw[e]))];simp[jr,eu,ea,h1,h2,h3,h4,h5,h6]
 by_cases h7:a.Dur=b.Dur
 case neg=>rw[← no _ h7 (fun e h=>h (by rw[e]))];simp[jr,eu,ea,h1,h2,h3,h4,h5,h6,h7]
 by_cases h8:a.Err=b.Err
 case neg=>rw[← no _ h8 (fun e h=>h (by rw[e]))];simp[jr,eu,ea,h1,h2,h3,h4,h5,h6,h7,h8]
 have hd:decide (a=b)=decide (a.Attrs=b.Attrs):=by
  by_cases e:a.Attrs=b.Attrs
  ·rw[ay e,ay (D4 h1 h2 h3 h4 h5 h6 h7 h8 e)]
  ·rw[aw e,aw (fun e2=>e (by rw[e2]))]
 rw[hd]
 simp only[jr,eu,ea,h1,h2,h3,h4,h5,h6,h7,h8,Kw _ _ ha,decide_true,Bool.and_self,if_true,beq_self_eq_true,Option.bind_some]
theorem jb {σ ρ:Type} {p:Prop} [Decidable p] (x:ρ) (y:σ):(if(!decide p)=true then(some (Sum.inr x):Option (σ⊕ρ))else some (Sum.inl y))=if p then some (Sum.inl y)else some (Sum.inr x):=by
 by_cases h:p<;>simp[h]
theorem Es {a b:az} (h1:a.Trace=b.Trace) (h2:a.First=b.First) (h3:a.Last=b.Last) (h4:a.Sure=b.Sure) (h5:a.Spans=b.Spans):a=b:=by cases a;cases b;simp_all
theorem yR (a b:List az) (ha:a.length≤1000000) (hs:∀e∈a,e.Spans.length≤1000000∧∀s∈e.Spans,s.Attrs.length≤1000000):ov a b=some (decide (a=b)):=by
 by_cases hl:a.length=b.length
 ·have h0:((a.length:Int) != (b.length:Int))=false:=by simp[hl]
  rw[ov,dD h0]
  refine lF a b hl (by omega) (fun k hk hk2=>?_) ?_
  ·have hx:=hs _ (List.getElem_mem hk)
   simp only[tp,ay (by omega:(k:Int)<(a.length:Int)),if_true,aD (by omega:(0:Int)≤(k:Int)),Int.toNat_natCast,List.getElem?_eq_getElem hk,List.getElem?_eq_getElem hk2,Option.bind_some,eu,JN a[k].Spans b[k].Spans (by omega) hx.2,cw (by omega:k<1099511627776)]
   by_cases e1:a[k].Trace=b[k].Trace
   case neg=>
    have hne:¬a[k]=b[k]:=fun e=>e1 (by rw[e])
    simp[e1,hne]
   by_cases e2:a[k].First=b[k].First
   case neg=>
    have hne:¬a[k]=b[k]:=fun e=>e2 (by rw[e])
    simp[e1,e2,hne]
   by_cases e3:a[k].Last=b[k].Last
   case neg=>
    have hne:¬a[k]=b[k]:=fun e=>e3 (by rw[e])
    simp[e1,e2,e3,hne]
   by_cases e4:a[k].Sure=b[k].Sure
   case neg=>
    have hne:¬a[k]=b[k]:=fun e=>e4 (by rw[e])
    simp[e1,e2,e3,e4,hne]
   by_cases e5:a[k].Spans=b[k].Spans
   case neg=>
    have hne:¬a[k]=b[k]:=fun e=>e5 (by rw[e])
    simp[e1,e2,e3,e4,e5,hne]
   have hee:=Es e1 e2 e3 e4 e5
   simp[e1,e2,e3,e4,e5,hee]
  ·simp only[tp,aw (by omega:¬(a.length:Int)<(a.length:Int)),Bool.false_eq_true,if_false]
 ·have h0:((a.length:Int) != (b.length:Int))=true:=by simp only[bne_iff_ne,ne_eq];omega
  rw[ov,dM h0,aw (by rintro rfl;exact hl rfl)]
theorem Et (a b:bT):((a.Trace.Hi == b.Trace.Hi)&&((a.Trace.Lo == b.Trace.Lo)&&((a.Kept == b.Kept)&&true)))=decide (a=b):=by
 obtain⟨⟨a1,a2⟩,a3⟩:=a
 obtain⟨⟨b1,b2⟩,b3⟩:=b
 rw[Bool.eq_iff_iff]
 simp only[Bool.and_eq_true,beq_iff_eq,decide_eq_true_iff,bT.mk.injEq,Trace.mk.injEq,and_true]
 exact⟨fun⟨h1,h2,h3⟩=>⟨⟨h1,h2⟩,h3⟩,fun⟨⟨h1,h2⟩,h3⟩=>⟨h1,h2,h3⟩⟩
theorem Eu (a b:Edge):((ByteArray.toList a.From == ByteArray.toList b.From)&&((ByteArray.toList a.To == ByteArray.toList b.To)&&((a.Count == b.Count)&&((a.Errs == b.Errs)&&true))))=decide (a=b):=by
 rw[ea,ea]
 obtain⟨a1,a2,a3,a4⟩:=a
 obtain⟨b1,b2,b3,b4⟩:=b
 rw[Bool.eq_iff_iff]
 simp only[Bool.and_eq_true,beq_iff_eq,decide_eq_true_iff,Edge.mk.injEq,and_true]
theorem Ev (a b:bz):((ByteArray.toList a.Service == ByteArray.toList b.Service)&&((ByteArray.toList a.Op == ByteArray.toList b.Op)&&((a.Trace.Hi == b.Trace.Hi)&&((a.Trace.Lo == b.Trace.Lo)&&((a.Id == b.Id)&&((a.Block == b.Block)&&true))))))=decide (a=b):=by
 rw[ea,ea]
 obtain⟨a1,a2,⟨a3,a4⟩,a5,a6⟩:=a
 obtain⟨b1,b2,⟨b3,b4⟩,b5,b6⟩:=b
 rw[Bool.eq_iff_iff]
 simp only[Bool.and_eq_true,beq_iff_eq,decide_eq_true_iff,bz.mk.injEq,Trace.mk.injEq,and_true]
 exact⟨fun⟨h1,h2,h3,h4,h5,h6⟩=>⟨h1,h2,⟨h3,h4⟩,h5,h6⟩,fun⟨h1,h2,⟨h3,h4⟩,h5,h6⟩=>⟨h1,h2,h3,h4,h5,h6⟩⟩
theorem Ew (a b:bo):((a.Level == b.Level)&&((a.Window == b.Window)&&((ByteArray.toList a.Service == ByteArray.toList b.Service)&&((ByteArray.toList a.Op == ByteArray.toList b.Op)&&((a.Counter.Count == b.Counter.Count)&&((a.Counter.Errs == b.Counter.Errs)&&((a.Counter.By.c0 == b.Counter.By.c0)&&((a.Counter.By.c1 == b.Counter.By.c1)&&((a.Counter.By.c2 == b.Counter.By.c2)&&((a.Counter.By.c3 == b.Counter.By.c3)&&((a.Counter.By.c4 == b.Counter.By.c4)&&((a.Counter.By.c5 == b.Counter.By.c5)&&((a.Counter.By.c6 == b.Counter.By.c6)&&((a.Counter.By.c7 == b.Counter.By.c7)&&true))))))))))))))=decide (a=b):=by
 rw[ea,ea]
 obtain⟨a1,a2,a3,a4,⟨a5,a6,⟨p0,p1,p2,p3,p4,p5,p6,p7⟩⟩⟩:=a
 obtain⟨b1,b2,b3,b4,⟨b5,b6,⟨q0,q1,q2,q3,q4,q5,q6,q7⟩⟩⟩:=b
 rw[Bool.eq_iff_iff]
 simp only[Bool.and_eq_true,beq_iff_eq,decide_eq_true_iff,bo.mk.injEq,Counter.mk.injEq,fO.mk.injEq,and_true]
theorem Ky (a b:List bT) (ha:a.length≤1000000):tr a b=some (decide (a=b)):=by
 by_cases hl:a.length=b.length
 ·have h0:((a.length:Int) != (b.length:Int))=false:=by simp[hl]
  rw[tr,dD h0]
  refine lF a b hl (by omega) (fun k hk hk2=>?_) ?_
  ·simp only[tq,ay (by omega:(k:Int)<(a.length:Int)),if_true,aD (by omega:(0:Int)≤(k:Int)),Int.toNat_natCast,List.getElem?_eq_getElem hk,List.getElem?_eq_getElem hk2,Option.bind_some,Et,cw (by omega:k<1099511627776)]
   exact jb _ _
  ·simp only[tq,aw (by omega:¬(a.length:Int)<(a.length:Int)),Bool.false_eq_true,if_false]
 ·have h0:((a.length:Int) != (b.length:Int))=true:=by simp only[bne_iff_ne,ne_eq];omega
  rw[tr,dM h0,aw (by rintro rfl;exact hl rfl)]
theorem Kz (a b:List bo) (ha:a.length≤1000000):tv a b=some (decide (a=b)):=by
 by_cases hl:a.length=b.length
 ·have h0:((a.length:Int) != (b.length:Int))=false:=by simp[hl]
  rw[tv,dD h0]
  refine lF a b hl (by omega) (fun k hk hk2=>?_) ?_
  ·simp only[tu,ay (by omega:(k:Int)<(a.length:Int)),if_true,aD (by omega:(0:Int)≤(k:Int)),Int.toNat_natCast,List.getElem?_eq_getElem hk,List.getElem?_eq_getElem hk2,Option.bind_some,Ew,cw (by omega:k<1099511627776)]
   exact jb _ _
  ·simp only[tu,aw (by omega:¬(a.length:Int)<(a.length:Int)),Bool.false_eq_true,if_false]
 ·have h0:((a.length:Int) != (b.length:Int))=true:=by simp only[bne_iff_ne,ne_eq];omega
  rw[tv,dM h0,aw (by rintro rfl;exact hl rfl)]
theorem KA (a b:List Edge) (ha:a.length≤1000000):tz a b=some (decide (a=b)):=by
 by_cases hl:a.length=b.length
 ·have h0:((a.length:Int) != (b.length:Int))=false:=by simp[hl]
  rw[tz,dD h0]
  refine lF a b hl (by omega) (fun k hk hk2=>?_) ?_
  ·simp only[tw,ay (by omega:(k:Int)<(a.length:Int)),if_true,aD (by omega:(0:Int)≤(k:Int)),Int.toNat_natCast,List.getElem?_eq_getElem hk,List.getElem?_eq_getElem hk2,Option.bind_some,Eu,cw (by omega:k<1099511627776)]
   exact jb _ _
  ·simp only[tw,aw (by omega:¬(a.length:Int)<(a.length:Int)),Bool.false_eq_true,if_false]
 ·have h0:((a.length:Int) != (b.length:Int))=true:=by simp only[bne_iff_ne,ne_eq];omega
  rw[tz,dM h0,aw (by rintro rfl;exact hl rfl)]
theorem KB (a b:List bz) (ha:a.length≤1000000):tB a b=some (decide (a=b)):=by
 by_cases hl:a.length=b.length
 ·have h0:((a.length:Int) != (b.length:Int))=false:=by simp[hl]
  rw[tB,dD h0]
  refine lF a b hl (by omega) (fun k hk hk2=>?_) ?_
  ·simp only[tA,ay (by omega:(k:Int)<(a.length:Int)),if_true,aD (by omega:(0:Int)≤(k:Int)),Int.toNat_natCast,List.getElem?_eq_getElem hk,List.getElem?_eq_getElem hk2,Option.bind_some,Ev,cw (by omega:k<1099511627776)]
   exact jb _ _
  ·simp only[tA,aw (by omega:¬(a.length:Int)<(a.length:Int)),Bool.false_eq_true,if_false]
 ·have h0:((a.length:Int) != (b.length:Int))=true:=by simp only[bne_iff_ne,ne_eq];omega
  rw[tB,dM h0,aw (by rintro rfl;exact hl rfl)]
theorem KD (s:aC) (hl:s.Rows.length≤1000):∃v,am (fun(q:Int)=>oy s q) Fu 0=some v:=by
 have key:∃v,am (fun(q:Int)=>oy s q) Fu 0=some v∧True:=lq (fun n (q:Int)=>∃k:Nat,k≤s.Rows.length∧n=s.Rows.length-k∧q=(k:Int)) (fun _=>True) ?_ Fu s.Rows.length 0 ⟨0,by omega,by omega,rfl⟩ (by rw[oN];omega)
 ·obtain⟨v,h,_⟩:=key
  exact⟨v,h⟩
 rintro n q ⟨k,hk,rfl,rfl⟩
 by_cases e:k=s.Rows.length
 ·refine .inr ⟨.inl (),?_,trivial⟩
  simp only[oy,aw (by omega:¬(k:Int)<(s.Rows.length:Int)),Bool.false_eq_true,if_false]
 ·have hk2:k<s.Rows.length:=by omega
  simp only[oy,ay (by omega:(k:Int)<(s.Rows.length:Int)),if_true,aD (by omega:(0:Int)≤(k:Int)),Int.toNat_natCast,List.getElem?_eq_getElem hk2,Option.bind_some,cw (by omega:k<1099511627776)]
  split
  ·exact .inr ⟨_,rfl,trivial⟩
  ·split
   ·exact .inr ⟨_,rfl,trivial⟩
   ·exact .inl ⟨_,s.Rows.length-(k+1),rfl,by omega,k+1,by omega,rfl,rfl⟩
theorem KE (s:aC) (hl:s.Edges.length≤1000):∃v,am (fun(q:Int)=>oz s q) Fu 0=some v:=by
 have key:∃v,am (fun(q:Int)=>oz s q) Fu 0=some v∧True:=lq (fun n (q:Int)=>∃k:Nat,k≤s.Edges.length∧n=s.Edges.length-k∧q=(k:Int)) (fun _=>True) ?_ Fu s.Edges.length 0 ⟨0,by omega,by omega,rfl⟩ (by rw[oN];omega)
 ·obtain⟨v,h,_⟩:=key
  exact⟨v,h⟩
 rintro n q ⟨k,hk,rfl,rfl⟩
 by_cases e:k=s.Edges.length
 ·refine .inr ⟨.inl (),?_,trivial⟩
  simp only[oz,aw (by omega:¬(k:Int)<(s.Edges.length:Int)),Bool.false_eq_true,if_false]
 ·have hk2:k<s.Edges.length:=by omega
  simp only[oz,ay (by omega:(k:Int)<(s.Edges.length:Int)),if_true,aD (by omega:(0:Int)≤(k:Int)),Int.toNat_natCast,List.getElem?_eq_getElem hk2,Option.bind_some,cw (by omega:k<1099511627776)]
  split
  ·exact .inr ⟨_,rfl,trivial⟩
  ·split
   ·exact .inr ⟨_,rfl,trivial⟩
   ·exact .inl ⟨_,s.Edges.length-(k+1),rfl,by omega,k+1,by omega,rfl,rfl⟩
theorem KF (s:aC) (hl:s.Slots.length≤1000):∃v,xm s=some v:=by
 have key:∃v,am (fun(q:Int)=>qC s q) Fu 0=some v∧True:=lq (fun n (q:Int)=>∃k:Nat,k≤s.Slots.length∧n=s.Slots.length-k∧q=(k:Int)) (fun _=>True) ?_ Fu s.Slots.length 0 ⟨0,by omega,by omega,rfl⟩ (by rw[oN];omega)
 ·obtain⟨v,h,_⟩:=key
  exact⟨v,h⟩
 rintro n q ⟨k,hk,rfl,rfl⟩
 by_cases e:k=s.Slots.length
 ·refine .inr ⟨true,?_,trivial⟩
  simp only[qC,aw (by omega:¬(k:Int)<(s.Slots.length:Int)),Bool.false_eq_true,if_false]
 ·have hk2:k<s.Slots.length:=by omega
  simp only[qC,ay (by omega:(k:Int)<(s.Slots.length:Int)),if_true,aD (by omega:(0:Int)≤(k:Int)),Int.toNat_natCast,List.getElem?_eq_getElem hk2,Option.bind_some,cw (by omega:k<1099511627776)]
  split
  ·exact .inr ⟨_,rfl,trivial⟩
  ·split
   ·exact .inr ⟨_,rfl,trivial⟩
   ·exact .inl ⟨_,s.Slots.length-(k+1),rfl,by omega,k+1,by omega,rfl,rfl⟩
theorem KG {s:aC} (h:aC.wf s):po s:=by
 have hu:∀n:Int,cX .u64 n→cI n:=fun n h=>by simp[cX,IntKind.min,IntKind.max,IntKind.signed,IntKind.bits]at h;exact⟨by omega,by omega⟩
 have he:∀e:az,az.wf e→np e:=fun e w=>⟨hu _ w.1.1,hu _ w.1.2,fun s hs=>by
  have h4:=w.2.2.2.2.2 s hs
  exact⟨hu _ h4.1.1,hu _ h4.1.2,hu _ h4.2.1,hu _ h4.2.2.1⟩⟩
 obtain⟨_,_,_,_,_,h6,h7,h8,h9,h10,h11,h12⟩:=h
 exact⟨fun e hm=>he e (h6.2 e hm),fun e hm=>he e (h7.2 e hm),fun v hm=>⟨hu _ (h8.2 v hm).1.1,hu _ (h8.2 v hm).1.2⟩,fun x hm=>⟨hu _ (h11.2 x hm).2.2.1.1,hu _ (h11.2 x hm).2.2.1.2,hu _ (h11.2 x hm).2.2.2.1⟩⟩
end Go.Proofs.YtjklegmimpehlaaGreat.Ab
