/- Chapter 21: which states may be, how any is written, which any bytes are, and which two are one. -/
import Derived.Test.YtjklegmimpehlaaGreatXStTells
import Derived.Test.YtjklegmimpehlaaGreatPTlA
namespace Go.Proofs.YtjklegmimpehlaaGreat.Ab
open Go Go.RowKit
set_option linter.unusedVariables false
set_option linter.unusedSimpArgs false
def fZ:aC:=aC.mk 4 0 0 0 (af.mk 1 0 (aa []) (aa []) []) [] [] [] [] [] [] []
theorem Ex:fE fZ=true:=by decide
theorem yS:cg aO 0:=⟨by decide,by decide⟩
theorem nD {α:Type} {V:α→Prop}:dh V []:=⟨by simp,by simp⟩
theorem Ey:vL fZ:=⟨⟨⟨by decide,by decide⟩,yS,yS,yS,by decide,nD,nD,nD,nD,nD,nD,nD⟩,Ex⟩
theorem KH:(fc (ek fZ)).length≤5000:=by
 have h:=fun n (hn:n<18446744073709551616)=>ib (n:=n) hn
 have hr:=(pk (r:=fZ.Policy) (by decide)).2
 have a0:=h 0 (by omega)
 have a4:=h 4 (by omega)
 have al:=h (cC 5 fZ.Policy).length (by omega)
 rw[nM,nL]
 simp only[je,gr,List.length_append,bq,Int.toNat_natCast]
 simp only[fZ,List.length_nil,List.flatMap_nil]at *
 have z0:Int.toNat 0=0:=rfl
 have z4:Int.toNat 4=4:=rfl
 rw[z0,z4]
 omega
theorem KI:xn=some true:=by
 obtain⟨z,e,h1,h2⟩:=Fj [] (by simp)
 have he:e=2:=by
  rcases h2 with ⟨h,_⟩ | ⟨_,_,h⟩
  ·exact h
  ·have:=congrArg List.length h
   rw[nM]at this;simp at this
 have hf:lG fZ:=⟨by simp[fZ],by simp[fZ],by simp[fZ],by simp[fZ],by simp[fZ],by simp[fZ],by simp[fZ]⟩
 have hf0:lG cR:=⟨by simp[cR],by simp[cR],by simp[cR],by simp[cR],by simp[cR],by simp[cR],by simp[cR]⟩
 have hw:po fZ:=zo (fun e h=>h.1) Ey.1
 have hr0:fE cR=false:=by decide
 have hb:=Er fZ hf hw
 rw[kN,if_pos Ex]at hb
 have h3:=Fi Ey KH
 have h4:=yM cR hf0
 rw[hr0]at h4
 unfold xn
 rw[h1,Option.bind_some,show aC.mk 4 0 0 0 (af.mk 1 0 (aa []) (aa []) []) [] [] [] [] [] [] []=fZ from rfl,hb,Option.bind_some,h3,Option.bind_some,show aC.mk 0 0 0 0 (af.mk 0 0 (aa []) (aa []) []) [] [] [] [] [] [] []=cR from rfl,h4,he]
 rfl
theorem stateTells_true (s t:aC) (b:List UInt8) (hs:aC.wf s) (_:aC.wf t) (_:b.length≤maxLen) (bs:(s.Blocks.flatMap (·.Episodes)).length≤1048576) (bt:(t.Blocks.flatMap (·.Episodes)).length≤1048576):BS s t b=some true:=by
 obtain⟨v1,p1,q1⟩:=Fv s bs
 obtain⟨v2,p2,_⟩:=Fv t bt
 unfold BS
 rw[KI,Option.bind_some,if_neg (by simp),p1,Option.bind_some]
 cases v1 with
 | false=>rfl
 | true=>
 obtain⟨hf,ho⟩:=q1 rfl
 rw[if_neg (by simp),p2,Option.bind_some]
 cases v2 with
 | false=>rfl
 | true=>
 rw[if_neg (by simp)]
 by_cases hb:(5000:Int)<(b.length:Int)
 ·rw[dM (ay hb)];rfl
 rw[dD (aw hb),Option.bind_some,Sum.elim_inl]
 unfold BR
 obtain⟨x,e,r1,r2,r3⟩:=L6 b (by omega)
 have hx:kS x:=by
  rcases r3 with ⟨_,rfl⟩ | ⟨_,h⟩
  ·exact Mm
  ·exact Ml h
 have hw:=KG hs
 have hbx:oH s=some (kN s):=zn s (yK hf) hw fun hr=>by have:=Ep hf hw hr;omega
 rw[aD (by omega),r1,Option.bind_some,r2,Option.bind_some,yM s hf,Option.bind_some,Kq s hf,Option.bind_some,if_pos (by simp),Er s hf hw,Option.bind_some,hbx,Option.bind_some,if_pos (by simp),Fq x x hx,Option.bind_some,Ft hx,if_pos rfl]
 simp only[qE,Option.bind_some]
 rw[if_pos (by simp),Fp s t ho,Option.bind_some,Fq s t ho,Option.bind_some,if_pos (by simp),Fp s s ho,Ft ho]
 rfl
end Go.Proofs.YtjklegmimpehlaaGreat.Ab
