import Derived.Test.YtjklegmimpehlaaGreatAbWrap
import Derived.Laws.Slices
namespace Go.Proofs.YtjklegmimpehlaaGreat.Ab
open Go Go.RowKit
set_option linter.unusedVariables false
set_option linter.unusedSimpArgs false
variable {P:Program} {N:Nat} {ops:Array Oper} {s:St} {dst:Option Tmp} {type:TypeId} {pos:String} {after:Array Edge} {guard:Option (Nat×Bool)}
def Bd (s:St) (x:Option Operand) (d l:Nat):Prop:=
 match x with
 | none=>l=d
 | some y=>∃k i,s.ev y = .int k i∧i=(l:Int)
theorem gz {d:Nat}:Bd s none d d:=rfl
theorem fV {y:Operand} {d l:Nat} {k:IntKind} {i:Int} (h:s.ev y = .int k i) (e:i=(l:Int)):Bd s (some y) d l:=⟨k,i,h,e⟩
theorem IE {isS:Bool} {len cap l h:Nat} {lo hi:Option Value} (hlo:lo=none∧l=0∨∃k,lo=some (.int k (l:Int))) (hhi:hi=none∧h=len∨∃k,hi=some (.int k (h:Int))) (h1:l≤h) (h2:h≤cap) (w:World) :
  (Instr.sliceBounds isS len cap lo hi none).run P w = .ok (l,h,cap) w:=by
 have a1:(0:Int)≤(l:Int):=Int.natCast_nonneg _
 have a2:(0:Int)≤(h:Int):=Int.natCast_nonneg _
 have a3:(l:Int)≤(h:Int):=by omega
 have a4:(h:Int)≤(cap:Int):=by omega
 rcases hlo with ⟨rfl,rfl⟩ | ⟨k,rfl⟩<;>rcases hhi with ⟨rfl,rfl⟩ | ⟨k',rfl⟩<;>simp[Instr.sliceBounds,run_sliceBound,a1,a2,a3,a4,Int.toNat_natCast]
theorem Df {M:Nat→Prop} {J:bI} {w:World} {ρ:Operand→Value} {x:Option Operand} {d l:Nat} (h:Bd s x d l) (hr:∀y,x=some y→aG w M J (s.ev y) (ρ y)):(x.map ρ=none∧l=d)∨∃k,x.map ρ=some (.int k (l:Int)):=by
 cases x with
 | none=>exact .inl ⟨rfl,h⟩
 | some y=>
  obtain⟨k,i,h1,rfl⟩:=h
  have h2:=hr y rfl
  rw[h1]at h2
  generalize hv:ρ y=v at h2
  cases h2
  exact .inr ⟨k,by simp[hv]⟩
theorem IF {w:World} {M:Nat→Prop} {J:bI} {sz:Nat} {xs:List PV} {A:Option Addr} {n cap:Nat} (h:aG w M J (.sl sz xs) (.slice A n cap)) {l k:Nat} (h1:l≤k) (h2:k≤xs.length) :
  n=xs.length∧xs.length≤cap∧aG w M J (.sl sz ((xs.take k).drop l)) (.slice (if cap=l then A else A.map (·.add (l*sz))) (k-l) (cap-l)):=by
 have hlen:((xs.take k).drop l).length=k-l:=by rw[List.length_drop,List.length_take];omega
 cases h with
 | sl0=>
  simp only[List.length_nil]at h2
  have:k=0:=by omega
  subst this
  have:l=0:=by omega
  subst this
  refine⟨rfl,by simp,?_⟩
  simp only[List.take_nil,List.drop_nil]
  split<;>exact .sl0 _ _ _
 | sl _ _ _ a _ g hp hw ho hle hM hc hr=>
  refine⟨rfl,hle,?_⟩
  by_cases he:l=k
  ·have hx:(xs.take k).drop l=[]:=List.eq_nil_of_length_eq_zero (by omega)
   rw[hx,show k-l=([]:List PV).length by simp[he]]
   split
   ·exact .sl _ _ _ _ _ g hp (by simp) (by simp[bj]) (Nat.zero_le _) (fun h=>absurd rfl h) (fun k c hk=>by simp[bj]at hk) (fun k c hk=>by simp[bj]at hk)
   ·exact .sl _ _ _ _ _ g hp (by simp) (by simp[bj]) (Nat.zero_le _) (fun h=>absurd rfl h) (fun k c hk=>by simp[bj]at hk) (fun k c hk=>by simp[bj]at hk)
  ·have hne:xs≠[]:=by rintro rfl;simp at h2;omega
   rw[if_neg (by omega),← hlen]
   have hfl:bj ((xs.take k).drop l)=((bj xs).take (k*sz)).drop (l*sz):=by
    rw[Hr (fun x hx=>hw x (List.mem_of_mem_take hx)),Hs hw]
   have hget:∀(j:Nat) (c:PV),(bj ((xs.take k).drop l))[j]? = some c→(bj xs)[l*sz+j]? = some c:=by
    intro j c hj
    rw[hfl,List.getElem?_drop,List.getElem?_take]at hj
    split at hj
    ·exact hj
    ·cases hj
   refine .sl _ _ _ _ _ (fun j=>g (l*sz+j)) hp (fun x hx=>hw x (List.mem_of_mem_take (List.mem_of_mem_drop hx))) (fun c hc'=>?_) (by omega) (fun _=>by rw[m9];exact hM hne) (fun j c hj=>?_) (fun j c hj=>?_)
   ·obtain⟨j,hj⟩:=List.getElem?_of_mem hc'
    exact ho c (List.mem_of_getElem? (hget j c hj))
   ·rw[rz];exact hc _ _ (hget j c hj)
   ·exact hr _ _ (hget j c hj)
theorem gk {t e:TypeId} {x:Operand} {lo hi:Option Operand} {sz by_:Nat} {z:List PV} {ei:dc} {xs v:List PV} {l k:Nat} (hx:s.ev x = .sl ei.size xs) (ht:bm P t=some ⟨.slice e,sz,by_,z⟩) (he:bm P e=some ei)
  (hlo:Bd s lo 0 l) (hhi:Bd s hi xs.length k) (h1:l≤k) (h2:k≤xs.length) (hv:(xs.take k).drop l=v):bw P N ops ⟨dst,.slice t x lo hi none,type,pos,after,guard⟩ s (cN (.sl ei.size v)):=
 fC _ fun w M J ρ hr=>by
  subst hv
  have h3:=hr x (by simp[Op.operands])
  rw[hx]at h3
  generalize hcx:ρ x=cx at h3
  have hb1:=Df (w:=w) (M:=M) (J:=J) (ρ:=ρ) hlo fun y hy=>hr y (by subst hy;simp[Op.operands])
  have hb2:=Df (w:=w) (M:=M) (J:=J) (ρ:=ρ) hhi fun y hy=>hr y (by subst hy;cases lo<;>simp[Op.operands])
  obtain⟨A,n,cap,rfl⟩:∃A n cap,cx = .slice A n cap:=by cases h3<;>exact⟨_,_,_,rfl⟩
  obtain⟨rfl,hle,h4⟩:=IF h3 h1 h2
  refine⟨_,?_,h4⟩
  have hb:=IE (P:=P) (isS:=true) (len:=xs.length) (cap:=cap) hb1 hb2 h1 (by omega) w
  simp[execOp,hcx,Instr.sliceAt,run_underlying (eA ht),Instr.slice,hb,i0 he]
end Go.Proofs.YtjklegmimpehlaaGreat.Ab
