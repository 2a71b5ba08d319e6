/- What writes and reads numbers and texts, one behind the other, told plainly. -/
import Derived.Test.YtjklegmimpehlaaGreatXRW
import Derived.Test.YtjklegmimpehlaaGreatPKit
namespace Go.Proofs.YtjklegmimpehlaaGreat.Ab
open Go Go.RowKit
set_option linter.unusedVariables false
set_option linter.unusedSimpArgs false
def bP (n:Nat):List UInt8:=if n<128 then[UInt8.ofNat n]else UInt8.ofNat (n % 128+128) :: bP (n / 128)
theorem o8 {n:Nat} (h:n<128):bP n=[UInt8.ofNat n]:=by rw[bP,if_pos h]
theorem jV {n:Nat} (h:¬n<128):bP n=UInt8.ofNat (n % 128+128) :: bP (n / 128):=by rw[bP,if_neg h]
theorem gC (n:Nat):0<(bP n).length:=by rw[bP];split<;>simp
theorem DC:∀(k n:Nat),n<2 ^ (7*(k+1))→(bP n).length≤k+1
 | 0,n,h=>by rw[o8 (by simpa using h)];simp
 | k+1,n,h=>by
  by_cases h1:n<128
  ·rw[o8 h1];simp
  ·rw[jV h1]
   have:=DC k (n / 128) (by rw[Nat.div_lt_iff_lt_mul (by decide),show 7*(k+1+1)=7*(k+1)+7 by omega,Nat.pow_add]at *;exact h)
   simp only[List.length_cons];omega
theorem ib {n:Nat} (h:n<18446744073709551616):(bP n).length≤10:=DC 9 n (by omega)
def d4:Nat→List UInt8→Option (Nat×Nat)
 | _,[]=>none
 | i,c :: r=>if 10≤i then none else if 128≤c.toNat then(d4 (i+1) r).map fun p=>(c.toNat % 128+128*p.1,p.2+1)
  else if(i=9∧1<c.toNat)∨(c.toNat=0∧0<i)then none else some (c.toNat,1)
theorem ms:∀(l:List UInt8) (i n k:Nat),d4 i l=some (n,k)→1≤k∧k≤l.length
 | [],i,n,k,h=>by simp[d4]at h
 | c :: r,i,n,k,h=>by
  simp only[d4]at h
  split at h
  ·cases h
  ·split at h
   ·rw[Option.map_eq_some_iff]at h
    obtain⟨⟨a,b⟩,h1,h2⟩:=h
    injection h2 with _ h2
    subst h2
    have:=ms r _ _ _ h1
    simp only[List.length_cons];omega
   ·split at h
    ·cases h
    ·injection h with h;injection h with _ h;subst h;simp
theorem DD:∀(l:List UInt8) (i n k:Nat),i≤9→d4 i l=some (n,k)→n<2 ^ (64-7*i)
 | [],i,n,k,_,h=>by simp[d4]at h
 | c :: r,i,n,k,hi,h=>by
  simp only[d4]at h
  split at h
  ·cases h
  ·split at h
   ·rw[Option.map_eq_some_iff]at h
    obtain⟨⟨a,b⟩,h1,h2⟩:=h
    injection h2 with h2 _
    subst h2
    by_cases e:i=9
    ·subst e
     cases r with
     | nil=>simp[d4]at h1
     | cons d r=>simp[d4]at h1
    ·have:=DD r (i+1) a b (by omega) h1
     rw[show 64-7*i=(64-7*(i+1))+7 by omega,Nat.pow_add]
     dsimp only
     omega
   ·split at h
    ·cases h
    ·rename_i h2
     injection h with h;injection h with h _;subst h
     by_cases e:i=9
     ·subst e;simp at h2 ⊢;omega
     ·have:2 ^ 7≤2 ^ (64-7*i):=Nat.pow_le_pow_right (by decide) (by omega)
      omega
def i4 (o:Option (Nat×Nat)):Int×Int×Bool:=match o with | none=>(0,0,false) | some (n,k)=>((n:Int),(k:Int),true)
def i5 (l:List UInt8):Option (Nat×Nat):=d4 0 l
theorem u8_or128 (n:Nat):u8 (bits .or .u8 ((u8 (IntKind.u8.wrap (n:Int))).toNat:Int) 128)=UInt8.ofNat (n % 128+128):=by
 rw[lB]
 have h:∀m:Fin 256,u8 (bits .or .u8 ((UInt8.ofNat m.val).toNat:Int) 128)=UInt8.ofNat (m.val % 128+128):=by decide +kernel
 have:=h ⟨n % 256,Nat.mod_lt _ (by decide)⟩
 dsimp only at this
 rw[Nat.mod_mod_of_dvd n (by decide:128 ∣ 256)]at this
 rw[← this]
 congr 4
 apply UInt8.toNat_inj.1
 simp
theorem DE (c:UInt8):((u8 (bits .and .u8 (c.toNat:Int) 127)).toNat:Int)=((c.toNat % 128:Nat):Int):=
 DB (p:=fun c=>((u8 (bits .and .u8 (c.toNat:Int) 127)).toNat:Int)=((c.toNat % 128:Nat):Int)) (by decide +kernel) c
theorem o9 (c:UInt8):((u8 (bits .andNot .u8 (c.toNat:Int) 128)).toNat:Int)=((c.toNat % 128:Nat):Int):=
 DB (p:=fun c=>((u8 (bits .andNot .u8 (c.toNat:Int) 128)).toNat:Int)=((c.toNat % 128:Nat):Int)) (by decide +kernel) c
theorem Jf (n:Nat) (h:n<18446744073709551616):bits .and .u64 (n:Int) 127=((n % 128:Nat):Int):=by
 have:=Jd n 127 h (by decide)
 rw[Nat.and_two_pow_sub_one_eq_mod n 7]at this
 exact this
theorem uR {l:List UInt8} (h:l.length≤1099511627776):l.length*1≤140737488355328∧l.length≤140737488355328:=by omega
theorem uS (l:List UInt8) (n:Nat) (hn:n<18446744073709551616) (hl:l.length≤1099511627700):dm l (n:Int)=some (l++bP n):=by
 have hlen:=ib hn
 have hloop:am (fun(s:List UInt8×Int)=>p8 s.1 s.2) Fu (l,(n:Int))=some (l++(bP n).dropLast,(((bP n).getLast (List.ne_nil_of_length_pos (gC n))).toNat:Int)):=by
  refine nq (fun m s r=>∃(a:Nat) (o:List UInt8),s=(o,(a:Int))∧m=(bP a).length∧a<18446744073709551616∧r=(o++(bP a).dropLast,(((bP a).getLast (List.ne_nil_of_length_pos (gC a))).toNat:Int))∧o.length+(bP a).length≤1099511627710) ?_ ⟨n,l,rfl,rfl,hn,rfl,by omega⟩ (by omega)
  rintro m s r ⟨a,o,rfl,rfl,ha,rfl,hb⟩
  by_cases h:a<128
  ·refine .inr ?_
   have hd:¬((127:Int)<(a:Int)):=by omega
   simp only[p8,aw hd,d3,o8 h,List.getLast_singleton,List.dropLast_singleton,List.append_nil]
   congr 3
   simp;omega
  ·refine .inl ⟨(o++[UInt8.ofNat (a % 128+128)],((a / 128:Nat):Int)),(bP (a / 128)).length,?_,by rw[jV h];simp,a / 128,_,rfl,rfl,by omega,?_,?_⟩
   ·have hd:((127:Int)<(a:Int)):=by omega
    have hp:=gC (a / 128)
    rw[jV h]at hb
    simp only[List.length_cons]at hb
    simp only[p8,ay hd,eI,Jf a ha,u8_or128,DA,Nat.mod_mod]
    exact yq (uR (by simp;omega)) rfl
   ·have hne:bP (a / 128)≠[]:=List.ne_nil_of_length_pos (gC _)
    simp only[jV h,List.getLast_cons hne,List.dropLast_cons_of_ne_nil hne,List.append_assoc,List.singleton_append]
   ·rw[jV h]at hb;simp only[List.length_cons,List.length_append,List.length_nil]at hb ⊢;omega
 rw[dm,hloop,Option.bind_some,z7]
 have e:u8 (IntKind.u8.wrap ((((bP n).getLast (List.ne_nil_of_length_pos (gC n))).toNat:Nat):Int))=(bP n).getLast (List.ne_nil_of_length_pos (gC n)):=by rw[lB];simp
 dsimp only
 rw[e,List.append_assoc,List.dropLast_concat_getLast]
 exact yq (uR (by simp;omega)) rfl
theorem pb {acc c i:Nat} (ha:acc<2 ^ (7*i)) (hi:i≤9) (hc:c<128) (h9:i=9→c≤1) :
  bits .or .u64 (acc:Int) (IntKind.u64.wrap ((c:Int)*2 ^ (min (7*i) (IntKind.bits .u64))))=((acc+c*2 ^ (7*i):Nat):Int)∧acc+c*2 ^ (7*i)<2 ^ (7*(i+1))∧acc+c*2 ^ (7*i)<18446744073709551616:=by
 have e:min (7*i) (IntKind.bits .u64)=7*i:=by simp[IntKind.bits];omega
 have h1:c*2 ^ (7*i)<18446744073709551616:=by
  by_cases e9:i=9
  ·subst e9;have:=h9 rfl;omega
  ·have:2 ^ (7*i)≤2 ^ 56:=Nat.pow_le_pow_right (by decide) (by omega)
   have:c*2 ^ (7*i)≤127*2 ^ 56:=Nat.mul_le_mul (by omega) this
   omega
 have h2:acc<18446744073709551616:=Nat.lt_of_lt_of_le ha (Nat.le_trans (Nat.pow_le_pow_right (by decide) (by omega:7*i≤63)) (by decide))
 have hor:acc ||| c*2 ^ (7*i)=acc+c*2 ^ (7*i):=by
  rw[Nat.or_comm,Nat.mul_comm c,← Nat.two_pow_add_eq_or_of_lt ha,Nat.add_comm]
 have h3:acc+c*2 ^ (7*i)<2 ^ (7*(i+1)):=by
  rw[show 7*(i+1)=7+7*i by omega,Nat.pow_add]
  have:c*2 ^ (7*i)+2 ^ (7*i)≤2 ^ 7*2 ^ (7*i):=by rw[← Nat.succ_mul];exact Nat.mul_le_mul_right _ (by omega)
  omega
 refine⟨?_,h3,?_⟩
 ·rw[e,show((c:Int)*2 ^ (7*i))=((c*2 ^ (7*i):Nat):Int) by push_cast;rfl,jT _ h1,Jc _ _ h2 h1,hor]
 ·rw[← hor];exact Nat.or_lt_two_pow (n:=64) h2 h1
def i6 (i acc:Nat) (l:List UInt8):Int×Int×Bool:=match d4 i l with | none=>(0,0,false) | some (n,k)=>(((acc+n*2 ^ (7*i):Nat):Int),((i+k:Nat):Int),true)
theorem Jg {i acc:Nat} {c:UInt8} {r:List UInt8} (hi:i<10) (hc:128≤c.toNat):i6 i acc (c :: r)=i6 (i+1) (acc+c.toNat % 128*2 ^ (7*i)) r:=by
 simp only[i6,d4,if_neg (by omega:¬10≤i),if_pos hc]
 cases d4 (i+1) r with
 | none=>rfl
 | some p=>
  obtain⟨n,k⟩:=p
  simp only[Option.map_some]
  have e1:acc+(c.toNat % 128+128*n)*2 ^ (7*i)=acc+c.toNat % 128*2 ^ (7*i)+n*2 ^ (7*(i+1)):=by
   rw[show 7*(i+1)=7+7*i by omega,Nat.pow_add,Nat.add_mul,show 128*n*2 ^ (7*i)=n*(2 ^ 7*2 ^ (7*i)) by rw[Nat.mul_comm 128 n,Nat.mul_assoc],Nat.add_assoc]
  rw[e1,show i+(k+1)=i+1+k by omega]
theorem DF {body:Int×Int→Option ((Int×Int)⊕(Int×Int×Bool))} (l:List UInt8)
  (hend:∀(acc i:Nat),(l.length≤i∨10≤i)→body ((acc:Int),(i:Int))=some (.inr (0,0,false)))
  (hmore:∀(acc i:Nat) (c:UInt8) (r:List UInt8),acc<2 ^ (7*i)→i<9→i<l.length→l[i]? = some c→l.drop i=c :: r→128≤c.toNat→body ((acc:Int),(i:Int))=some (.inl (((acc+c.toNat % 128*2 ^ (7*i):Nat):Int),((i+1:Nat):Int))))
  (hmore9:∀(acc:Nat) (c:UInt8),acc<2 ^ 63→l[9]? = some c→128≤c.toNat→body ((acc:Int),((9:Nat):Int))=some (.inr (0,0,false))∨∃a':Nat,a'<2 ^ 70∧body ((acc:Int),((9:Nat):Int))=some (.inl ((a':Int),((10:Nat):Int))))
  (hlast:∀(acc i:Nat) (c:UInt8) (r:List UInt8),acc<2 ^ (7*i)→i<10→i<l.length→l[i]? = some c→l.drop i=c :: r→c.toNat<128→body ((acc:Int),(i:Int))=some (.inr (i6 i acc (c :: r)))):am body Fu (0,0)=some (i4 (i5 l)):=by
 have hg:i4 (i5 l)=i6 0 0 (l.drop 0):=by
  simp only[List.drop_zero,i4,i5,i6]
  cases d4 0 l with
  | none=>rfl
  | some p=>obtain⟨n,k⟩:=p;simp
 rw[hg]
 refine nq (fun m s r=>∃(acc i:Nat),s=((acc:Int),(i:Int))∧m=11-i∧i≤10∧acc<2 ^ (7*i)∧r=i6 i acc (l.drop i)) ?_ ⟨0,0,rfl,rfl,by omega,by simp,rfl⟩ (by omega)
 rintro m s r ⟨acc,i,rfl,rfl,hi,ha,rfl⟩
 by_cases h1:l.length≤i∨10≤i
 ·refine .inr ((hend acc i h1).trans ?_)
  have:d4 i (l.drop i)=none:=by
   cases hd:l.drop i with
   | nil=>rfl
   | cons c r=>
    have:i<l.length:=by have:=congrArg List.length hd;simp at this;omega
    simp[d4,show 10≤i by omega]
  simp[i6,this]
 ·have hlt:i<l.length:=by omega
  have hdr:l.drop i=l[i] :: l.drop (i+1):=List.drop_eq_getElem_cons hlt
  have hget:l[i]? = some l[i]:=List.getElem?_eq_getElem hlt
  by_cases hc:128≤l[i].toNat
  ·by_cases h9:i=9
   ·subst h9
    have n9:d4 9 (l.drop 9)=none:=by
     rw[hdr]
     simp only[d4,if_pos hc]
     cases hd:l.drop 10 with
     | nil=>rfl
     | cons d r=>simp[d4]
    have n10:d4 10 (l.drop 10)=none:=by
     cases hd:l.drop 10 with
     | nil=>rfl
     | cons d r=>simp[d4]
    rcases hmore9 acc _ ha hget hc with h | ⟨a',h1,h2⟩
    ·exact .inr (h.trans (by simp[i6,n9]))
    ·exact .inl ⟨_,1,h2,by omega,a',10,rfl,rfl,by omega,by omega,by simp[i6,n9,n10]⟩
   ·refine .inl ⟨_,11-(i+1),hmore acc i _ _ ha (by omega) hlt hget hdr hc,by omega,acc+l[i].toNat % 128*2 ^ (7*i),i+1,rfl,rfl,by omega,(pb ha (by omega) (Nat.mod_lt _ (by decide)) (by omega)).2.1,?_⟩
    rw[hdr,Jg (by omega) hc]
  ·refine .inr ((hlast acc i _ _ ha (by omega) hlt hget hdr (by omega)).trans ?_)
   rw[hdr]
theorem rO {i:Nat} (h:i<10):IntKind.i64.wrap (7*(i:Int))=((7*i:Nat):Int)∧IntKind.u64.wrap ((7*i:Nat):Int)=((7*i:Nat):Int)∧IntKind.i64.wrap ((i:Int)+1)=((i+1:Nat):Int):=by
 refine⟨?_,jT _ (by omega),?_⟩
 ·rw[dz (by omega) (by omega)];push_cast;rfl
 ·rw[dz (by omega) (by omega)];push_cast;rfl
theorem DG {i acc:Nat} {c:UInt8} {r:List UInt8} (hi:i<10) (hc:c.toNat<128):i6 i acc (c :: r)=if(i=9∧1<c.toNat)∨(c.toNat=0∧0<i)then(0,0,false)else(((acc+c.toNat*2 ^ (7*i):Nat):Int),((i+1:Nat):Int),true):=by
 simp only[i6,d4,if_neg (by omega:¬10≤i),if_neg (by omega:¬128≤c.toNat)]
 by_cases h:(i=9∧1<c.toNat)∨(c.toNat=0∧0<i)
 ·simp only[if_pos h]
 ·simp only[if_neg h]
theorem rQ {n:Nat} (h:n<128):IntKind.u64.wrap (n:Int)=(n:Int):=jT _ (by omega)
theorem uT (l:List UInt8) (hl:l.length≤9223372036854775807):wl l=some (i4 (i5 l)):=by
 refine DF l ?_ ?_ ?_ ?_
 ·intro acc i h
  rcases h with h | h
  ·simp only[ka,aw (by omega:¬((i:Int)<(l.length:Int))),Bool.false_eq_true,if_false,Option.bind_some,Sum.elim_inr]
  ·by_cases h2:(i:Int)<(l.length:Int)
   ·simp only[ka,ay h2,if_true,aw (by omega:¬((i:Int)<10)),Bool.false_eq_true,if_false,Option.bind_some,Sum.elim_inr]
   ·simp only[ka,aw h2,Bool.false_eq_true,if_false,Option.bind_some,Sum.elim_inr]
 ·intro acc i c r ha hi hlt hget hdr hc
  obtain⟨s1,s2,s3⟩:=rO (by omega:i<10)
  have hm:c.toNat % 128<128:=Nat.mod_lt _ (by decide)
  have hw:=rQ hm
  have ho:=(pb ha (by omega) hm (by omega)).1
  have e:((i:Int) == 9)=false:=by simp only[beq_eq_false_iff_ne];omega
  have z:(((c.toNat:Nat):Int) == 0)=false:=by simp only[beq_eq_false_iff_ne];omega
  simp only[ka,ay (by omega:(i:Int)<(l.length:Int)),if_true,ay (by omega:(i:Int)<10),Option.bind_some,Sum.elim_inl,n4,aD (by omega:(0:Int)≤(i:Int)),Int.toNat_natCast,hget,o9,hw,e,Bool.false_eq_true,if_false,
   lN,s1,aD (by omega:¬((7*i:Nat):Int)<0),z,pV,aw (by omega:¬((c.toNat:Int)<128)),ho,s3]
 ·intro acc c ha hget hc
  obtain⟨s1,s2,s3⟩:=rO (by omega:9<10)
  have hm:c.toNat % 128<128:=Nat.mod_lt _ (by decide)
  have hw:=rQ hm
  have hlt:9<l.length:=(List.getElem?_eq_some_iff.1 hget).1
  have e9:(((9:Nat):Int) == 9)=true:=rfl
  by_cases h9:1<c.toNat % 128
  ·refine .inl ?_
   simp only[ka,ay (by omega:((9:Nat):Int)<(l.length:Int)),if_true,ay (by omega:((9:Nat):Int)<10),Option.bind_some,Sum.elim_inl,n4,aD (by omega:(0:Int)≤((9:Nat):Int)),Int.toNat_natCast,hget,o9,hw,e9,ay (by omega:(1:Int)<((c.toNat % 128:Nat):Int))]
   rfl
  ·have ho:=pb ha (by omega:9≤9) hm (by omega)
   refine .inr ⟨_,ho.2.1,?_⟩
   have z:(((c.toNat:Nat):Int) == 0)=false:=by simp only[beq_eq_false_iff_ne];omega
   simp only[ka,ay (by omega:((9:Nat):Int)<(l.length:Int)),if_true,ay (by omega:((9:Nat):Int)<10),Option.bind_some,Sum.elim_inl,n4,aD (by omega:(0:Int)≤((9:Nat):Int)),Int.toNat_natCast,hget,o9,hw,e9,aw (by omega:¬(1:Int)<((c.toNat % 128:Nat):Int)),Bool.false_eq_true,if_false,
    lN,s1,aD (by omega:¬((7*9:Nat):Int)<0),z,pV,aw (by omega:¬((c.toNat:Int)<128)),ho.1,s3]
 ·intro acc i c r ha hi hlt hget hdr hc
  obtain⟨s1,s2,s3⟩:=rO hi
  have hm:c.toNat % 128=c.toNat:=Nat.mod_eq_of_lt hc
  have hw:=rQ hc
  rw[DG hi hc]
  by_cases h9:i=9∧1<c.toNat
  ·rw[if_pos (Or.inl h9)]
   obtain⟨e,h9'⟩:=h9
   subst e
   have e9:(((9:Nat):Int) == 9)=true:=rfl
   simp only[ka,ay (by omega:((9:Nat):Int)<(l.length:Int)),if_true,ay (by omega:((9:Nat):Int)<10),Option.bind_some,Sum.elim_inl,n4,aD (by omega:(0:Int)≤((9:Nat):Int)),Int.toNat_natCast,hget,o9,hm,hw,e9,ay (by omega:(1:Int)<((c.toNat:Nat):Int)),Sum.elim_inr]
  ·have e1:Option.bind (if((i:Int) == 9)=true then(if(decide ((1:Int)<((c.toNat:Nat):Int)))=true then(some (Sum.inr (Sum.inr (0,0,false))))else(some (Sum.inl ())))else(some (Sum.inl ()))) (Sum.elim (fun(s:Unit)=>lN l (acc:Int) (i:Int) c) some)=lN l (acc:Int) (i:Int) c:=by
    by_cases e:(i:Int)=9
    ·simp only[e,beq_self_eq_true,if_true,aw (by omega:¬((1:Int)<((c.toNat:Nat):Int))),Bool.false_eq_true,if_false];rfl
    ·rw[dD (by simpa using e)];rfl
   have ho:=(pb ha (by omega) hc (by omega)).1
   have e2:lN l (acc:Int) (i:Int) c=some (.inr (if(i=9∧1<c.toNat)∨(c.toNat=0∧0<i)then(0,0,false)else(((acc+c.toNat*2 ^ (7*i):Nat):Int),((i+1:Nat):Int),true))):=by
    by_cases hz:c.toNat=0∧0<i
    ·rw[if_pos (Or.inr hz)]
     simp only[lN,s1,aD (by omega:¬((7*i:Nat):Int)<0),aD (by omega:(0:Int)≤(i:Int)),Int.toNat_natCast,hget,hz.1,ay (by omega:(0:Int)<(i:Int)),Int.ofNat_zero,beq_self_eq_true,if_true,Option.bind_some,pV]
    ·have hz2:¬((i=9∧1<c.toNat)∨(c.toNat=0∧0<i)):=by omega
     rw[if_neg hz2]
     have e3:(if(((c.toNat:Nat):Int) == 0)=true then(some (decide ((0:Int)<(i:Int))))else(some false))=some false:=by
      by_cases hz0:c.toNat=0
      ·have:i=0:=by omega
       subst this
       simp[hz0]
      ·rw[dD (by simp only[beq_eq_false_iff_ne];omega)]
     simp only[lN,s1,aD (by omega:¬((7*i:Nat):Int)<0),aD (by omega:(0:Int)≤(i:Int)),Int.toNat_natCast,hget,Option.bind_some,e3,pV,Bool.false_eq_true,if_false,o9,hm,hw,ay (by omega:((c.toNat:Int)<128)),if_true,ho,s3]
   simp only[ka,ay (by omega:(i:Int)<(l.length:Int)),if_true,ay (by omega:(i:Int)<10),Option.bind_some,Sum.elim_inl,n4,aD (by omega:(0:Int)≤(i:Int)),Int.toNat_natCast,hget,o9,hm,hw]
   rw[e1];exact e2
theorem uU (l:List UInt8) (hl:l.length≤9223372036854775807):sP l=some (i4 (i5 l)):=by
 refine DF l ?_ ?_ ?_ ?_
 ·intro acc i h
  rcases h with h | h
  ·simp only[kU,aw (by omega:¬((i:Int)<(l.length:Int))),Bool.false_eq_true,if_false,Option.bind_some,Sum.elim_inr]
  ·by_cases h2:(i:Int)<(l.length:Int)
   ·simp only[kU,ay h2,if_true,aw (by omega:¬((i:Int)<10)),Bool.false_eq_true,if_false,Option.bind_some,Sum.elim_inr]
   ·simp only[kU,aw h2,Bool.false_eq_true,if_false,Option.bind_some,Sum.elim_inr]
 ·intro acc i c r ha hi hlt hget hdr hc
  obtain⟨s1,s2,s3⟩:=rO (by omega:i<10)
  have hm:c.toNat % 128<128:=Nat.mod_lt _ (by decide)
  have hw:=rQ hm
  have ho:=(pb ha (by omega) hm (by omega)).1
  have e:((i:Int) == 9)=false:=by simp only[beq_eq_false_iff_ne];omega
  simp only[kU,ay (by omega:(i:Int)<(l.length:Int)),if_true,ay (by omega:(i:Int)<10),Option.bind_some,Sum.elim_inl,pY,e,Bool.false_eq_true,if_false,n5,aD (by omega:(0:Int)≤(i:Int)),Int.toNat_natCast,hget,s1,s2,
   aD (by omega:¬((7*i:Nat):Int)<0),aw (by omega:¬((c.toNat:Int)<128)),DE,hw,ho,s3]
 ·intro acc c ha hget hc
  have hlt:9<l.length:=(List.getElem?_eq_some_iff.1 hget).1
  have e9:(((9:Nat):Int) == 9)=true:=rfl
  refine .inl ?_
  simp only[kU,ay (by omega:((9:Nat):Int)<(l.length:Int)),if_true,ay (by omega:((9:Nat):Int)<10),Option.bind_some,Sum.elim_inl,pY,aD (by omega:(0:Int)≤((9:Nat):Int)),Int.toNat_natCast,hget,e9,ay (by omega:(1:Int)<((c.toNat:Nat):Int))]
  rfl
 ·intro acc i c r ha hi hlt hget hdr hc
  obtain⟨s1,s2,s3⟩:=rO hi
  have hm:c.toNat % 128=c.toNat:=Nat.mod_eq_of_lt hc
  have hw:=rQ hc
  rw[DG hi hc]
  by_cases h9:i=9∧1<c.toNat
  ·rw[if_pos (Or.inl h9)]
   obtain⟨e,h9'⟩:=h9
   subst e
   have e9:(((9:Nat):Int) == 9)=true:=rfl
   simp only[kU,ay (by omega:((9:Nat):Int)<(l.length:Int)),if_true,ay (by omega:((9:Nat):Int)<10),Option.bind_some,Sum.elim_inl,pY,aD (by omega:(0:Int)≤((9:Nat):Int)),Int.toNat_natCast,hget,e9,ay (by omega:(1:Int)<((c.toNat:Nat):Int))]
   rfl
  ·have ho:=(pb ha (by omega) hc (by omega)).1
   have e1:Option.bind (if((i:Int) == 9)=true then(if(decide ((1:Int)<((c.toNat:Nat):Int)))=true then(some (Sum.inr (Sum.inr (0,0,false))))else(some (Sum.inl ())))else(some (Sum.inl ()))) (Sum.elim (fun(s:Unit)=>n5 l (acc:Int) (i:Int)) some)=n5 l (acc:Int) (i:Int):=by
    by_cases e:(i:Int)=9
    ·simp only[e,beq_self_eq_true,if_true,aw (by omega:¬((1:Int)<((c.toNat:Nat):Int))),Bool.false_eq_true,if_false];rfl
    ·rw[dD (by simpa using e)];rfl
   have e3:sO (acc:Int) (i:Int) c=some (.inr (((acc+c.toNat*2 ^ (7*i):Nat):Int),((i+1:Nat):Int),true)):=by
    simp only[sO,s1,s2,DE,hm,hw,Int.toNat_natCast,ho,s3]
   have e2:n5 l (acc:Int) (i:Int)=some (.inr (if(i=9∧1<c.toNat)∨(c.toNat=0∧0<i)then(0,0,false)else(((acc+c.toNat*2 ^ (7*i):Nat):Int),((i+1:Nat):Int),true))):=by
    simp only[n5,s1,s2,aD (by omega:¬((7*i:Nat):Int)<0),aD (by omega:(0:Int)≤(i:Int)),Int.toNat_natCast,hget,Option.bind_some,ay (by omega:((c.toNat:Int)<128)),if_true,e3]
    by_cases hz:c.toNat=0∧0<i
    ·rw[if_pos (Or.inr hz)]
     simp only[ay (by omega:(0:Int)<(i:Int)),hz.1,Int.ofNat_zero,beq_self_eq_true,if_true,Option.bind_some,Sum.elim_inr]
    ·have hz2:¬((i=9∧1<c.toNat)∨(c.toNat=0∧0<i)):=by omega
     rw[if_neg hz2]
     by_cases hz0:c.toNat=0
     ·simp only[aw (by omega:¬(0:Int)<(i:Int)),Bool.false_eq_true,if_false,Option.bind_some,Sum.elim_inl]
     ·have z:(((c.toNat:Nat):Int) == 0)=false:=by simp only[beq_eq_false_iff_ne];omega
      by_cases hi0:(0:Int)<(i:Int)
      ·simp only[ay hi0,if_true,z,Bool.false_eq_true,if_false,Option.bind_some,Sum.elim_inl]
      ·simp only[aw hi0,Bool.false_eq_true,if_false,Option.bind_some,Sum.elim_inl]
   simp only[kU,ay (by omega:(i:Int)<(l.length:Int)),if_true,ay (by omega:(i:Int)<10),Option.bind_some,Sum.elim_inl,pY,aD (by omega:(0:Int)≤(i:Int)),Int.toNat_natCast,hget]
   rw[e1];exact e2
theorem uV {n:Nat} (h:n<256):(UInt8.ofNat n).toNat=n:=by simp;omega
theorem DH (more:List UInt8):∀(m n i:Nat),n<2 ^ m→n<2 ^ (64-7*i)→i≤9→(n≠0∨i=0)→d4 i (bP n++more)=some (n,(bP n).length)
 | m,n,i,hm,h,hi,h0=>by
  by_cases hn:n<128
  ·rw[o8 hn]
   have h9:i=9→n≤1:=fun e=>by subst e;omega
   simp only[List.singleton_append,d4,uV (by omega:n<256),if_neg (by omega:¬10≤i),if_neg (by omega:¬128≤n),List.length_singleton]
   rw[if_neg (by omega)]
  ·match m,hm with
   | 0,hm=>simp at hm;omega
   | m+1,hm=>
    have hi8:i≤8:=by
     by_cases e:i=9
     ·subst e;omega
     ·omega
    have h2:n / 128<2 ^ (64-7*(i+1)):=by
     rw[Nat.div_lt_iff_lt_mul (by decide),show(128:Nat)=2 ^ 7 from rfl,← Nat.pow_add,show 64-7*(i+1)+7=64-7*i by omega];exact h
    have:=DH more m (n / 128) (i+1) (by rw[Nat.pow_succ]at hm;omega) h2 (by omega) (.inl (by omega))
    rw[jV hn,List.cons_append]
    simp only[d4,uV (by omega:n % 128+128<256),if_neg (by omega:¬10≤i),if_pos (by omega:128≤n % 128+128),this,Option.map_some,List.length_cons]
    congr 2
    omega
theorem DI {n:Nat} (h:n<18446744073709551616) (more:List UInt8):i5 (bP n++more)=some (n,(bP n).length):=DH more 64 n 0 h h (by omega) (.inr rfl)
end Go.Proofs.YtjklegmimpehlaaGreat.Ab
namespace Go.Proofs.YtjklegmimpehlaaGreat.Ab
open Go Go.RowKit
set_option linter.unusedVariables false
set_option linter.unusedSimpArgs false
def ic (l:List UInt8):Option (ByteArray×Nat):=match i5 l with
 | none=>none
 | some (n,k)=>if l.length-k<n then none else some (aa ((l.drop k).take n),k+n)
def nr (o:Option (ByteArray×Nat)):ByteArray×Int×Bool:=match o with | none=>(aa [],0,false) | some (s,k)=>(s,(k:Int),true)
theorem Jh {f:List UInt8→Option (Int×Int×Bool)} {k0:List UInt8→Int×Int×Bool→Option (ByteArray×Int×Bool)} (l:List UInt8) (hl:l.length≤1099511627776) (hf:f l=some (i4 (i5 l)))
  (hk:∀n k:Nat,k≤l.length→n≤l.length-k→k0 l ((n:Int),(k:Int),true)=some (aa ((l.drop k).take n),((k+n:Nat):Int),true)) :
  Option.bind (f l) (fun(x3:Int×Int×Bool)=>Option.bind (if(!x3.2.2)=true then(some (Sum.inr ((aa []),0,false)))else(if(decide ((IntKind.u64.wrap (IntKind.i64.wrap ((List.length l:Int)-x3.2.1)))<x3.1))=true then(some (Sum.inr ((aa []),0,false)))else(some (Sum.inl ())))) (Sum.elim (fun(s:Unit)=>k0 l x3) some))=some (nr (ic l)):=by
 rw[hf]
 cases h:i5 l with
 | none=>simp[i4,ic,h,nr]
 | some p=>
  obtain⟨n,k⟩:=p
  obtain⟨h1,h2⟩:=ms _ _ _ _ h
  have hw:IntKind.u64.wrap (IntKind.i64.wrap ((l.length:Int)-(k:Int)))=((l.length-k:Nat):Int):=by
   rw[dz (by omega) (by omega),show((l.length:Int)-(k:Int))=((l.length-k:Nat):Int) by omega,jT _ (by omega)]
  simp only[i4,Option.bind_some,Bool.not_true,Bool.false_eq_true,if_false,hw,ic,h]
  by_cases hn:l.length-k<n
  ·simp only[ay (by omega:((l.length-k:Nat):Int)<(n:Int)),if_true,Option.bind_some,Sum.elim_inr,if_pos hn,nr]
  ·simp only[aw (by omega:¬((l.length-k:Nat):Int)<(n:Int)),Bool.false_eq_true,if_false,Option.bind_some,Sum.elim_inl,if_neg hn,nr]
   exact hk n k h2 (by omega)
theorem Ji {l:List UInt8} (hl:l.length≤1099511627776) {n k:Nat} (h1:k≤l.length) (h2:n≤l.length-k) :
  gd (0≤(k:Int)) (gd ((k:Int)≤(IntKind.i64.wrap ((k:Int)+(IntKind.i64.wrap (n:Int))))) (gd ((IntKind.i64.wrap ((k:Int)+(IntKind.i64.wrap (n:Int))))≤(List.length l:Int)) (some ((aa (List.drop (Int.toNat (k:Int)) (List.take (Int.toNat (IntKind.i64.wrap ((k:Int)+(IntKind.i64.wrap (n:Int))))) l))),(IntKind.i64.wrap ((k:Int)+(IntKind.i64.wrap (n:Int)))),true))))
   = some (aa ((l.drop k).take n),((k+n:Nat):Int),true):=by
 have hw:IntKind.i64.wrap (n:Int)=(n:Int):=dz (by omega) (by omega)
 have hw2:IntKind.i64.wrap ((k:Int)+(n:Int))=((k+n:Nat):Int):=by rw[dz (by omega) (by omega)];push_cast;rfl
 rw[hw,hw2,aD (by omega),aD (by omega),aD (by omega),Int.toNat_natCast,Int.toNat_natCast,List.drop_take,Nat.add_sub_cancel_left]
theorem yr (l:List UInt8) (hl:l.length≤1099511627776):Ag l=some (nr (ic l)):=
 Jh l hl (uU l (by omega)) fun n k h1 h2=>Ji hl h1 h2
def co (s:ByteArray):List UInt8:=bP s.size++eG s
theorem ns (l:List UInt8) (s:ByteArray) (hl:l.length≤549755813888) (hs:s.size≤274877906944):ga l s=some (l++co s):=by
 have hw:IntKind.u64.wrap (s.size:Int)=(s.size:Int):=jT _ (by omega)
 have hp:=ib (n:=s.size) (by omega)
 rw[ga,hw,uS l s.size (by omega) (by omega),Option.bind_some,aD (by simp[iX];omega),List.append_assoc,co]
end Go.Proofs.YtjklegmimpehlaaGreat.Ab
namespace Go.Proofs.YtjklegmimpehlaaGreat.Ab
open Go Go.RowKit
set_option linter.unusedVariables false
set_option linter.unusedSimpArgs false
theorem kI:Fu=1208925819614629174706175+1:=rfl
theorem uW {σ ρ:Type} {body:σ→Option (σ⊕ρ)} {s:σ} {r:ρ} (h:body s=some (.inr r)):am body Fu s=some r:=by rw[kI];exact eC h
theorem cw {k:Nat} (h:k<1099511627776):IntKind.i64.wrap ((k:Int)+1)=((k+1:Nat):Int):=by rw[dz (by omega) (by omega)];push_cast;rfl
def cI (n:Int):Prop:=0≤n∧n<18446744073709551616
def bC (l:List Int):List UInt8:=l.flatMap fun n=>bP n.toNat
def dA (l:List ByteArray):List UInt8:=l.flatMap co
theorem ie:∀(l:List Int),(∀n∈l,cI n)→(bC l).length≤10*l.length
 | [],_=>by simp[bC]
 | n :: l,h=>by
  have h1:=h n List.mem_cons_self
  have h2:=ie l fun m hm=>h m (List.mem_cons_of_mem _ hm)
  have h3:=ib (n:=n.toNat) (by have:=h1.2;have:=h1.1;omega)
  simp only[bC,List.flatMap_cons,List.length_append,List.length_cons]at h2 ⊢;omega
theorem jW (s:ByteArray) (h:s.size<18446744073709551616):(co s).length≤s.size+10:=by
 have:=ib (n:=s.size) h
 simp[co,iX];omega
theorem uX:∀(l:List ByteArray) (m:Nat),m<18446744073709551616→(∀s∈l,s.size≤m)→(dA l).length≤(m+10)*l.length
 | [],m,_,_=>by simp[dA]
 | s :: l,m,hm,h=>by
  have h2:=uX l m hm fun m hm=>h m (List.mem_cons_of_mem _ hm)
  have h4:=h s List.mem_cons_self
  have h3:=jW s (by omega)
  simp only[dA,List.flatMap_cons,List.length_append,List.length_cons,Nat.mul_add]at h2 ⊢;omega
theorem DJ (a b:List Int):bC (a++b)=bC a++bC b:=by simp[bC]
theorem Jj (a b:List ByteArray):dA (a++b)=dA a++dA b:=by simp[dA]
theorem Jk (l:List UInt8) (n:Nat) (hn:n<18446744073709551616) (hl:l.length≤1099511627700):am (fun(s:List UInt8×Int)=>p9 s.1 s.2) Fu (l,(n:Int))=some (l++(bP n).dropLast,(((bP n).getLast (List.ne_nil_of_length_pos (gC n))).toNat:Int)):=by
 have hlen:=ib hn
 refine nq (fun m s r=>∃(a:Nat) (o:List UInt8),s=(o,(a:Int))∧m=(bP a).length∧a<18446744073709551616∧r=(o++(bP a).dropLast,(((bP a).getLast (List.ne_nil_of_length_pos (gC a))).toNat:Int))∧o.length+(bP a).length≤1099511627710) ?_ ⟨n,l,rfl,rfl,hn,rfl,by omega⟩ (by omega)
 rintro m s r ⟨a,o,rfl,rfl,ha,rfl,hb⟩
 by_cases h:a<128
 ·refine .inr ?_
  have hd:¬((128:Int)≤(a:Int)):=by omega
  simp only[p9,aw hd,d3,o8 h,List.getLast_singleton,List.dropLast_singleton,List.append_nil]
  congr 3
  simp;omega
 ·refine .inl ⟨(o++[UInt8.ofNat (a % 128+128)],((a / 128:Nat):Int)),(bP (a / 128)).length,?_,by rw[jV h];simp,a / 128,_,rfl,rfl,by omega,?_,?_⟩
  ·have hd:((128:Int)≤(a:Int)):=by omega
   have hp:=gC (a / 128)
   rw[jV h]at hb
   simp only[List.length_cons]at hb
   simp only[p9,ay hd,eI,u8_or128,DA]
   exact yq (uR (by simp;omega)) rfl
  ·have hne:bP (a / 128)≠[]:=List.ne_nil_of_length_pos (gC _)
   simp only[jV h,List.getLast_cons hne,List.dropLast_cons_of_ne_nil hne,List.append_assoc,List.singleton_append]
  ·rw[jV h]at hb;simp only[List.length_cons,List.length_append,List.length_nil]at hb ⊢;omega
theorem rR (w:aE) (l:List Int) (hu:∀n∈l,cI n) (hl:w.B.length+10*l.length≤1099511627000):mN w l=some ⟨w.B++bC l⟩:=by
 refine fd (l:=l) (fun k r s=>s=(w.B++bC (l.take k),(k:Int))∧r=⟨w.B++bC l⟩) (by omega) ?_ ?_ ⟨by simp[bC],rfl⟩
 ·rintro k hk r s ⟨rfl,rfl⟩
  obtain⟨h0,h1⟩:=hu l[k] (List.getElem_mem hk)
  obtain⟨m,hm⟩:=Int.eq_ofNat_of_zero_le h0
  have hm2:m<18446744073709551616:=by omega
  have hle:=ie (l.take k) fun y hy=>hu y (List.mem_of_mem_take hy)
  have hle2:(l.take k).length≤l.length:=by simp;omega
  have hp:=ib hm2
  refine .inl ⟨(w.B++bC (l.take (k+1)),((k+1:Nat):Int)),?_,rfl,rfl⟩
  simp only[sR,ay (by omega:(k:Int)<(l.length:Int)),if_true,aD (by omega:(0:Int)≤(k:Int)),Int.toNat_natCast,List.getElem?_eq_getElem hk,Option.bind_some,hm]
  rw[Jk _ m hm2 (by simp only[List.length_append];omega),Option.bind_some,z9]
  have e:u8 (IntKind.u8.wrap ((((bP m).getLast (List.ne_nil_of_length_pos (gC m))).toNat:Nat):Int))=(bP m).getLast (List.ne_nil_of_length_pos (gC m)):=by rw[lB];simp
  have hdl:(bP m).dropLast.length≤10:=by rw[List.length_dropLast];omega
  dsimp only
  rw[e,aD (uR (by simp only[List.length_append,List.length_cons,List.length_nil];omega)),cw (by omega),List.append_assoc,List.dropLast_concat_getLast,List.append_assoc,List.take_succ_eq_append_getElem hk,DJ,hm]
  simp[bC]
 ·rintro r s ⟨rfl,rfl⟩
  simp only[sR,aw (by omega:¬(l.length:Int)<(l.length:Int)),Bool.false_eq_true,if_false,List.take_length]
theorem gn (w:aE) (l:List Int) (hu:∀n∈l,0≤n∧n<9223372036854775808) (hl:w.B.length+10*l.length≤1099511627000):em w l=some ⟨w.B++bC l⟩:=by
 refine fd (l:=l) (fun k r s=>s=(w.B++bC (l.take k),(k:Int))∧r=⟨w.B++bC l⟩) (by omega) ?_ ?_ ⟨by simp[bC],rfl⟩
 ·rintro k hk r s ⟨rfl,rfl⟩
  obtain⟨h0,h1⟩:=hu l[k] (List.getElem_mem hk)
  have hle:=ie (l.take k) fun y hy=>⟨(hu y (List.mem_of_mem_take hy)).1,by have:=(hu y (List.mem_of_mem_take hy)).2;omega⟩
  have hle2:(l.take k).length≤k:=by simp;omega
  refine .inl ⟨(w.B++bC (l.take (k+1)),((k+1:Nat):Int)),?_,rfl,rfl⟩
  simp only[sT,ay (by omega:(k:Int)<(l.length:Int)),if_true,aD (by omega:(0:Int)≤(k:Int)),Int.toNat_natCast,List.getElem?_eq_getElem hk,Option.bind_some,fL h0 (by omega)]
  rw[rR _ _ (fun n hn=>by rw[List.mem_singleton.1 hn];exact⟨h0,by omega⟩) (by simp only[List.length_append,List.length_cons,List.length_nil];omega),Option.bind_some,cw (by omega),List.take_succ_eq_append_getElem hk,DJ,List.append_assoc]
 ·rintro r s ⟨rfl,rfl⟩
  simp only[sT,aw (by omega:¬(l.length:Int)<(l.length:Int)),Bool.false_eq_true,if_false,List.take_length]
theorem pe (w:aE) (l:List ByteArray) (m:Nat) (hm:m≤1000000) (hu:∀s∈l,s.size≤m) (hl:w.B.length+(m+10)*l.length≤1099500000000):lQ w l=some ⟨w.B++dA l⟩:=by
 have hll:l.length≤(m+10)*l.length:=Nat.le_mul_of_pos_left _ (by omega)
 refine fd (l:=l) (fun k r s=>s=(w.B++dA (l.take k),(k:Int))∧r=⟨w.B++dA l⟩) (by omega) ?_ ?_ ⟨by simp[dA],rfl⟩
 ·rintro k hk r s ⟨rfl,rfl⟩
  have hs:=hu l[k] (List.getElem_mem hk)
  have hle:=uX (l.take k) m (by omega) fun y hy=>hu y (List.mem_of_mem_take hy)
  have hle2:(m+10)*(l.take k).length≤(m+10)*l.length:=Nat.mul_le_mul_left _ (by simp;omega)
  refine .inl ⟨(w.B++dA (l.take (k+1)),((k+1:Nat):Int)),?_,rfl,rfl⟩
  have hn:bC [((l[k].size:Nat):Int)]=bP l[k].size:=by simp[bC]
  have hp:=ib (n:=l[k].size) (by omega)
  simp only[sU,ay (by omega:(k:Int)<(l.length:Int)),if_true,aD (by omega:(0:Int)≤(k:Int)),Int.toNat_natCast,List.getElem?_eq_getElem hk,Option.bind_some]
  rw[gn _ _ (fun n hn=>by rw[List.mem_singleton.1 hn];omega) (by simp only[List.length_append,List.length_cons,List.length_nil];omega),Option.bind_some,hn]
  dsimp only
  rw[aD (by simp only[List.length_append,iX];omega),cw (by omega),List.take_succ_eq_append_getElem hk,Jj,List.append_assoc,List.append_assoc]
  simp[dA,co]
 ·rintro r s ⟨rfl,rfl⟩
  simp only[sU,aw (by omega:¬(l.length:Int)<(l.length:Int)),Bool.false_eq_true,if_false,List.take_length]
def df (b:Bool):Int:=if b=true then 1 else 0
theorem yt (w:aE) (b:Bool) (hl:w.B.length≤1099511626000):qb w b=some ⟨w.B++bC [df b]⟩:=by
 have h:qb w b=wm w (df b):=by cases b<;>rfl
 rw[h,wm,gn _ _ (fun n hn=>by rw[List.mem_singleton.1 hn,df];split<;>omega) (by simp;omega)]
 rfl
def pW (b:List UInt8):Option (Int×List UInt8):=match i5 b with | none=>none | some (n,k)=>some ((n:Int),b.drop k)
def dC (top:Int) (b:List UInt8):Option (Int×List UInt8):=match pW b with | none=>none | some (n,r)=>if top<n then none else some (n,r)
def pT (b:List UInt8):Option (ByteArray×List UInt8):=match ic b with | none=>none | some (s,k)=>some (s,b.drop k)
theorem yu:∀(l:List UInt8) (i n k:Nat),d4 i l=some (n,k)→l.take k=bP n∧(0<i→n≠0)
 | [],i,n,k,h=>by simp[d4]at h
 | c :: r,i,n,k,h=>by
  simp only[d4]at h
  split at h
  ·cases h
  ·split at h
   ·rename_i h1
    rw[Option.map_eq_some_iff]at h
    obtain⟨⟨a,b⟩,h2,h3⟩:=h
    injection h3 with h3 h4
    dsimp only at h3 h4
    obtain⟨h5,h6⟩:=yu r (i+1) a b h2
    have h7:=h6 (by omega)
    have hc:=c.toNat_lt
    have hc2:UInt8.ofNat (n % 128+128)=c:=by
     apply UInt8.toNat_inj.1
     rw[uV (by omega)];omega
    refine⟨?_,fun _=>by omega⟩
    rw[← h4,List.take_succ_cons,h5,jV (n:=n) (by omega),hc2,show n / 128=a by omega]
   ·split at h
    ·cases h
    ·rename_i h1 h2
     injection h with h;injection h with h3 h4;subst h3 h4
     refine⟨?_,fun hi hn=>h2 (.inr ⟨hn,hi⟩)⟩
     rw[o8 (by omega)]
     simp
theorem fe {b r:List UInt8} {n:Int} (h:pW b=some (n,r)):cI n∧b=bP n.toNat++r:=by
 unfold pW at h
 split at h
 ·cases h
 ·rename_i m k hg
  injection h with h;injection h with h1 h2;subst h1 h2
  have h3:=DD b 0 m k (by omega) hg
  refine⟨⟨by omega,by simp at h3;omega⟩,?_⟩
  rw[Int.toNat_natCast,← (yu b 0 m k hg).1,List.take_append_drop]
theorem mu {n:Int} (h:cI n) (r:List UInt8):pW (bP n.toNat++r)=some (n,r):=by
 obtain⟨h0,h1⟩:=h
 unfold pW
 rw[DI (by omega)]
 simp only[List.drop_left]
 congr 2;omega
theorem ed {b r:List UInt8} {n top:Int} (h:dC top b=some (n,r)):cI n∧n≤top∧b=bP n.toNat++r:=by
 unfold dC at h
 split at h
 ·cases h
 ·rename_i m q hg
  split at h
  ·cases h
  ·injection h with h;injection h with h1 h2;subst h1 h2
   have:=fe hg
   exact⟨this.1,by omega,this.2⟩
theorem mw {n top:Int} (h0:0≤n) (h1:n≤top) (ht:top<18446744073709551616) (r:List UInt8):dC top (bP n.toNat++r)=some (n,r):=by
 unfold dC
 rw[mu ⟨h0,by omega⟩]
 simp only[if_neg (by omega:¬top<n)]
theorem DK (l:List UInt8):(aa l).size=l.length:=by rw[← iX,Cr]
theorem Jl {b:List UInt8} {s:ByteArray} {k:Nat} (h:ic b=some (s,k)):k≤b.length∧s.size≤b.length:=by
 unfold ic at h
 split at h
 ·cases h
 ·rename_i n j hg
  split at h
  ·cases h
  ·injection h with h;injection h with h1 h2;subst h1 h2
   have:=ms _ _ _ _ hg
   rw[DK,List.length_take,List.length_drop];omega
theorem eU {b r:List UInt8} {s:ByteArray} (h:pT b=some (s,r)):b=co s++r:=by
 unfold pT at h
 split at h
 ·cases h
 ·rename_i s' k hg
  injection h with h;injection h with h1 h2;subst h1 h2
  unfold ic at hg
  split at hg
  ·cases hg
  ·rename_i n j hg2
   split at hg
   ·cases hg
   ·rename_i hl
    injection hg with hg;injection hg with h1 h2;subst h1 h2
    have h3:=(yu _ _ _ _ hg2).1
    have h4:=ms _ _ _ _ hg2
    have h5:(aa (List.take n (List.drop j b))).size=n:=by rw[DK,List.length_take,List.length_drop];omega
    rw[co,h5,Cr,← h3]
    conv=>lhs;rw[← List.take_append_drop j b,← List.take_append_drop n (b.drop j),List.drop_drop]
    rw[List.append_assoc]
theorem mx (s:ByteArray) (h:s.size<18446744073709551616) (r:List UInt8):pT (co s++r)=some (s,r):=by
 have h1:co s++r=bP s.size++(eG s++r):=by simp[co]
 have h2:ic (co s++r)=some (s,(bP s.size).length+s.size):=by
  simp only[ic,h1,DI h]
  rw[if_neg (by simp[iX])]
  simp only[List.drop_left]
  rw[List.take_append_of_le_length (by simp[iX]),List.take_of_length_le (by simp[iX]),HN]
 simp only[pT,h2]
 rw[h1,← List.drop_drop,List.drop_left,List.drop_append_of_le_length (by simp[iX]),List.drop_of_length_le (by simp[iX]),List.nil_append]
theorem cU {b c r:List UInt8} {m:Nat} (h:b=c++r) (hb:b.length≤m):r.length≤m:=by rw[h]at hb;simp at hb;omega
theorem i7:fF ⟨[],true⟩=some (0,⟨[],true⟩):=by
 simp only[fF,uT [] (by simp),Option.bind_some,if_true,qc,Sum.elim_inr]
theorem my {b:List UInt8} (hl:b.length≤1099511627776) (h:pW b=none):fF ⟨b,false⟩=some (0,⟨[],true⟩):=by
 have hg:i5 b=none:=by
  unfold pW at h;split at h
  ·assumption
  ·cases h
 simp only[fF,uT b (by omega),hg,i4,Option.bind_some,Bool.false_eq_true,if_false,Bool.not_false,qc,if_true,Sum.elim_inr]
theorem cO {b r:List UInt8} {n:Int} (hl:b.length≤1099511627776) (h:pW b=some (n,r)):fF ⟨b,false⟩=some (n,⟨r,false⟩):=by
 unfold pW at h
 split at h
 ·cases h
 ·rename_i m k hg
  injection h with h;injection h with h1 h2;subst h1 h2
  have h4:=ms _ _ _ _ hg
  simp only[fF,uT b (by omega),hg,i4,Option.bind_some,Bool.false_eq_true,if_false,Bool.not_true,qc,Sum.elim_inl,Ac,aD (by omega:(0:Int)≤(k:Int)),aD (by omega:(k:Int)≤(b.length:Int)),Int.toNat_natCast]
theorem dY {top:Int} (ht:0≤top) (h2:top<9223372036854775808):cE ⟨[],true⟩ top=some (0,⟨[],true⟩):=by
 simp only[cE,i7,Option.bind_some,fL ht (by omega),aw (by omega:¬top<0),Bool.false_eq_true,if_false]
 rfl
theorem nt {b:List UInt8} {top:Int} (ht:0≤top) (h2:top<9223372036854775808) (hl:b.length≤1099511627776) (h:dC top b=none):cE ⟨b,false⟩ top=some (0,⟨[],true⟩):=by
 unfold dC at h
 split at h
 ·rename_i hg
  simp only[cE,my hl hg,Option.bind_some,fL ht (by omega),aw (by omega:¬top<0),Bool.false_eq_true,if_false]
  rfl
 ·rename_i n r hg
  split at h
  ·rename_i hn
   simp only[cE,cO hl hg,Option.bind_some,fL ht (by omega),ay hn,if_true]
  ·cases h
theorem gD {b r:List UInt8} {n top:Int} (ht:0≤top) (h2:top<9223372036854775808) (hl:b.length≤1099511627776) (h:dC top b=some (n,r)):cE ⟨b,false⟩ top=some (n,⟨r,false⟩):=by
 have hs:=ed h
 unfold dC at h
 split at h
 ·cases h
 ·rename_i m q hg
  split at h
  ·cases h
  ·rename_i hn
   injection h with h;injection h with e1 e2;subst e1 e2
   simp only[cE,cO hl hg,Option.bind_some,fL ht (by omega),aw hn,Bool.false_eq_true,if_false,dz (by have:=hs.1.1;omega) (by omega:m<9223372036854775808)]
theorem iB:ew ⟨[],true⟩=some (aa [],⟨[],true⟩):=by
 have h0:IntKind.u64.wrap 0=0:=rfl
 have h1:IntKind.i64.wrap 0=0:=rfl
 simp only[ew,dZ,i7,Option.bind_some,List.length_nil,Int.ofNat_zero,Int.natCast_zero,h0,aw (by omega:¬(0:Int)<0),Bool.false_eq_true,if_false,h1,gu,if_true,n7,Sum.elim_inr]
theorem nu {b:List UInt8} (hl:b.length≤1099511627776) (h:pT b=none):ew ⟨b,false⟩=some (aa [],⟨[],true⟩):=by
 have hT:ic b=none:=by
  unfold pT at h;split at h
  ·assumption
  ·cases h
 have h0:IntKind.u64.wrap 0=0:=rfl
 have h1:IntKind.i64.wrap 0=0:=rfl
 have hbad:gu ⟨[],true⟩ 0=some ([],⟨[],true⟩):=by simp only[gu,if_true,Option.bind_some,n7,Sum.elim_inr]
 unfold ic at hT
 split at hT
 ·rename_i hg
  have hp:pW b=none:=by unfold pW;rw[hg]
  simp only[ew,dZ,my hl hp,Option.bind_some,List.length_nil,Int.natCast_zero,h0,aw (by omega:¬(0:Int)<0),Bool.false_eq_true,if_false,h1,hbad]
 ·rename_i n k hg
  split at hT
  ·rename_i hn
   have h4:=ms _ _ _ _ hg
   have hp:pW b=some ((n:Int),b.drop k):=by unfold pW;rw[hg]
   have hc:IntKind.u64.wrap ((List.drop k b).length:Int)=((b.length-k:Nat):Int):=by rw[List.length_drop];exact jT _ (by omega)
   simp only[ew,dZ,cO hl hp,Option.bind_some,hc,ay (by omega:((b.length-k:Nat):Int)<(n:Int)),if_true,hbad]
  ·cases hT
theorem rT {b:List UInt8} {n:Nat} (hn:n≤b.length):gu ⟨b,false⟩ (n:Int)=some (b.take n,⟨b.drop n,false⟩):=by
 simp only[gu,Bool.false_eq_true,if_false,Option.bind_some,aw (by omega:¬(b.length:Int)<(n:Int)),n7,Sum.elim_inl,Ad,aD (by omega:(0:Int)≤(n:Int)),aD (by omega:(n:Int)≤(b.length:Int)),Int.toNat_natCast]
theorem rU {b:List UInt8} {n:Nat} {f:Bool} (hn:f=true∨b.length<n):gu ⟨b,f⟩ (n:Int)=some ([],⟨[],true⟩):=by
 cases f with
 | true=>simp only[gu,if_true,Option.bind_some,n7,Sum.elim_inr]
 | false=>
  have:b.length<n:=by rcases hn with h | h;cases h;exact h
  simp only[gu,Bool.false_eq_true,if_false,Option.bind_some,ay (by omega:(b.length:Int)<(n:Int)),n7,if_true,Sum.elim_inr]
theorem fm {b r:List UInt8} {s:ByteArray} (hl:b.length≤1099511627776) (h:pT b=some (s,r)):ew ⟨b,false⟩=some (s,⟨r,false⟩):=by
 unfold pT at h
 split at h
 ·cases h
 ·rename_i s' k hg
  injection h with h;injection h with h1 h2;subst h1 h2
  unfold ic at hg
  split at hg
  ·cases hg
  ·rename_i n j hg2
   split at hg
   ·cases hg
   ·rename_i hn
    injection hg with hg;injection hg with h1 h2;subst h1 h2
    have h4:=ms _ _ _ _ hg2
    have hp:pW b=some ((n:Int),b.drop j):=by unfold pW;rw[hg2]
    have hc:IntKind.u64.wrap ((List.drop j b).length:Int)=((b.length-j:Nat):Int):=by rw[List.length_drop];exact jT _ (by omega)
    simp only[ew,dZ,cO hl hp,Option.bind_some,hc,aw (by omega:¬((b.length-j:Nat):Int)<(n:Int)),Bool.false_eq_true,if_false,dz (by omega) (by omega:(n:Int)<9223372036854775808)]
    rw[rT (by rw[List.length_drop];omega),Option.bind_some]
    simp only[List.drop_drop]
theorem lC:ji ⟨[],true⟩=some (false,⟨[],true⟩):=by
 rw[ji,dY (by omega) (by omega)];rfl
theorem Jm {b:List UInt8} (hl:b.length≤1099511627776) (h:dC 1 b=none):ji ⟨b,false⟩=some (false,⟨[],true⟩):=by
 rw[ji,nt (by omega) (by omega) hl h];rfl
theorem yv {b r:List UInt8} {n:Int} (hl:b.length≤1099511627776) (h:dC 1 b=some (n,r)):ji ⟨b,false⟩=some (n == 1,⟨r,false⟩):=by
 rw[ji,gD (by omega) (by omega) hl h];rfl
theorem lD {b:List UInt8} (hl:b.length≤1099511627776):eM ⟨b,true⟩=some (0,⟨b,true⟩):=by
 simp only[eM,uU b (by omega),Option.bind_some,if_true,sW,Sum.elim_inr]
theorem pf {b:List UInt8} (hl:b.length≤1099511627776) (h:pW b=none):eM ⟨b,false⟩=some (0,⟨b,true⟩):=by
 have hg:i5 b=none:=by
  unfold pW at h;split at h
  ·assumption
  ·cases h
 simp only[eM,uU b (by omega),hg,i4,Option.bind_some,Bool.false_eq_true,if_false,Bool.not_false,sW,if_true,Sum.elim_inr]
theorem cV {b r:List UInt8} {n:Int} (hl:b.length≤1099511627776) (h:pW b=some (n,r)):eM ⟨b,false⟩=some (n,⟨r,false⟩):=by
 unfold pW at h
 split at h
 ·cases h
 ·rename_i m k hg
  injection h with h;injection h with h1 h2;subst h1 h2
  have h4:=ms _ _ _ _ hg
  simp only[eM,uU b (by omega),hg,i4,Option.bind_some,Bool.false_eq_true,if_false,Bool.not_true,sW,Sum.elim_inl,Ai,aD (by omega:(0:Int)≤(k:Int)),aD (by omega:(k:Int)≤(b.length:Int)),Int.toNat_natCast]
theorem dx {b:List UInt8} {top:Int} (ht:0≤top) (h2:top<9223372036854775808) (hl:b.length≤1099511627776):bR ⟨b,true⟩ top=some (0,⟨b,true⟩):=by
 simp only[bR,lD hl,Option.bind_some,fL ht (by omega),aw (by omega:¬top<0),Bool.false_eq_true,if_false]
 rfl
theorem nv {b:List UInt8} {top:Int} (ht:0≤top) (h2:top<9223372036854775808) (hl:b.length≤1099511627776) (h:dC top b=none):∃r,r.length≤b.length∧bR ⟨b,false⟩ top=some (0,⟨r,true⟩):=by
 unfold dC at h
 split at h
 ·rename_i hg
  refine⟨b,Nat.le_refl _,?_⟩
  simp only[bR,pf hl hg,Option.bind_some,fL ht (by omega),aw (by omega:¬top<0),Bool.false_eq_true,if_false]
  rfl
 ·rename_i n r hg
  have hs:=fe hg
  split at h
  ·rename_i hn
   refine⟨r,by rw[hs.2];simp,?_⟩
   simp only[bR,cV hl hg,Option.bind_some,fL ht (by omega),ay hn,if_true]
  ·cases h
theorem fW {b r:List UInt8} {n top:Int} (ht:0≤top) (h2:top<9223372036854775808) (hl:b.length≤1099511627776) (h:dC top b=some (n,r)):bR ⟨b,false⟩ top=some (n,⟨r,false⟩):=by
 have hs:=ed h
 unfold dC at h
 split at h
 ·cases h
 ·rename_i m q hg
  split at h
  ·cases h
  ·rename_i hn
   injection h with h;injection h with e1 e2;subst e1 e2
   simp only[bR,cV hl hg,Option.bind_some,fL ht (by omega),aw hn,Bool.false_eq_true,if_false,dz (by have:=hs.1.1;omega) (by omega:m<9223372036854775808)]
theorem kJ {b:List UInt8} (hl:b.length≤1099511627776):eo ⟨b,true⟩=some (aa [],⟨b,true⟩):=by
 simp only[eo,yr b hl,Option.bind_some,if_true,sV,Sum.elim_inr]
theorem ny {b:List UInt8} (hl:b.length≤1099511627776) (h:pT b=none):eo ⟨b,false⟩=some (aa [],⟨b,true⟩):=by
 have hT:ic b=none:=by
  unfold pT at h;split at h
  ·assumption
  ·cases h
 simp only[eo,yr b hl,hT,nr,Option.bind_some,Bool.false_eq_true,if_false,Bool.not_false,sV,if_true,Sum.elim_inr]
theorem fp {b r:List UInt8} {s:ByteArray} (hl:b.length≤1099511627776) (h:pT b=some (s,r)):eo ⟨b,false⟩=some (s,⟨r,false⟩):=by
 unfold pT at h
 split at h
 ·cases h
 ·rename_i s' k hg
  injection h with h;injection h with h1 h2;subst h1 h2
  have h4:=(Jl hg).1
  simp only[eo,yr b hl,hg,nr,Option.bind_some,Bool.false_eq_true,if_false,Bool.not_true,sV,Sum.elim_inl,Ah,aD (by omega:(0:Int)≤(k:Int)),aD (by omega:(k:Int)≤(b.length:Int)),Int.toNat_natCast]
end Go.Proofs.YtjklegmimpehlaaGreat.Ab
