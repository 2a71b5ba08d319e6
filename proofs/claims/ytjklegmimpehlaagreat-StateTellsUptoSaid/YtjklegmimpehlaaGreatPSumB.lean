/- What 'check' and the reference do with bytes, told plainly: sums, and a sum's four bytes. -/
import Derived.Test.YtjklegmimpehlaaGreatPKit
import Derived.Test.YtjklegmimpehlaaGreatXBSum
import Derived.Test.YtjklegmimpehlaaGreatPRW
namespace Go.Proofs.YtjklegmimpehlaaGreat.Ab
open Go Go.RowKit
set_option linter.unusedVariables false
set_option linter.unusedSimpArgs false
def pu:BitVec 32:=3988292384#32
def kO (n:BitVec 32):BitVec 32:=(n >>> 1) ^^^ (pu*(n &&& 1#32))
def j7:Nat→BitVec 32→BitVec 32
 | 0,n=>n
 | k+1,n=>kO (j7 k n)
def sd (n:BitVec 32) (c:UInt8):BitVec 32:=j7 8 (n ^^^ c.toBitVec.setWidth 32)
def more (x:BitVec 32) (b:List UInt8):BitVec 32:= ~~~(b.foldl sd (~~~x))
theorem EA {α β:Type} (f:β→α→β) (b:List α) (a:β) (i:Nat) (h:i<b.length):(b.take (i+1)).foldl f a=f ((b.take i).foldl f a) b[i]:=by
 rw[List.take_succ_eq_append_getElem h,List.foldl_append];rfl
theorem KK (n:BitVec 32):n &&& 1#32=0#32∨n &&& 1#32=1#32:=by
 have h:(n &&& 1#32).toNat=n.toNat % 2:=by
  rw[BitVec.toNat_and];exact Nat.and_one_is_mod _
 rcases Nat.mod_two_eq_zero_or_one n.toNat with h2 | h2
 ·exact .inl (BitVec.eq_of_toNat_eq (by rw[h,h2];rfl))
 ·exact .inr (BitVec.eq_of_toNat_eq (by rw[h,h2];rfl))
theorem KL (n:BitVec 32) (h:((n &&& 1#32).toNat:Int)=1):(n >>> 1) ^^^ pu=kO n:=by
 have:n &&& 1#32=1#32:=BitVec.eq_of_toNat_eq (by
  have:(n &&& 1#32).toNat=1:=by omega
  rw[this];rfl)
 rw[kO,this];rfl
theorem KM (n:BitVec 32) (h:¬((n &&& 1#32).toNat:Int)=1):n >>> 1=kO n:=by
 rcases KK n with h0 | h1
 ·rw[kO,h0];simp
 ·rw[h1]at h;exact absurd rfl h
def up (c:UInt8):BitVec 32:=c.toBitVec.setWidth 32
def QQ (x:BitVec 32):UInt8:=UInt8.ofBitVec ((x &&& 255#32).setWidth 8)
def QR (x:BitVec 32):UInt8:=UInt8.ofBitVec ((x >>> 8 &&& 255#32).setWidth 8)
def QS (x:BitVec 32):UInt8:=UInt8.ofBitVec ((x >>> 16 &&& 255#32).setWidth 8)
def QT (x:BitVec 32):UInt8:=UInt8.ofBitVec ((x >>> 24).setWidth 8)
def QU (a b c:List UInt8):List UInt8:=List.zipWith (· ^^^ ·) (List.zipWith (· ^^^ ·) a b) c
def flip (b:List UInt8) (p:Nat) (v:UInt8):List UInt8:=b.set p (b.getD p 0 ^^^ v)
def QV (q:Nat):UInt8:=UInt8.ofNat (2 ^ q)
def KN:Nat→BitVec 32→Bool
 | 0,_=>true
 | k+1,n=>(kO n != 1#32)&&KN k (kO n)
def byteOf (x:BitVec 32) (j:Nat):UInt8:=UInt8.ofBitVec ((x >>> (8*j) &&& 255#32).setWidth 8)
def KO (b:List UInt8) (p:Nat) (x:BitVec 32):Nat→List UInt8
 | 0=>b
 | j+1=>flip (KO b p x j) (p+j) (byteOf x j)
end Go.Proofs.YtjklegmimpehlaaGreat.Ab
namespace Go.Proofs.YtjklegmimpehlaaGreat.Ab
open Go Go.RowKit
set_option linter.unusedVariables false
set_option linter.unusedSimpArgs false
theorem KP (n:BitVec 32):bits .xor .u32 (Int.fdiv (n.toNat:Int) (2 ^ (min (Int.toNat 1) (IntKind.bits .u32)))) (IntKind.u32.wrap (3988292384*(bits .and .u32 (n.toNat:Int) 1)))=((kO n).toNat:Int):=by
 have h1:Int.fdiv (n.toNat:Int) (2 ^ (min (Int.toNat 1) (IntKind.bits .u32)))=((n >>> 1).toNat:Int):=Dm n 1 (by decide)
 have h2:bits .and .u32 (n.toNat:Int) 1=((n &&& 1#32).toNat:Int):=yj n 1#32
 have h3:IntKind.u32.wrap (3988292384*((n &&& 1#32).toNat:Int))=((pu*(n &&& 1#32)).toNat:Int):=IS pu (n &&& 1#32)
 rw[h1,h2,h3,yi];rfl
theorem vo (x:BitVec 32):bits .xor .u32 (if IntKind.signed .u32 then -1 else IntKind.max .u32) (x.toNat:Int)=((~~~x).toNat:Int):=IR x
theorem EB (n:BitVec 32) (c:UInt8):bits .xor .u32 (n.toNat:Int) (IntKind.u32.wrap (c.toNat:Int))=((n ^^^ c.toBitVec.setWidth 32).toNat:Int):=by rw[IT,yi]
theorem pw {k:Nat} (h:k<1099511627776):IntKind.i64.wrap ((k:Int)+1)=((k+1:Nat):Int):=by rw[dz (by omega) (by omega)];push_cast;rfl
theorem KQ (v:Int) (n:BitVec 32):am (fun(s:Int×Int)=>sk v s.1 s.2) Fu ((n.toNat:Int),0)=some (Sum.inl (((j7 8 n).toNat:Int),IntKind.i64.wrap (v+1))):=by
 refine nq (fun m s r=>∃j:Nat,j≤8∧m=8-j∧s=(((j7 j n).toNat:Int),(j:Int))∧r=Sum.inl (((j7 8 n).toNat:Int),IntKind.i64.wrap (v+1))) ?_ ⟨0,by omega,rfl,rfl,rfl⟩ (by omega)
 rintro m s r ⟨j,hj,rfl,rfl,rfl⟩
 by_cases h:j=8
 ·subst h;exact .inr rfl
 ·refine .inl ⟨_,8-(j+1),?_,by omega,j+1,by omega,rfl,rfl,rfl⟩
  simp only[sk,ay (by omega:(j:Int)<8),if_true,KP,pw (by omega:j<1099511627776)]
  rfl
theorem KR (x:BitVec 32) (b:List UInt8) (hb:b.length<1099511627776):sn (x.toNat:Int) b=some ((more x b).toNat:Int):=by
 rw[sn,vo]
 refine fd (l:=b) (fun k r s=>s=((((b.take k).foldl sd (~~~x)).toNat:Int),(k:Int))∧r=((more x b).toNat:Int)) (by omega) ?_ ?_ ⟨by simp,rfl⟩
 ·rintro k hk r s ⟨rfl,rfl⟩
  refine .inl ⟨((((b.take (k+1)).foldl sd (~~~x)).toNat:Int),((k+1:Nat):Int)),?_,rfl,rfl⟩
  simp only[sm,ay (by omega:(k:Int)<(b.length:Int)),if_true,aD (by omega:(0:Int)≤(k:Int)),Int.toNat_natCast,List.getElem?_eq_getElem hk,Option.bind_some,EB]
  rw[KQ,pw (by omega),EA _ _ _ _ hk]
  rfl
 ·rintro r s ⟨rfl,rfl⟩
  simp only[sm,aw (by omega:¬(b.length:Int)<(b.length:Int)),Bool.false_eq_true,if_false,List.take_length,vo]
  rfl
def jc (b:List UInt8):BitVec 32:=more 0#32 b
theorem EC (b:List UInt8) (hb:b.length<1099511627776):so b=some ((jc b).toNat:Int):=by
 have:=KR 0#32 b hb
 rw[show((0#32).toNat:Int)=0 from rfl]at this
 rw[so,this];rfl
theorem KS (n:BitVec 32):(if((bits .and .u32 (n.toNat:Int) 1) == 1)=true then(bits .xor .u32 (Int.fdiv (n.toNat:Int) (2 ^ (min (Int.toNat 1) (IntKind.bits .u32)))) 3988292384)else(Int.fdiv (n.toNat:Int) (2 ^ (min (Int.toNat 1) (IntKind.bits .u32)))))=((kO n).toNat:Int):=by
 have h1:Int.fdiv (n.toNat:Int) (2 ^ (min (Int.toNat 1) (IntKind.bits .u32)))=((n >>> 1).toNat:Int):=Dm n 1 (by decide)
 have h2:bits .and .u32 (n.toNat:Int) 1=((n &&& 1#32).toNat:Int):=yj n 1#32
 have h3:bits .xor .u32 ((n >>> 1).toNat:Int) 3988292384=((n >>> 1 ^^^ pu).toNat:Int):=yi (n >>> 1) pu
 rw[h1,h2,h3]
 by_cases h:((n &&& 1#32).toNat:Int)=1
 ·rw[if_pos (by rw[h];rfl),KL n h]
 ·rw[if_neg (by rw[beq_iff_eq];exact h),KM n h]
theorem KT (v:Int) (n:BitVec 32):am (fun(s:Int×Int)=>sx v s.1 s.2) Fu ((n.toNat:Int),0)=some (Sum.inl (((j7 8 n).toNat:Int),IntKind.i64.wrap (v+1))):=by
 refine nq (fun m s r=>∃j:Nat,j≤8∧m=8-j∧s=(((j7 j n).toNat:Int),(j:Int))∧r=Sum.inl (((j7 8 n).toNat:Int),IntKind.i64.wrap (v+1))) ?_ ⟨0,by omega,rfl,rfl,rfl⟩ (by omega)
 rintro m s r ⟨j,hj,rfl,rfl,rfl⟩
 by_cases h:j=8
 ·subst h;exact .inr rfl
 ·refine .inl ⟨(((j7 (j+1) n).toNat:Int),((j+1:Nat):Int)),8-(j+1),?_,by omega,j+1,by omega,rfl,rfl,rfl⟩
  have hr:=KS (j7 j n)
  simp only[sx,ay (by omega:(j:Int)<8),if_true,pw (by omega:j<1099511627776)]
  show _=some (Sum.inl (((kO (j7 j n)).toNat:Int),((j+1:Nat):Int)))
  rw[← hr]
  split<;>rfl
theorem KU (x:BitVec 32) (b:List UInt8) (hb:b.length<1099511627776):sA (x.toNat:Int) b=some ((more x b).toNat:Int):=by
 rw[sA,vo]
 refine fd (l:=b) (fun k r s=>s=((((b.take k).foldl sd (~~~x)).toNat:Int),(k:Int))∧r=((more x b).toNat:Int)) (by omega) ?_ ?_ ⟨by simp,rfl⟩
 ·rintro k hk r s ⟨rfl,rfl⟩
  refine .inl ⟨((((b.take (k+1)).foldl sd (~~~x)).toNat:Int),((k+1:Nat):Int)),?_,rfl,rfl⟩
  simp only[sy,ay (by omega:(k:Int)<(b.length:Int)),if_true,aD (by omega:(0:Int)≤(k:Int)),Int.toNat_natCast,List.getElem?_eq_getElem hk,Option.bind_some,EB]
  rw[KT,pw (by omega),EA _ _ _ _ hk]
  rfl
 ·rintro r s ⟨rfl,rfl⟩
  simp only[sy,aw (by omega:¬(b.length:Int)<(b.length:Int)),Bool.false_eq_true,if_false,List.take_length,vo]
  rfl
theorem ED (b:List UInt8) (hb:b.length<1099511627776):sB b=some ((jc b).toNat:Int):=by
 have:=KU 0#32 b hb
 rw[show((0#32).toNat:Int)=0 from rfl]at this
 rw[sB,this];rfl
def gI (x:Nat):List UInt8:=[UInt8.ofNat x,UInt8.ofNat (x / 256),UInt8.ofNat (x / 65536),UInt8.ofNat (x / 16777216)]
theorem vq (x:Nat):(gI x).length=4:=rfl
def kP (a b c d:UInt8):Nat:=a.toNat+b.toNat*256+c.toNat*65536+d.toNat*16777216
theorem EE {x:Nat} (h:x<4294967296):kP (UInt8.ofNat x) (UInt8.ofNat (x / 256)) (UInt8.ofNat (x / 65536)) (UInt8.ofNat (x / 16777216))=x:=by simp[kP];omega
theorem EF (a b c d:UInt8):gI (kP a b c d)=[a,b,c,d]:=by
 have ha:=a.toNat_lt;have hb:=b.toNat_lt;have hc:=c.toNat_lt;have hd:=d.toNat_lt
 simp only[gI,kP,List.cons.injEq,and_true]
 refine⟨?_,?_,?_,?_⟩<;>apply UInt8.toNat_inj.1<;>simp<;>omega
theorem KV {x y:Nat} (hx:x<4294967296) (hy:y<4294967296) (h:gI x=gI y):x=y:=by
 rw[← EE hx,← EE hy]
 simp only[gI,List.cons.injEq,and_true]at h
 rw[h.1,h.2.1,h.2.2.1,h.2.2.2]
theorem vr (n k:Nat) (hk:k≤32):Int.fdiv (n:Int) (2 ^ (min (Int.toNat (k:Int)) (IntKind.bits .u32)))=((n / 2 ^ k:Nat):Int):=by
 rw[show min (Int.toNat (k:Int)) (IntKind.bits .u32)=k by simp[IntKind.bits];omega,Int.fdiv_eq_ediv_of_nonneg _ (Int.le_of_lt (Int.pow_pos (by decide)))]
 simp
theorem KW (l:List UInt8) (x:Nat) (hl:l.length≤1099511627776):su l (x:Int)=some (l++gI x):=by
 have hstep:∀(j:Nat) (o:List UInt8),j<4→o.length≤1099511627786→ss (x:Int) o (j:Int)=some (Sum.inl (o++[UInt8.ofNat (x / 2 ^ (8*j))],((j+1:Nat):Int))):=by
  intro j o hj ho
  have hw:IntKind.i64.wrap (8*(j:Int))=((8*j:Nat):Int):=by rw[dz (by omega) (by omega)];push_cast;rfl
  simp only[ss,ay (by omega:(j:Int)<4),if_true,hw,aD (by omega:¬((8*j:Nat):Int)<0),vr x (8*j) (by omega),lB,pw (by omega:j<1099511627776)]
  exact aD (by simp only[List.length_append,List.length_singleton];omega)
 have h0:=hstep 0 l (by decide) (by omega)
 have h1:=hstep 1 (l++[UInt8.ofNat (x / 2 ^ (8*0))]) (by decide) (by simp only[List.length_append,List.length_singleton];omega)
 have h2:=hstep 2 (l++[UInt8.ofNat (x / 2 ^ (8*0))]++[UInt8.ofNat (x / 2 ^ (8*1))]) (by decide) (by simp only[List.length_append,List.length_singleton];omega)
 have h3:=hstep 3 (l++[UInt8.ofNat (x / 2 ^ (8*0))]++[UInt8.ofNat (x / 2 ^ (8*1))]++[UInt8.ofNat (x / 2 ^ (8*2))]) (by decide) (by simp only[List.length_append,List.length_singleton];omega)
 rw[su,show Fu=1208925819614629174706171+1+1+1+1+1 from rfl]
 rw[eb (s':=(l++[UInt8.ofNat (x / 2 ^ (8*0))],((0+1:Nat):Int))) h0,eb h1,eb h2,eb h3,eC (r:=l++[UInt8.ofNat (x / 2 ^ (8*0))]++[UInt8.ofNat (x / 2 ^ (8*1))]++[UInt8.ofNat (x / 2 ^ (8*2))]++[UInt8.ofNat (x / 2 ^ (8*3))])]
 ·simp[gI]
 ·rfl
theorem yT (n:Nat) (h:n<4294967296):bits .and .u32 (n:Int) 255=((n % 256:Nat):Int):=by
 have h1:=yj (BitVec.ofNat 32 n) 255#32
 rw[BitVec.toNat_and,BitVec.toNat_ofNat,Nat.mod_eq_of_lt h,show(255#32).toNat=2 ^ 8-1 from rfl,Nat.and_two_pow_sub_one_eq_mod]at h1
 exact h1
theorem EG (x:Nat) (h:x<4294967296):pE (x:Int)=some (gI x):=by
 have h8:Int.fdiv (x:Int) (2 ^ (min (Int.toNat 8) (IntKind.bits .u32)))=((x / 256:Nat):Int):=vr x 8 (by decide)
 have h16:Int.fdiv (x:Int) (2 ^ (min (Int.toNat 16) (IntKind.bits .u32)))=((x / 65536:Nat):Int):=vr x 16 (by decide)
 have h24:Int.fdiv (x:Int) (2 ^ (min (Int.toNat 24) (IntKind.bits .u32)))=((x / 16777216:Nat):Int):=vr x 24 (by decide)
 rw[pE,h8,h16,h24,yT _ h,yT _ (by omega),yT _ (by omega),lB,lB,lB,lB,gI]
 congr 2
 ·apply UInt8.toNat_inj.1;simp
 ·congr 1
  ·apply UInt8.toNat_inj.1;simp
  ·congr 1
   apply UInt8.toNat_inj.1;simp
theorem KX {acc i:Nat} (c:UInt8) (ha:acc<2 ^ (8*i)) (hi:i<4) :
  bits .or .u32 (acc:Int) (IntKind.u32.wrap ((IntKind.u32.wrap (c.toNat:Int))*2 ^ (min (8*i) (IntKind.bits .u32))))=((acc+c.toNat*2 ^ (8*i):Nat):Int)∧acc+c.toNat*2 ^ (8*i)<2 ^ (8*(i+1)):=by
 have hc:=c.toNat_lt
 have e:min (8*i) (IntKind.bits .u32)=8*i:=by simp[IntKind.bits];omega
 have h3:acc+c.toNat*2 ^ (8*i)<2 ^ (8*(i+1)):=by
  rw[show 8*(i+1)=8+8*i by omega,Nat.pow_add]
  have:c.toNat*2 ^ (8*i)+2 ^ (8*i)≤2 ^ 8*2 ^ (8*i):=by rw[← Nat.succ_mul];exact Nat.mul_le_mul_right _ (by omega)
  omega
 have hp:2 ^ (8*(i+1))≤2 ^ 32:=Nat.pow_le_pow_right (by decide) (by omega)
 have h1:c.toNat*2 ^ (8*i)<4294967296:=by omega
 have h2:acc<4294967296:=by omega
 have hor:acc ||| c.toNat*2 ^ (8*i)=acc+c.toNat*2 ^ (8*i):=by
  rw[Nat.or_comm,Nat.mul_comm c.toNat,← Nat.two_pow_add_eq_or_of_lt ha,Nat.add_comm]
 have hb:=IQ (BitVec.ofNat 32 acc) (BitVec.ofNat 32 (c.toNat*2 ^ (8*i)))
 rw[BitVec.toNat_or,BitVec.toNat_ofNat,BitVec.toNat_ofNat,Nat.mod_eq_of_lt h2,Nat.mod_eq_of_lt h1,hor]at hb
 refine⟨?_,h3⟩
 rw[e,ng c.toNat (by omega),show((c.toNat:Int)*2 ^ (8*i))=((c.toNat*2 ^ (8*i):Nat):Int) by push_cast;rfl,ng _ h1]
 exact hb
theorem KY (a b c d:UInt8) (r:List UInt8) (hr:r.length≤1099511627776):vP (a :: b :: c :: d :: r)=some (((kP a b c d:Nat):Int),true):=by
 have hstep:∀(j acc:Nat) (q:UInt8),j<4→acc<2 ^ (8*j)→(a :: b :: c :: d :: r)[j]? = some q→sw (a :: b :: c :: d :: r) (acc:Int) (j:Int)=some (Sum.inl (((acc+q.toNat*2 ^ (8*j):Nat):Int),((j+1:Nat):Int))):=by
  intro j acc q hj ha hq
  have hw:IntKind.i64.wrap (8*(j:Int))=((8*j:Nat):Int):=by rw[dz (by omega) (by omega)];push_cast;rfl
  have ho:=(KX q ha hj).1
  simp only[sw,ay (by omega:(j:Int)<4),if_true,aD (by omega:(0:Int)≤(j:Int)),Int.toNat_natCast,hq,Option.bind_some,hw,aD (by omega:¬((8*j:Nat):Int)<0),pw (by omega:j<1099511627776),ho]
 have ha:=a.toNat_lt;have hb:=b.toNat_lt;have hc:=c.toNat_lt;have hd:=d.toNat_lt
 have h0:=hstep 0 0 a (by decide) (by decide) rfl
 have h1:=hstep 1 (0+a.toNat*2 ^ (8*0)) b (by decide) (by omega) rfl
 have h2:=hstep 2 (0+a.toNat*2 ^ (8*0)+b.toNat*2 ^ (8*1)) c (by decide) (by omega) rfl
 have h3:=hstep 3 (0+a.toNat*2 ^ (8*0)+b.toNat*2 ^ (8*1)+c.toNat*2 ^ (8*2)) d (by decide) (by omega) rfl
 have hlen:¬((List.length (a :: b :: c :: d :: r):Int)<4):=by simp only[List.length_cons];omega
 rw[vP,dD (aw hlen),show Fu=1208925819614629174706171+1+1+1+1+1 from rfl]
 rw[eb (s':=(((0+a.toNat*2 ^ (8*0):Nat):Int),((0+1:Nat):Int))) h0,eb h1,eb h2,eb h3,eC (r:=(((0+a.toNat*2 ^ (8*0)+b.toNat*2 ^ (8*1)+c.toNat*2 ^ (8*2)+d.toNat*2 ^ (8*3):Nat):Int),true))]
 ·simp[kP]
 ·rfl
end Go.Proofs.YtjklegmimpehlaaGreat.Ab
