import Derived.Test.YtjklegmimpehlaaGreatAbGlue
import Derived.Laws.BitsAllLaws
namespace Go.Proofs.YtjklegmimpehlaaGreat.Ab
open Go Go.RowKit
set_option linter.unusedVariables false
set_option linter.unusedSimpArgs false
theorem ng (n:Nat) (h:n<4294967296):IntKind.u32.wrap (n:Int)=n:=by
 simp[IntKind.wrap,IntKind.bits,IntKind.signed];omega
theorem jT (n:Nat) (h:n<18446744073709551616):IntKind.u64.wrap (n:Int)=n:=by
 simp[IntKind.wrap,IntKind.bits,IntKind.signed];omega
theorem IP (n:Int) (h0:-9223372036854775808≤n) (h1:n<9223372036854775808):IntKind.i64.wrap n=n:=by
 simp[IntKind.wrap,IntKind.bits,IntKind.signed]
 split<;>omega
theorem nh {w:Nat} (x:BitVec w):BitVec.ofInt w (x.toNat:Int)=x:=by
 rw[BitVec.ofInt_natCast,BitVec.ofNat_toNat,BitVec.setWidth_eq]
theorem yi (x y:BitVec 32):bits .xor .u32 (x.toNat:Int) (y.toNat:Int)=((x ^^^ y).toNat:Int):=by
 show IntKind.u32.wrap (((BitVec.ofInt 32 (x.toNat:Int)) ^^^ (BitVec.ofInt 32 (y.toNat:Int))).toNat:Int)=_
 rw[nh,nh,ng _ (x ^^^ y).isLt]
theorem yj (x y:BitVec 32):bits .and .u32 (x.toNat:Int) (y.toNat:Int)=((x &&& y).toNat:Int):=by
 show IntKind.u32.wrap (((BitVec.ofInt 32 (x.toNat:Int)) &&& (BitVec.ofInt 32 (y.toNat:Int))).toNat:Int)=_
 rw[nh,nh,ng _ (x &&& y).isLt]
theorem IQ (x y:BitVec 32):bits .or .u32 (x.toNat:Int) (y.toNat:Int)=((x ||| y).toNat:Int):=by
 show IntKind.u32.wrap (((BitVec.ofInt 32 (x.toNat:Int)) ||| (BitVec.ofInt 32 (y.toNat:Int))).toNat:Int)=_
 rw[nh,nh,ng _ (x ||| y).isLt]
theorem IR (x:BitVec 32):bits .xor .u32 (if IntKind.u32.signed then -1 else IntKind.u32.max) (x.toNat:Int)=((~~~x).toNat:Int):=by
 show IntKind.u32.wrap (((BitVec.ofInt 32 (if IntKind.u32.signed then -1 else IntKind.u32.max)) ^^^ (BitVec.ofInt 32 (x.toNat:Int))).toNat:Int)=_
 rw[nh,ng _ (BitVec.isLt _),show BitVec.ofInt 32 (if IntKind.u32.signed then -1 else IntKind.u32.max)=BitVec.allOnes 32 from by decide,BitVec.xor_comm,BitVec.xor_allOnes]
theorem IS (x y:BitVec 32):IntKind.u32.wrap ((x.toNat:Int)*(y.toNat:Int))=((x*y).toNat:Int):=by
 rw[BitVec.toNat_mul]
 simp[IntKind.wrap,IntKind.bits,IntKind.signed]
theorem Dm (x:BitVec 32) (k:Nat) (h:k≤32):Int.fdiv (x.toNat:Int) (2 ^ min (k:Int).toNat IntKind.u32.bits)=((x >>> k).toNat:Int):=by
 rw[show min (k:Int).toNat IntKind.u32.bits=k by simp[IntKind.bits];omega,BitVec.toNat_ushiftRight,Nat.shiftRight_eq_div_pow,Int.fdiv_eq_ediv_of_nonneg _ (Int.le_of_lt (Int.pow_pos (by decide)))]
 simp
theorem IT (c:UInt8):IntKind.u32.wrap (c.toNat:Int)=((c.toBitVec.setWidth 32).toNat:Int):=by
 have h:c.toNat<256:=c.toNat_lt
 rw[ng _ (by omega),BitVec.toNat_setWidth,Nat.mod_eq_of_lt (by show c.toNat<_;omega)]
 rfl
end Go.Proofs.YtjklegmimpehlaaGreat.Ab
