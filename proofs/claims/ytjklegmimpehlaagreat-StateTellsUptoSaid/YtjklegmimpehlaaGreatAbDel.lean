import Derived.Test.YtjklegmimpehlaaGreatAbOps16
import Derived.Shelf.SlBodiesN
import Derived.Shelf.SlGeneric
import Derived.Shelf.RegionOpenPlain
import Derived.WalkKit
import Derived.Deep.LoopGhost
import Derived.Deep.RegionLaw
import Derived.Lib.Walk
import Derived.Sort.WalkB12
import Derived.Lib.SliceRun
import Derived.Lib.SlicesDelete
namespace Go.Proofs.YtjklegmimpehlaaGreat.Ab
open Go Go.RowKit Go.Shelf Go.Lib Go.Sort Go.Proofs
set_option linter.unusedVariables false
set_option linter.unusedSimpArgs false
variable {P:Program} {ρ:Ren}
structure QL (P:Program) (ρ:Ren) (sz:Nat):Prop where
 mixed:P.follows .mixedOrders=true
 f45:Bears P (ρ.f 45) (SlBodyN.n45 ρ)
 t0:P.underlying (ρ.t 0)=some (TypeDesc.tuple #[])
 a0:∀w,(isAgg (ρ.t 0)).run P w = .ok false w
 z0:∀w,(Go.sizeOf (ρ.t 0)).run P w = .ok 1 w
 v0:∀w,(zeroValue (ρ.t 0)).run P w = .ok (Value.tuple #[]) w
 t3:P.underlying (ρ.t 3)=some (TypeDesc.int IntKind.i64)
 a3:∀w,(isAgg (ρ.t 3)).run P w = .ok false w
 z3:∀w,(Go.sizeOf (ρ.t 3)).run P w = .ok 1 w
 v3:∀w,(zeroValue (ρ.t 3)).run P w = .ok (Value.int IntKind.i64 0) w
 t4:P.underlying (ρ.t 4)=some (TypeDesc.bool)
 a4:∀w,(isAgg (ρ.t 4)).run P w = .ok false w
 z4:∀w,(Go.sizeOf (ρ.t 4)).run P w = .ok 1 w
 v4:∀w,(zeroValue (ρ.t 4)).run P w = .ok (Value.bool false) w
 t22:P.underlying (ρ.t 22)=some (TypeDesc.slice (ρ.t 23))
 a22:∀w,(isAgg (ρ.t 22)).run P w = .ok false w
 z22:∀w,(Go.sizeOf (ρ.t 22)).run P w = .ok 1 w
 v22:∀w,(zeroValue (ρ.t 22)).run P w = .ok (Value.slice none 0 0) w
 z23:∀w,(Go.sizeOf (ρ.t 23)).run P w = .ok sz w
def Hm (cur:Array Value):Nat→List Value→Array Value
 | _,[]=>cur
 | o,v :: r=>Hm (cur.setIfInBounds o v) (o+1) r
def uu (P:Program) (t:TypeId) (d:TypeDesc) (n:Nat) (z:Value):Prop:=P.underlying t=some d∧(P.info? t).map (fun i=>(i.size,i.zero))=some (n,some z)
theorem uu.size {t d n z} (h:uu P t d n z) (w:World):(Go.sizeOf t).run P w = .ok n w:=by
 obtain⟨i,h1,h2⟩:=Option.map_eq_some_iff.1 h.2
 injection h2 with h2 h3
 simp[Go.sizeOf,typeInfo,h1,h2]
theorem uu.zero {t d n z} (h:uu P t d n z) (w:World):(zeroValue t).run P w = .ok z w:=by
 obtain⟨i,h1,h2⟩:=Option.map_eq_some_iff.1 h.2
 injection h2 with h2 h3
 simp[zeroValue,typeInfo,h1,h3]
def QM (P:Program) (t:TypeId) (n:Nat):Bool:=match P.info? t with
 | some i=>match i.zero with
  | some z=>i.size == n&&z.cells.size == n&&z.cells.all (fun u=>u.oneCell')
  | none=>false
 | none=>false
end Go.Proofs.YtjklegmimpehlaaGreat.Ab
