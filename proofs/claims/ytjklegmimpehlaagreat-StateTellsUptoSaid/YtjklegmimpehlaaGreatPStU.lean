/- Blocks of little bulk have few episodes. -/
import Derived.Test.YtjklegmimpehlaaGreatXSt4
import Derived.Test.YtjklegmimpehlaaGreatAbArgU
namespace Go.Proofs.YtjklegmimpehlaaGreat.Ab
open Go Go.RowKit
set_option linter.unusedVariables false
set_option linter.unusedSimpArgs false
theorem Ez {f:Block→Nat}:∀(z:List Block),(∀b∈z,b.Episodes.length≤f b)→(z.flatMap (·.Episodes)).length≤lp (z.map f)
 | [],_=>by simp[lp]
 | b :: z,h=>by
  have h1:=h b List.mem_cons_self
  have h2:=Ez z fun c hc=>h c (List.mem_cons_of_mem _ hc)
  simp only[List.flatMap_cons,List.length_append,List.map_cons,lp];omega
theorem KJ {P:Program} {t tb te tx n sz:Nat} {fs:Array Field} {f:Field} {z:List Block} (h1:P.underlying t=some (.slice tb)) (h2:P.underlying tb=some (.struct fs)) (h3:f∈fs.toList) (h4:f.type=te) (h5:f.offset=3) (h6:P.cellsOf te=1) (h7:P.underlying te=some (.slice tx))
  (ha:aggT P tb=true) (hs:bL P n t [.sl sz (List.map aR z)]) {B:Nat} (hb:bulkS P n t [.sl sz (List.map aR z)]≤B):(z.flatMap (·.Episodes)).length≤B:=by
 cases n with
 | zero=>exact hs.elim
 | succ m=>
  simp only[bulkS,h1,List.map_map]at hb
  simp only[bL,h1]at hs
  obtain⟨xs,e,hl,hx⟩:=hs
  have e2:List.map aR z=xs:=by
   injection e with e _
   injection e
  subst e2
  refine Nat.le_trans (Ez z (f:=fun b=>bulkS P m tb (aR b).cells) fun b hbz=>?_) (Nat.le_trans (Nat.le_add_left _ _) hb)
  obtain⟨ps,q1,q2⟩:=hx (aR b) (List.mem_map.2 ⟨b,hbz,rfl⟩)
  rw[ha]at q1
  have q3:(aR b).cells=ps:=by rw[q1];rfl
  rw[q3]
  cases m with
  | zero=>exact q2.elim
  | succ k=>
   simp only[bL,h2]at q2
   have q4:=q2.2 f h3
   have q5:(ps.drop f.offset).take (P.cellsOf f.type)=[.sl 6 (List.map ak b.Episodes)]:=by
    rw[← q3,h4,h5,h6];rfl
   rw[q5,h4]at q4
   have q6:bulkS P k te [.sl 6 (List.map ak b.Episodes)]≤bulkS P (k+1) tb ps:=by
    simp only[bulkS,h2]
    refine BV (List.mem_map.2 ⟨f,h3,?_⟩)
    rw[q5,h4]
   refine Nat.le_trans ?_ q6
   cases k with
   | zero=>exact q4.elim
   | succ j=>
    simp only[bulkS,h7,List.length_map]
    exact Nat.le_add_right _ _
theorem st_bound {P:Program} {ts t tb te tx n sz:Nat} {gs fs:Array Field} {g f:Field} {z:List Block} {cs:List PV} (k1:P.underlying ts=some (.struct gs)) (k2:g∈gs.toList) (k3:g.type=t) (k5:P.cellsOf t=1) (k4:(cs.drop g.offset).take 1=[.sl sz (List.map aR z)])
  (h1:P.underlying t=some (.slice tb)) (h2:P.underlying tb=some (.struct fs)) (h3:f∈fs.toList) (h4:f.type=te) (h5:f.offset=3) (h6:P.cellsOf te=1) (h7:P.underlying te=some (.slice tx))
  (ha:aggT P tb=true) (hs:bL P n ts cs) {B:Nat} (hb:bulkS P n ts cs≤B):(z.flatMap (·.Episodes)).length≤B:=by
 cases n with
 | zero=>exact hs.elim
 | succ m=>
  simp only[bL,k1]at hs
  have q4:=hs.2 g k2
  rw[k3,k5,k4]at q4
  have q6:bulkS P m t [.sl sz (List.map aR z)]≤bulkS P (m+1) ts cs:=by
   simp only[bulkS,k1]
   refine BV (List.mem_map.2 ⟨g,k2,?_⟩)
   rw[k3,k5,k4]
  exact KJ h1 h2 h3 h4 h5 h6 h7 ha q4 (Nat.le_trans q6 hb)
end Go.Proofs.YtjklegmimpehlaaGreat.Ab
