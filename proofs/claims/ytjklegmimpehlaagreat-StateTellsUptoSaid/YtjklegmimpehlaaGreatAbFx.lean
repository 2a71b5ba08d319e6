import Derived.Below
import Derived.Deep.Draws
import Derived.Maps.AppendAt
import Derived.Deep.AppendLies
import Derived.OwnWalk
import Derived.Orders
import Derived.Still
import Derived.Tactics
import Derived.Laws.Rows
import Derived.Laws.CopyRow
import Derived.Deep.LoopGhost
namespace Go.Proofs.YtjklegmimpehlaaGreat.Ab
open Go Go.RowKit
inductive PV where
 | undef
 | skip
 | bool (b:Bool)
 | int (k:IntKind) (n:Int)
 | str (s:ByteArray)
 | nil
 | agg (cs:List PV)
 | tup (vs:List PV)
 | sl (sz:Nat) (xs:List PV)
 | own (d n:Nat)
 | ptr (d n off:Nat)
 | eptr (d n sz i off:Nat)
 | rptr (cs:List PV)
 | fn (f:FuncId) (caps:List PV)
 | fresh (e sz:Nat) (xs:List PV)
 | ref (cs:List PV)
 | nilf
 | mp (d n:Nat)
 deriving Inhabited
def PV.cells:PV→List PV
 | .agg cs=>cs
 | v=>[v]
def PV.one:PV→Bool
 | .agg _ | .tup _ | .undef | .skip | .fresh .. | .ref _=>false
 | _=>true
def bj (xs:List PV):List PV:=xs.flatMap PV.cells
theorem uw (xs ys:List PV):bj (xs++ys)=bj xs++bj ys:=by simp[bj]
theorem jL {sz:Nat}:∀{xs:List PV},(∀x∈xs,x.cells.length=sz)→(bj xs).length=xs.length*sz
 | [],_=>by simp[bj]
 | x :: xs,h=>by
  have h1:=h x List.mem_cons_self
  have h2:=jL (xs:=xs) fun y hy=>h y (List.mem_cons_of_mem _ hy)
  simp only[bj,List.flatMap_cons,List.length_append,List.length_cons]at h2 ⊢
  rw[h1,h2,Nat.succ_mul,Nat.add_comm]
theorem ry {sz:Nat}:∀{xs:List PV},(∀x∈xs,x.cells.length=sz)→∀{i:Nat} {x:PV},xs[i]? = some x→∀{j:Nat} {c:PV},x.cells[j]? = some c→(bj xs)[i*sz+j]? = some c
 | [],_,i,x,hx,_,_,_=>by simp at hx
 | y :: ys,h,0,x,hx,j,c,hc=>by
  have hy:y=x:=by simpa using hx
  subst hy
  have hj:j<y.cells.length:=(List.getElem?_eq_some_iff.1 hc).1
  simp only[bj,List.flatMap_cons,Nat.zero_mul,Nat.zero_add]
  rw[List.getElem?_append_left hj];exact hc
 | y :: ys,h,i+1,x,hx,j,c,hc=>by
  have h1:=h y List.mem_cons_self
  have hx':ys[i]? = some x:=by simpa using hx
  have:=ry (xs:=ys) (fun z hz=>h z (List.mem_cons_of_mem _ hz)) hx' hc
  simp only[bj,List.flatMap_cons]at this ⊢
  rw[List.getElem?_append_right (by rw[h1,Nat.succ_mul];omega),h1,show(i+1)*sz+j-sz=i*sz+j by rw[Nat.succ_mul];omega]
  exact this
theorem Hr {sz:Nat} {xs:List PV} (h:∀x∈xs,x.cells.length=sz) (k:Nat):bj (xs.drop k)=(bj xs).drop (k*sz):=by
 induction k generalizing xs with
 | zero=>simp
 | succ k ih=>
  cases xs with
  | nil=>simp[bj]
  | cons y ys=>
   have h1:=h y List.mem_cons_self
   rw[List.drop_succ_cons,ih fun z hz=>h z (List.mem_cons_of_mem _ hz)]
   simp only[bj,List.flatMap_cons]
   rw[Nat.succ_mul,List.drop_append,h1,List.drop_of_length_le (i:=k*sz+sz) (l:=y.cells) (by rw[h1];exact Nat.le_add_left _ _),List.nil_append,Nat.add_sub_cancel]
theorem Hs {sz:Nat} {xs:List PV} (h:∀x∈xs,x.cells.length=sz) (k:Nat):bj (xs.take k)=(bj xs).take (k*sz):=by
 induction k generalizing xs with
 | zero=>simp[bj]
 | succ k ih=>
  cases xs with
  | nil=>simp[bj]
  | cons y ys=>
   have h1:=h y List.mem_cons_self
   have hz:=ih (xs:=ys) fun z hz=>h z (List.mem_cons_of_mem _ hz)
   simp only[bj,List.take_succ_cons,List.flatMap_cons]at hz ⊢
   rw[hz,Nat.succ_mul,List.take_append,h1,List.take_of_length_le (i:=k*sz+sz) (by rw[h1];exact Nat.le_add_left _ _),Nat.add_sub_cancel]
abbrev bI:=Nat→Nat→Option Value
def dg:bI:=fun _ _=>none
theorem m9 (a:Addr) (n:Nat):(a.add n).block=a.block:=by unfold Addr.add;split<;>rfl
theorem rz (a:Addr) (i j:Nat):(a.add i).add j=a.add (i+j):=by
 unfold Addr.add
 by_cases hi:i=0<;>by_cases hj:j=0<;>simp[hi,hj,Nat.add_assoc]
theorem Cf (g k:Nat):(⟨g,0,none⟩:Addr).add k=⟨g,k,none⟩:=by unfold Addr.add;split<;>simp_all
inductive aG (w:World) (M:Nat→Prop):bI→PV→Value→Prop
 | undef (J v):aG w M J .undef v
 | skip (J):aG w M J .skip Go.undef
 | bool (J b):aG w M J (.bool b) (.bool b)
 | int (J k n):aG w M J (.int k n) (.int k n)
 | str (J s):aG w M J (.str s) (.string s)
 | nil (J):aG w M J .nil (.slice none 0 0)
 | agg (J) (cs:List PV) (vs:Array Value) (hl:cs.length=vs.size) (h:∀(i:Nat) (c:PV) (v:Value),cs[i]? = some c→vs[i]? = some v→aG w M J c v):aG w M J (.agg cs) (.agg vs)
 | tup (J) (cs:List PV) (vs:Array Value) (hl:cs.length=vs.size) (h:∀(i:Nat) (c:PV) (v:Value),cs[i]? = some c→vs[i]? = some v→aG w M J c v):aG w M J (.tup cs) (.tuple vs)
 | sl (J) (sz:Nat) (xs:List PV) (a:Addr) (cap:Nat) (g:Nat→Value) (hp:0<sz) (hw:∀x∈xs,x.cells.length=sz) (ho:∀c∈bj xs,c.one=true) (hle:xs.length≤cap) (hM:xs≠[]→¬M a.block)
   (hc:∀(k:Nat) (c:PV),(bj xs)[k]? = some c→w.cell? (a.add k)=some (g k)) (hr:∀(k:Nat) (c:PV),(bj xs)[k]? = some c→aG w M dg c (g k)):aG w M J (.sl sz xs) (.slice (some a) xs.length cap)
 | sl0 (J sz cap):aG w M J (.sl sz []) (.slice none 0 cap)
 | rptr (J) (cs:List PV) (a:Addr) (g:Nat→Value) (ho:∀c∈cs,c.one=true) (hM:cs≠[]→¬M a.block)
   (hc:∀(k:Nat) (c:PV),cs[k]? = some c→w.cell? (a.add k)=some (g k)) (hr:∀(k:Nat) (c:PV),cs[k]? = some c→aG w M dg c (g k)):aG w M J (.rptr cs) (.pointer (some a))
 | fn (J f) (caps:List PV) (vs:Array Value) (hl:caps.length=vs.size) (h:∀(i:Nat) (c:PV) (v:Value),caps[i]? = some c→vs[i]? = some v→aG w M J c v):aG w M J (.fn f caps) (.func (.func f) #[] vs)
 | own (J d n A len cap) (h:J d n=some (.slice A len cap)):aG w M J (.own d n) (.slice A len cap)
 | own0 (J d n a) (h:J d n=some (.slice none 0 0)):aG w M J (.own d n) (.slice (some a) 0 0)
 | ptr (J d n off g) (h:J d n=some (.pointer (some ⟨g,0,none⟩))):aG w M J (.ptr d n off) (.pointer (some ⟨g,off,none⟩))
 | eptr (J d n sz i off g len cap) (h:J d n=some (.slice (some ⟨g,0,none⟩) len cap)):aG w M J (.eptr d n sz i off) (.pointer (some ⟨g,i*sz+off,none⟩))
 | nilf (J):aG w M J .nilf .nilFunc
 | mp (J d n g) (h:J d n=some (.map (some g))):aG w M J (.mp d n) (.map (some g))
theorem aG.mono {w w':World} {M M':Nat→Prop} {J J':bI} {pv:PV} {v:Value} (h:aG w M J pv v)
  (hw:∀b,b<w.heap.size→¬M b→w'.heap[b]? = w.heap[b]?) (hM:∀b,b<w.heap.size→M' b→M b) (hJ:∀d n v,J d n=some v→J' d n=some v):aG w' M' J' pv v:=by
 induction h generalizing J' with
 | undef J v=>exact .undef _ _
 | skip J=>exact .skip _
 | bool J b=>exact .bool _ _
 | int J k n=>exact .int _ _ _
 | str J s=>exact .str _ _
 | nil J=>exact .nil _
 | agg J cs vs hl h ih=>exact .agg _ _ _ hl fun i c v hc hv=>ih i c v hc hv hJ
 | tup J cs vs hl h ih=>exact .tup _ _ _ hl fun i c v hc hv=>ih i c v hc hv hJ
 | sl J sz xs a cap g hp hw' ho hle hN hc hr ih=>
  cases xs with
  | nil=>exact .sl _ _ _ _ _ g hp hw' ho hle (fun h=>absurd rfl h) (fun k c hk=>by simp[bj]at hk) (fun k c hk=>by simp[bj]at hk)
  | cons x r=>
   have hpos:0<(bj (x :: r)).length:=by rw[jL hw',List.length_cons,Nat.succ_mul];omega
   have hlt:a.block<w.heap.size:=by
    have:=World.block_lt_of_cell? w _ (hc 0 _ (List.getElem?_eq_getElem hpos))
    rwa [m9]at this
   refine .sl _ _ _ _ _ g hp hw' ho hle (fun hne h=>hN hne (hM _ hlt h)) (fun k c hk=>?_) (fun k c hk=>ih k c hk (fun _ _ _ h=>h))
   exact(World.cell?_of_block (by rw[m9];exact hw _ hlt (hN (by simp)))).trans (hc k c hk)
 | sl0 J sz cap=>exact .sl0 _ _ _
 | rptr J cs a g ho hN hc hr ih=>
  cases cs with
  | nil=>exact .rptr _ _ _ g ho (fun h=>absurd rfl h) (fun k c hk=>by simp at hk) (fun k c hk=>by simp at hk)
  | cons c0 r=>
   have hlt:a.block<w.heap.size:=by
    have:=World.block_lt_of_cell? w _ (hc 0 c0 rfl)
    rwa [m9]at this
   refine .rptr _ _ _ g ho (fun hne h=>hN hne (hM _ hlt h)) (fun k c hk=>?_) (fun k c hk=>ih k c hk (fun _ _ _ h=>h))
   exact(World.cell?_of_block (by rw[m9];exact hw _ hlt (hN (by simp)))).trans (hc k c hk)
 | fn J f caps vs hl h ih=>exact .fn _ _ _ _ hl fun i c v hc hv=>ih i c v hc hv hJ
 | own J d n A len cap h=>exact .own _ _ _ _ _ _ (hJ _ _ _ h)
 | own0 J d n a h=>exact .own0 _ _ _ _ (hJ _ _ _ h)
 | ptr J d n off g h=>exact .ptr _ _ _ _ _ (hJ _ _ _ h)
 | eptr J d n sz i off g len cap h=>exact .eptr _ _ _ _ _ _ _ _ _ (hJ _ _ _ h)
 | nilf J=>exact .nilf _
 | mp J d n g h=>exact .mp _ _ _ _ (hJ _ _ _ h)
end Go.Proofs.YtjklegmimpehlaaGreat.Ab
namespace Go.Proofs.YtjklegmimpehlaaGreat.Ab
open Go Go.RowKit
set_option linter.unusedVariables false
set_option linter.unusedSimpArgs false
theorem ux {ε α β:Type} {x:Except ε α} {f:α→Except ε β} {r:β} (h:(x >>= f) = .ok r):∃a,x = .ok a∧f a = .ok r:=by
 cases x with
 | error e=>cases h
 | ok a=>exact⟨a,rfl,h⟩
theorem Ht {p:Program} {w:World} {at_:Addr} {u:TypeId} {k:Addr} {v:Value} {b:Bool} {r:World×List Addr} (h:w.viewStore p at_ u k v b = .ok r):r.1.drawn=w.drawn:=by
 unfold World.viewStore at h
 simp only[]at h
 split at h
 ·obtain⟨_,h0,_⟩:=ux h
  cases h0
 ·obtain⟨⟨c,e,fr,first,like,cells⟩,_,h⟩:=ux h
  simp only[]at h
  split at h
  ·split at h
   ·obtain⟨_,h0,_⟩:=ux h
    cases h0
   ·obtain⟨_,_,h⟩:=ux h
    injection h with h
    rw[← h]
  ·cases h
theorem Hu {p:Program} {w:World} {a:Addr} {v:Value} {b:Bool} {r:World×List Addr} (h:w.farStore p a v b = .ok r):r.1.drawn=w.drawn:=by
 unfold World.farStore at h
 split at h
 ·split at h
  ·rename_i r' h2
   injection h with h
   rw[← h];exact Ht h2
  ·cases h
 ·cases h
theorem xR {α:Type}:∀(x:Ask α) (w:World),w.drawn≤(w.ask x).2.drawn
 | .done a,w=>Nat.le_refl _
 | .ask what range k,w=>by
  unfold World.ask
  dsimp only
  split
  ·exact xR _ _
  ·exact Nat.le_trans (Nat.le_succ w.drawn) (xR (k ((Question.extern what range).cut (w.tape w.drawn (.extern what range)))) { w with drawn:=w.drawn+1 })
theorem Hv (w:World) (c:Sys):w.drawn≤(w.sys c).2.drawn:=by
 unfold World.sys
 split
 ·exact Nat.le_refl _
 ·rename_i h
  have:=xR (Kernel.perform c w.os) w
  rw[h]at this
  exact this
theorem fJ {α:Type} {P:Program}:∀(x:Sem α) {w w':World} {v:α},x.run P w = .ok v w'→w.drawn≤w'.drawn
 | .pure a,w,w',v,h=>by
  unfold Sem.run at h;injection h with _ h;rw[h];exact Nat.le_refl _
 | .load m a k,w,w',v,h=>by
  unfold Sem.run at h
  split at h
  ·exact fJ _ h
  ·split at h
   ·exact fJ _ h
   ·cases h
 | .store m a x k,w,w',v,h=>by
  cases x with
  | agg _=>unfold Sem.run at h;cases h
  | tuple _=>unfold Sem.run at h;cases h
  | _=>
   unfold Sem.run at h
   split at h
   ·split at h
    ·cases h
    ·have:=fJ _ h
     exact this
   ·split at h
    ·rename_i w1 _ h2
     have:=Hu h2
     exact this ▸ fJ _ h
    ·cases h
 | .new o k,w,w',v,h=>by
  unfold Sem.run at h
  have:=fJ _ h
  exact this
 | .shape r k,w,w',v,h=>by unfold Sem.run at h;exact fJ _ h
 | .freeze a n k,w,w',v,h=>by
  unfold Sem.run at h
  have:=fJ _ h
  have e:(w.freeze a n).drawn=w.drawn:=by unfold World.freeze;split<;>rfl
  rwa [e]at this
 | .frozen a k,w,w',v,h=>by unfold Sem.run at h;exact fJ _ h
 | .getObj r k,w,w',v,h=>by
  unfold Sem.run at h
  split at h
  ·cases h
  ·exact fJ _ h
  ·cases h
 | .setObj r o k,w,w',v,h=>by
  unfold Sem.run at h
  split at h
  ·cases h
  ·have:=fJ _ h
   exact this
  ·cases h
 | .choose q k,w,w',v,h=>by
  unfold Sem.run at h
  split at h
  ·exact fJ _ h
  ·exact Nat.le_trans (Nat.le_succ w.drawn) (fJ (k (q.cut (w.tape w.drawn q))) h)
 | .sys c k,w,w',v,h=>by unfold Sem.run at h;exact Nat.le_trans (Hv w c) (fJ _ h)
 | .program k,w,w',v,h=>by unfold Sem.run at h;exact fJ _ h
 | .mark m k,w,w',v,h=>by unfold Sem.run at h;exact fJ _ h
 | .halt hh,w,w',v,h=>by unfold Sem.run at h;cases h
end Go.Proofs.YtjklegmimpehlaaGreat.Ab
namespace Go.Proofs.YtjklegmimpehlaaGreat.Ab
open Go Go.RowKit
set_option linter.unusedVariables false
set_option linter.unusedSimpArgs false
inductive cb where
 | box (cs:List PV)
 | arr (e sz:Nat) (fz:Bool) (xs:List PV)
 | mp (k:IntKind) (ks:List Int)
def cb.mut:cb→Bool
 | .box _=>true
 | .arr _ _ fz _=>!fz
 | .mp _ _=>true
structure jM where
 blk:Nat→Prop
 box:Nat→Option Value
structure St where
 env:Nat→PV
 heap:Nat→Nat→Option cb
 next:Nat→Nat
 X : jM   -- blocks that aren't ours to read or to turn (a caller's)
def cq:Value→Option Nat
 | .slice (some a) _ _=>some a.block
 | .pointer (some a)=>some a.block
 | .map (some g)=>some g
 | _=>none
def cJ (s:St) (J:bI) (g:Nat):Prop:=∃d n o v,s.heap d n=some o∧o.mut=true∧J d n=some v∧cq v=some g
def aT (s:St) (J:bI) (g:Nat):Prop:=s.X.blk g∨cJ s J g
def rA (k:IntKind) (es:Array MapEntry) (ks:List Int):Prop:=es.toList.map (fun e=>(e.key,e.val))=ks.map (fun n=>(.int k n,.bool true))
def hG (w:World) (M:Nat→Prop) (J:bI) (d n:Nat):cb→Prop
 | .box cs=>∃(g:Nat) (cur:Array Value) (t:TypeId),J d n=some (.pointer (some ⟨g,0,none⟩))∧w.heap[g]? = some (.cells cur t (0,0))∧cur.size=cs.length∧(∀c∈cs,c.one=true) ∧
   ∀(k:Nat) (c:PV) (v:Value),cs[k]? = some c→cur[k]? = some v→aG w M J c v
 | .arr e sz _ xs=>∃(v:Value) (ys:List Value),J d n=some v∧w.ownsRow 0 e sz v xs.length ys∧0<sz∧(∀x∈xs,x.cells.length=sz)∧(∀c∈bj xs,c.one=true) ∧
   ∀(k:Nat) (c:PV) (y:Value),(bj xs)[k]? = some c→ys[k]? = some y→aG w M dg c y
 | .mp k ks=>∃(g:Nat) (es:Array MapEntry) (clock:Nat),J d n=some (.map (some g))∧w.heap[g]? = some (.map es clock)∧rA k es ks
structure bK (w0:World) (Mv:Nat→Prop) (N:Nat) (J:bI) (s:St) (a:Act) (w:World):Prop where
 size:a.tmps.size=N
 defers:a.defers=[]
 env:∀t,t<N→aG w (aT s J) J (s.env t) (a.tmps.getD t Go.undef)
 obj:∀d n o,s.heap d n=some o→hG w (aT s J) J d n o
 sep:∀d n d' n' o o' v v' g,s.heap d n=some o→s.heap d' n'=some o'→J d n=some v→J d' n'=some v'→cq v=some g→cq v'=some g→d=d'∧n=n'
 nxt:∀d n,s.next d≤n→s.heap d n=none∧J d n=none
 frame:∀b,b<w0.heap.size→¬Mv b→w.heap[b]? = w0.heap[b]?
 mutb:∀g,cJ s J g→g<w0.heap.size→Mv g
 xlt:∀g,s.X.blk g→g<w.heap.size
 sepX:∀d n o v g,s.heap d n=some o→J d n=some v→cq v=some g→¬s.X.blk g
 ext:∀n v,s.X.box n=some v→J 0 n=some v
 grow:w0.heap.size≤w.heap.size
 os:w.os=w0.os
 tape:w.tape=w0.tape
 output:w.output=w0.output
 drawn:w0.drawn≤w.drawn
theorem aG.oneCell {w:World} {M:Nat→Prop} {J:bI} {c:PV} {v:Value} (h:aG w M J c v) (ho:c.one=true):v.oneCell'=true:=by
 cases h<;>first | rfl | (simp[PV.one]at ho)
theorem hG.blk {w:World} {M:Nat→Prop} {J:bI} {d n:Nat} {o:cb} (h:hG w M J d n o):∃v,J d n=some v∧∀g,cq v=some g→g<w.heap.size:=by
 cases o with
 | box cs=>
  obtain⟨g,cur,t,hJ,hh,_⟩:=h
  refine⟨_,hJ,fun g' hg'=>?_⟩
  simp[cq]at hg'
  subst hg'
  exact(Array.getElem?_eq_some_iff.1 hh).1
 | arr e sz fz xs=>
  obtain⟨v,ys,hJ,hown,_⟩:=h
  refine⟨_,hJ,fun g' hg'=>?_⟩
  rcases hown.2 with ⟨rfl,_⟩ | ⟨g,cap,cur,rfl,_,hh,_⟩
  ·simp[cq]at hg'
  ·simp[cq]at hg'
   subst hg'
   exact(Array.getElem?_eq_some_iff.1 hh).1
 | mp k ks=>
  obtain⟨g,es,clock,hJ,hh,_⟩:=h
  refine⟨_,hJ,fun g' hg'=>?_⟩
  simp[cq]at hg'
  subst hg'
  exact(Array.getElem?_eq_some_iff.1 hh).1
theorem hG.kept {w w':World} {M M':Nat→Prop} {J J':bI} {d n:Nat} {o:cb} (h:hG w M J d n o) (hw:∀b,b<w.heap.size→¬M b→w'.heap[b]? = w.heap[b]?)
  (hM:∀b,b<w.heap.size→M' b→M b) (hJ:∀d n v,J d n=some v→J' d n=some v) (hb:∀v g,J d n=some v→cq v=some g→w'.heap[g]? = w.heap[g]?):hG w' M' J' d n o:=by
 cases o with
 | box cs=>
  obtain⟨g,cur,t,h1,h2,h3,h4,h5⟩:=h
  exact⟨g,cur,t,hJ _ _ _ h1,(hb _ _ h1 rfl).trans h2,h3,h4,fun k c v hc hv=>(h5 k c v hc hv).mono hw hM hJ⟩
 | arr e sz fz xs=>
  obtain⟨v,ys,h1,h2,h3,h4,h5,h6⟩:=h
  refine⟨v,ys,hJ _ _ _ h1,⟨h2.1,?_⟩,h3,h4,h5,fun k c y hc hy=>(h6 k c y hc hy).mono hw hM (fun _ _ _ h=>h)⟩
  rcases h2.2 with hn | ⟨g,cap,cur,rfl,hb0,hh,rest⟩
  ·exact .inl hn
  ·exact .inr ⟨g,cap,cur,rfl,hb0,(hb _ _ h1 rfl).trans hh,rest⟩
 | mp k ks=>
  obtain⟨g,es,clock,h1,h2,h3⟩:=h
  exact⟨g,es,clock,hJ _ _ _ h1,(hb _ _ h1 rfl).trans h2,h3⟩
theorem bK.omut_lt {w0:World} {Mv:Nat→Prop} {N:Nat} {J:bI} {s:St} {a:Act} {w:World} (h:bK w0 Mv N J s a w) {g:Nat} (hg:cJ s J g):g<w.heap.size:=by
 obtain⟨d,n,o,v,ho,_,hJ,hb⟩:=hg
 obtain⟨v',hJ',hlt⟩:=(h.obj d n o ho).blk
 rw[hJ]at hJ'
 injection hJ' with hv
 subst hv
 exact hlt g hb
theorem bK.update {w0:World} {Mv:Nat→Prop} {N:Nat} {J:bI} {s:St} {a:Act} {w:World} (h:bK w0 Mv N J s a w) {w':World} {row:Option Nat} (hg:w.grownBy w' row) (hd:w.drawn≤w'.drawn)
  (hrow:∀g,row=some g→cJ s J g) {J':bI} (hJ:∀d n v,J d n=some v→J' d n=some v) {s':St} (henv:s'.env=s.env) (hX:s'.X=s.X)
  (hM:∀b,b<w.heap.size→cJ s' J' b→cJ s J b)
  (hobj:∀d n o,s'.heap d n=some o→(s.heap d n=some o∧∀v g,J d n=some v→cq v=some g→row≠some g)∨hG w' (aT s' J') J' d n o)
  (hsep:∀d n d' n' o o' v v' g,s'.heap d n=some o→s'.heap d' n'=some o'→J' d n=some v→J' d' n'=some v'→cq v=some g→cq v'=some g→d=d'∧n=n')
  (hnxt:∀d n,s'.next d≤n→s'.heap d n=none∧J' d n=none) (hsepX:∀d n o v g,s'.heap d n=some o→J' d n=some v→cq v=some g→¬s.X.blk g):bK w0 Mv N J' s' a w':=by
 have hwo:∀b,b<w.heap.size→¬cJ s J b→w'.heap[b]? = w.heap[b]?:=fun b hb hm=>hg.block b hb (fun e=>hm (hrow b e.symm))
 have hw:∀b,b<w.heap.size→¬aT s J b→w'.heap[b]? = w.heap[b]?:=fun b hb hm=>hwo b hb (fun h=>hm (.inr h))
 have hMo:=hM
 replace hM:∀b,b<w.heap.size→aT s' J' b→aT s J b:=fun b hb hm=>by
  rcases hm with hm | hm
  ·exact .inl (hX ▸ hm)
  ·exact .inr (hMo b hb hm)
 refine⟨h.size,h.defers,fun t ht=>?_,fun d n o ho=>?_,hsep,hnxt,fun b hb hm=>?_,fun g hg' hlt=>?_,fun g hx=>Nat.lt_of_lt_of_le (h.xlt g (hX ▸ hx)) hg.size,fun d n o v g h1 h2 h3 h4=>hsepX d n o v g h1 h2 h3 (hX ▸ h4),fun n v hv=>hJ 0 n v (h.ext n v (hX ▸ hv)),Nat.le_trans h.grow hg.size,hg.os.trans h.os,hg.tape.trans h.tape,hg.output.trans h.output,Nat.le_trans h.drawn hd⟩
 ·rw[henv];exact(h.env t ht).mono hw hM hJ
 ·rcases hobj d n o ho with ⟨h1,h2⟩ | h1
  ·refine(h.obj d n o h1).kept hw hM hJ (fun v g hv hb=>?_)
   have hlt:g<w.heap.size:=by
    obtain⟨v',hJ',hlt⟩:=(h.obj d n o h1).blk
    rw[hv]at hJ'
    injection hJ' with he
    subst he
    exact hlt g hb
   exact hg.block g hlt (fun e=>h2 v g hv hb e.symm)
  ·exact h1
 ·have hb':b<w.heap.size:=Nat.lt_of_lt_of_le hb h.grow
  rw[hwo b hb' (fun hm'=>hm (h.mutb b hm' hb))]
  exact h.frame b hb hm
 ·exact h.mutb g (hMo g (Nat.lt_of_lt_of_le hlt h.grow) hg') hlt
def iT {α:Type} (f:Nat→α) (i:Nat) (v:α):Nat→α:=fun j=>if j=i then v else f j
def St.put (s:St) (d:Option Nat) (v:PV):St:=
 match d with
 | some d=>{ s with env:=iT s.env d v }
 | none=>s
def St.setH (s:St) (d n:Nat) (o:Option cb):St:={ s with heap:=fun d' n'=>if d'=d∧n'=n then o else s.heap d' n' }
def St.bump (s:St) (d:Nat):St:={ s with next:=fun d'=>if d'=d then s.next d+1 else s.next d' }
theorem St.put_heap (s:St) (d:Option Nat) (v:PV):(s.put d v).heap=s.heap:=by cases d<;>rfl
theorem St.put_next (s:St) (d:Option Nat) (v:PV):(s.put d v).next=s.next:=by cases d<;>rfl
theorem St.put_X (s:St) (d:Option Nat) (v:PV):(s.put d v).X=s.X:=by cases d<;>rfl
theorem Cg (s:St) (d:Option Nat) (v:PV) (J:bI):cJ (s.put d v) J=cJ s J:=by funext g;simp only[cJ,St.put_heap]
theorem Ch (s:St) (d:Option Nat) (v:PV) (J:bI):aT (s.put d v) J=aT s J:=by funext g;simp only[aT,Cg,St.put_X]
theorem bK.put {w0:World} {Mv:Nat→Prop} {N:Nat} {J:bI} {s:St} {a:Act} {w:World} (h:bK w0 Mv N J s a w) (d:Option Nat) {pv:PV} {v:Value} (hr:aG w (aT s J) J pv v) :
  bK w0 Mv N J (s.put d pv) (a.put d v) w:=by
 refine⟨?_,?_,fun t ht=>?_,fun d' n o ho=>?_,fun d' n d'' n' o o' v v' g h1 h2=>?_,fun d' n hn=>?_,h.frame,fun g hg=>?_,fun g hx=>h.xlt g (St.put_X s d pv ▸ hx),fun d' n o v' g h1 h2 h3 h4=>h.sepX d' n o v' g (St.put_heap s d pv ▸ h1) h2 h3 (St.put_X s d pv ▸ h4),fun n v' hv=>h.ext n v' (St.put_X s d pv ▸ hv),h.grow,h.os,h.tape,h.output,h.drawn⟩
 ·cases d with
  | none=>exact h.size
  | some d=>simpa [Act.put] using h.size
 ·cases d<;>exact h.defers
 ·rw[Ch]
  cases d with
  | none=>exact h.env t ht
  | some d=>
   by_cases e:t=d
   ·subst e
    have hs:t<a.tmps.size:=by rw[h.size];exact ht
    simpa [St.put,iT,Act.put,hs] using hr
   ·have:=h.env t ht
    simpa [St.put,iT,Act.put,e,Ne.symm e,Array.getElem?_setIfInBounds_ne] using this
 ·rw[St.put_heap]at ho;rw[Ch];exact h.obj d' n o ho
 ·rw[St.put_heap]at h1 h2;exact h.sep _ _ _ _ _ _ _ _ _ h1 h2
 ·rw[St.put_next]at hn;rw[St.put_heap];exact h.nxt d' n hn
 ·rw[Cg]at hg;exact h.mutb g hg
theorem bK.drew {w0:World} {Mv:Nat→Prop} {N:Nat} {J:bI} {s:St} {a:Act} {w:World} (h:bK w0 Mv N J s a w):bK w0 Mv N J s a w.drew:=by
 have hrep:∀{J' pv v},aG w (aT s J) J' pv v→aG w.drew (aT s J) J' pv v:=fun hr=>hr.mono (fun _ _ _=>rfl) (fun _ _ h=>h) (fun _ _ _ h=>h)
 exact⟨h.size,h.defers,fun t ht=>hrep (h.env t ht),fun d n o ho=>(h.obj d n o ho).kept (fun _ _ _=>rfl) (fun _ _ h=>h) (fun _ _ _ h=>h) (fun _ _ _ _=>rfl),h.sep,h.nxt,h.frame,h.mutb,h.xlt,h.sepX,h.ext,h.grow,h.os,h.tape,h.output,Nat.le_trans h.drawn (Nat.le_succ _)⟩
end Go.Proofs.YtjklegmimpehlaaGreat.Ab
namespace Go.Proofs.YtjklegmimpehlaaGreat.Ab
open Go Go.RowKit
set_option linter.unusedVariables false
set_option linter.unusedSimpArgs false
structure Fx where
 L:List (Nat×Nat)
 v:PV
 U:List ((Nat×Nat)×Option cb)
 N:List Nat
def look:List ((Nat×Nat)×Option cb)→Nat→Nat→Option cb→Option cb
 | [],_,_,o=>o
 | ((d',n'),x) :: r,d,n,o=>if d=d'∧n=n' then x else look r d n o
def fk:List Nat→Nat→Nat
 | [],_=>0
 | x :: r,d=>(if d=x then 1 else 0)+fk r d
def St.app (s:St) (d:Option Nat) (x:Fx):St:=
 { env:=(s.put d x.v).env,heap:=fun a n=>look x.U a n (s.heap a n),next:=fun a=>s.next a+fk x.N a,X:=s.X }
def cN (v:PV):Fx:=⟨[],v,[],[]⟩
theorem xS (s:St) (d:Option Nat) (v:PV):s.app d (cN v)=s.put d v:=by
 cases d<;>rfl
theorem uy (s:St) (d:Option Nat) (L:List (Nat×Nat)) (v:PV):s.app d ⟨L,v,[],[]⟩=s.put d v:=by
 cases d<;>rfl
structure fU (ops:Array Oper) (o:Oper) (x:Fx) (s s':St):Prop where
 env:∀t∈o.looksAt ops,s'.env t=s.env t
 rd:∀p∈x.L,s'.heap p.1 p.2=s.heap p.1 p.2
 up:∀p∈x.U,s'.heap p.1.1 p.1.2=s.heap p.1.1 p.1.2
 nx:∀d∈x.N,s'.next d=s.next d
theorem fU.refl (ops:Array Oper) (o:Oper) (x:Fx) (s:St):fU ops o x s s:=⟨fun _ _=>rfl,fun _ _=>rfl,fun _ _=>rfl,fun _ _=>rfl⟩
def bw (P:Program) (N:Nat) (ops:Array Oper) (o:Oper) (s:St) (x:Fx):Prop:=
 ∀s',fU ops o x s s'→(∀t∈o.looksAt ops,t<N)→∀w0 Mv J a w,bK w0 Mv N J s' a w→∀Q,o.wp P a w (fun a' w'=>∃J',bK w0 Mv N J' (s'.app o.dst x) a' w') Q
def dr (ops:Array Oper) (o:Oper) (s:St):Option Bool:=
 match o.guard with
 | none=>some true
 | some (j,want)=>match (ops[j]?).bind (·.dst)with
  | none=>some false
  | some t=>match s.env t with
   | .bool b=>some (b == want)
   | .skip=>some false
   | _=>none
def gi (P:Program) (N:Nat) (ops:Array Oper) (o:Oper) (s:St) (x:Fx):Prop:=
 (dr ops o s=some true∧bw P N ops o s x)∨(dr ops o s=some false∧x=cN .skip)
theorem Ci {ops:Array Oper} {o:Oper} {j:Nat} {want:Bool} {t:Nat} (hg:o.guard=some (j,want)) (ht:(ops[j]?).bind (·.dst)=some t):t∈o.looksAt ops:=by
 unfold Oper.looksAt
 rw[hg]
 simp[ht]
theorem xT {ops:Array Oper} {o:Oper} {x:Fx} {s s':St} (h:fU ops o x s s'):dr ops o s'=dr ops o s:=by
 unfold dr
 cases hg:o.guard with
 | none=>rfl
 | some jw=>
  obtain⟨j,want⟩:=jw
  dsimp only
  cases ht:(ops[j]?).bind (·.dst)with
  | none=>rfl
  | some t=>dsimp only;rw[h.env t (Ci hg ht)]
theorem Cj {ops:Array Oper} {o:Oper} {s:St} {w0:World} {Mv:Nat→Prop} {N:Nat} {J:bI} {a:Act} {w:World} (h:bK w0 Mv N J s a w) (hN:∀t∈o.looksAt ops,t<N) {b:Bool}
  (hb:dr ops o s=some b):Region.wanted o (yielded ops a.tmps)=b:=by
 unfold dr at hb
 unfold Region.wanted
 cases hg:o.guard with
 | none=>rw[hg]at hb;simpa using hb
 | some jw=>
  obtain⟨j,want⟩:=jw
  rw[hg]at hb
  dsimp only at hb ⊢
  cases ht:(ops[j]?).bind (·.dst)with
  | none=>
   rw[ht]at hb
   have h1:yielded ops a.tmps j=none:=by unfold yielded;rw[ht];rfl
   rw[h1]
   injection hb
  | some t=>
   rw[ht]at hb
   dsimp only at hb
   have hlt:=hN t (Ci hg ht)
   have hs:t<a.tmps.size:=by rw[h.size];exact hlt
   have he:=h.env t hlt
   have hget:a.tmps.getD t Go.undef=a.tmps[t]:=by simp[hs]
   rw[hget]at he
   have hy:yielded ops a.tmps j=match a.tmps[t]with | .bool b=>some b | _=>none:=by
    unfold yielded;rw[ht];simp only[Option.bind_some,Array.getElem?_eq_getElem hs];cases a.tmps[t]<;>rfl
   rw[hy]
   cases hv:s.env t with
   | bool c=>
    rw[hv]at hb he
    injection hb with hb
    generalize a.tmps[t]=u at he ⊢
    cases he
    rw[← hb];cases c<;>cases want<;>rfl
   | skip=>
    rw[hv]at hb he
    injection hb with hb
    generalize a.tmps[t]=u at he ⊢
    cases he
    rw[← hb];cases want<;>rfl
   | _=>rw[hv]at hb;cases hb
theorem gi.op {P:Program} {N:Nat} {ops:Array Oper} {o:Oper} {s s':St} {x:Fx} (h:gi P N ops o s x) (hag:fU ops o x s s') (hN:∀t∈o.looksAt ops,t<N)
  {w0:World} {Mv:Nat→Prop} {J:bI} {a:Act} {w:World} (hs:bK w0 Mv N J s' a w) {K:Act→World→Prop} (hK:∀J' a' w',bK w0 Mv N J' (s'.app o.dst x) a' w'→K a' w') {Q:Exit→Act→World→Prop} :
  if Region.wanted o (yielded ops a.tmps)then o.wp P a w K Q∨(o.asks P a w∧LetsOut Q)else K (a.put o.dst Go.undef) w:=by
 have hg:=xT hag
 rcases h with ⟨h1,h2⟩ | ⟨h1,rfl⟩
 ·rw[Cj hs hN (hg.trans h1),if_pos rfl]
  refine .inl (Oper.wp_mono ?_ (h2 s' hag hN w0 Mv J a w hs Q))
  rintro a' w' ⟨J',h⟩
  exact hK _ _ _ h
 ·rw[Cj hs hN (hg.trans h1),if_neg (by simp)]
  refine hK J _ _ ?_
  rw[xS]
  exact hs.put _ (.skip _)
inductive jN (P:Program) (N:Nat) (ops:Array Oper):List Oper→St→List Fx→St→Prop
 | nil (s):jN P N ops [] s [] s
 | cons {o l s x xs s'} (h:gi P N ops o s x) (hN:∀t∈o.looksAt ops,t<N) (hr:jN P N ops l (s.app o.dst x) xs s'):jN P N ops (o :: l) s (x :: xs) s'
theorem jN.seq {P:Program} {N:Nat} {ops:Array Oper} {l:List Oper} {s s':St} {xs:List Fx} (h:jN P N ops l s xs s') {w0:World} {Mv:Nat→Prop} {J:bI} {a:Act} {w:World} (hs:bK w0 Mv N J s a w)
  {Q:Exit→Act→World→Prop} (hQ:∀J' a' w',bK w0 Mv N J' s' a' w'→Q .normal a' w'):wpList P ops Q l a w:=by
 induction h generalizing J a w with
 | nil s=>exact wpList_nil (hQ _ _ _ hs)
 | cons h hN hr ih=>
  unfold wpList
  exact h.op (fU.refl _ _ _ _) hN hs (fun J' a' w' h'=>ih h' hQ)
end Go.Proofs.YtjklegmimpehlaaGreat.Ab
