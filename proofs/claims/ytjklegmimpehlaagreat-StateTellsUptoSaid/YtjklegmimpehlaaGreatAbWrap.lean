import Derived.Test.YtjklegmimpehlaaGreatAbAo
namespace Go.Proofs.YtjklegmimpehlaaGreat.Ab
open Go Go.RowKit
set_option linter.unusedVariables false
set_option linter.unusedSimpArgs false
variable {P:Program} {N:Nat} {ops:Array Oper} {s:St} {dst:Option Tmp} {type:TypeId} {pos:String} {after:Array Edge} {guard:Option (Nat×Bool)}
theorem rM {l:List PV} (h:l.all PV.one=true):∀c∈l,c.one=true:=by simpa [List.all_eq_true] using h
theorem bY {d:Nat} {t:TypeId} {x:Operand} {pv:PV} {cs:List PV} (hx:s.ev x=pv) (hcs:pv.cells=cs) (ho:cs.all PV.one=true) :
  bw P N ops ⟨some d,.box t x,type,pos,after,guard⟩ s ⟨[],.ptr d (s.next d) 0,[((d,s.next d),some (.box cs))],[d]⟩:=by
 subst hcs
 exact It hx (rM ho)
theorem IU {d:Nat} {t:TypeId} {ti:dc} (ht:bm P t=some ti) (hz:ti.zero.isEmpty=false) (ho:ti.zero.all PV.one=true) :
  bw P N ops ⟨some d,.alloc t,type,pos,after,guard⟩ s ⟨[],.ptr d (s.next d) 0,[((d,s.next d),some (.box ti.zero))],[d]⟩:=
 Iu ht (by intro h;rw[h]at hz;cases hz) (rM ho)
theorem gm {t:TypeId} {p x:Operand} {d n off:Nat} {cs cs':List PV} {pv:PV} {ti:dc} (hp:s.ev p = .ptr d n off) (hx:s.ev x=pv) (hb:s.heap d n=some (.box cs)) (ht:bm P t=some ti)
  (ho:pv.cells.all PV.one=true) (hsz:pv.cells.length=ti.size) (hfit:Nat.ble (off+ti.size) cs.length=true) (hcs:jR cs off pv.cells=cs') :
  bw P N ops ⟨none,.store t p x,type,pos,after,guard⟩ s ⟨[],.skip,[((d,n),some (.box cs'))],[]⟩:=by
 subst hcs
 exact C6 hp hx hb ht (rM ho) hsz (Nat.le_of_ble_eq_true hfit)
theorem IV:fj s [] [] [] []:=⟨List.nodup_nil,List.nodup_nil,rfl,rfl,fun i p cs h=>by simp at h,fun i p cs h=>by simp at h⟩
theorem Dn {fo:Operand} {xs:Array Operand} {tys:Array TypeId} {f:FuncId} {caps args:List PV} {rows':List cS} {r r':PV} (d0:Nat) (fz:Bool) (hok:Ok P f args [] [] r [] rows') (hf:s.ev fo = .fn f caps) (hent:aF P f)
  (hargs:ct (s.arg1 [] [] []) (xs.toList.map s.ev++caps)=some args) (hr:me [] d0 (s.next d0) r=some r') :
  bw P N ops ⟨dst,.call ⟨.value fo,xs,tys⟩,type,pos,after,guard⟩ s ⟨[],r',jK d0 (s.next d0) fz 0 rows'++[],List.replicate (rows'.length+1) d0⟩:=
 B8 [] [] [] [] [] d0 fz hf hent IV (by simp) hargs rfl hok rfl rfl hr (.inl (by simp))
def ly (s:St) (nm nn:Nm):List (Nat×PV)→Prop
 | []=>True
 | p :: r=>o5 s nm nn (s.env p.1)=some p.2∧ly s nm nn r
def lz (s:St) (nm nn:Nm):Nm→List ((Nat×Nat)×cb)→Prop
 | [],[]=>True
 | p :: ps,q :: qs=>(∃o,s.heap p.1 p.2=some o∧iA s nm nn o=some q.2)∧(q.1.1=0→p=q.1)∧lz s nm nn ps qs
 | _,_=>False
theorem uO {s:St} {nm nn:Nm}:∀{ps:Nm} {qs:List ((Nat×Nat)×cb)},lz s nm nn ps qs→ps.length=qs.length∧∀(k:Nat) (p:Nat×Nat) (q:(Nat×Nat)×cb),ps[k]? = some p→qs[k]? = some q →
  (∃o,s.heap p.1 p.2=some o∧iA s nm nn o=some q.2)∧(q.1.1=0→p=q.1)
 | [],[],_=>⟨rfl,fun k p q h=>by simp at h⟩
 | [],q :: qs,h=>h.elim
 | p :: ps,[],h=>h.elim
 | p :: ps,q :: qs,h=>by
  obtain⟨h1,h2,h3⟩:=h
  obtain⟨h4,h5⟩:=uO h3
  refine⟨by simp[h4],fun k p' q' hp hq=>?_⟩
  cases k with
  | zero=>simp at hp hq;subst hp hq;exact⟨h1,h2⟩
  | succ k=>exact h5 k p' q' (by simpa using hp) (by simpa using hq)
theorem Do {s:St} {nm nn:Nm}:∀{l:List (Nat×PV)},ly s nm nn l→∀p∈l,o5 s nm nn (s.env p.1)=some p.2
 | [],_,p,hp=>by cases hp
 | q :: r,h,p,hp=>by
  rcases List.mem_cons.1 hp with rfl | hp
  ·exact h.1
  ·exact Do h.2 p hp
theorem IW (tl:List (Nat×PV)) (nm:Nm) (ol:List ((Nat×Nat)×cb)) (nx:List (Nat×Nat)) (henv:ly s nm (ol.map (·.1)) tl) (hobj:lz s nm (ol.map (·.1)) nm ol)
  (hnm:nm.Nodup) (hnn:(ol.map (·.1)).Nodup) (hnx:ol.all (fun q=>Nat.blt q.1.2 (jS nx q.1.1))=true) (hnx0:Nat.ble (s.next 0) (jS nx 0)=true):eH N s (lit tl ol nx s.X):=
 IH tl nm ol nx hnm hnn (uO hobj).1 (Do henv) (fun k p q h1 h2=>((uO hobj).2 k p q h1 h2).1) (fun k p q h1 h2=>((uO hobj).2 k p q h1 h2).2)
  (fun q hq=>by rw[List.all_eq_true]at hnx;simpa [Nat.blt_eq] using hnx q hq) (Nat.le_of_ble_eq_true hnx0)
def kF (s:St):Nm→List cS→Prop
 | [],[]=>True
 | p :: ps,q :: qs=>s.heap p.1 p.2=some (.arr q.1 q.2.1 false q.2.2)∧kF s ps qs
 | _,_=>False
def mn (s:St) (nb:Nat) (names:Nm):Nat→List (List PV)→Prop
 | _,[]=>True
 | i,cs' :: r=>(∃cs,s.heap 0 i=some (.box cs)∧ct (s.retC nb names) cs=some cs')∧mn s nb names (i+1) r
theorem uP {s:St}:∀{ps:Nm} {qs:List cS},kF s ps qs→ps.length=qs.length∧∀(k:Nat) (p:Nat×Nat) (q:cS),ps[k]? = some p→qs[k]? = some q→s.heap p.1 p.2=some (.arr q.1 q.2.1 false q.2.2)
 | [],[],_=>⟨rfl,fun k p q h=>by simp at h⟩
 | [],q :: qs,h=>h.elim
 | p :: ps,[],h=>h.elim
 | p :: ps,q :: qs,h=>by
  obtain⟨h1,h3⟩:=h
  obtain⟨h4,h5⟩:=uP h3
  refine⟨by simp[h4],fun k p' q' hp hq=>?_⟩
  cases k with
  | zero=>simp at hp hq;subst hp hq;exact h1
  | succ k=>exact h5 k p' q' (by simpa using hp) (by simpa using hq)
theorem Dp {s:St} {nb:Nat} {names:Nm}:∀{l:List (List PV)} {j:Nat},mn s nb names j l→∀(i:Nat) (cs':List PV),l[i]? = some cs'→∃cs,s.heap 0 (j+i)=some (.box cs)∧ct (s.retC nb names) cs=some cs'
 | [],_,_,i,cs',h=>by simp at h
 | c :: r,j,h,i,cs',hi=>by
  cases i with
  | zero=>simp at hi;subst hi;exact h.1
  | succ i=>
   have:=Dp h.2 i cs' (by simpa using hi)
   rwa [show j+1+i=j+(i+1) by omega]at this
def o6 (N:Nat):ResultVar→Bool
 | .tmp t=>Nat.blt t N
 | .cell a _=>Nat.blt a N
theorem Dq {rs:Array ResultVar} {r:PV} {boxes':List (List PV)} {rows':List cS} {e:Exit} (names:Nm) {pv:PV} (hpv:s.resPV P rs.toList=some pv) (hr:s.retV boxes'.length names pv=some r) (hrow:kF s names rows')
  (hbox:mn s boxes'.length names 0 boxes') (hnd:names.Nodup) (hex:e = .normal∨e = .ret) (hlt:rs.toList.all (o6 N)=true):mZ P N rs r boxes' rows' e s:=by
 refine⟨hex,fun x hx=>?_,names,hnd,(uP hrow).1,(uP hrow).2,fun i cs' h=>?_,pv,hpv,hr⟩
 ·rw[List.all_eq_true]at hlt
  have:=hlt x hx
  cases x<;>simpa [o6,Nat.blt_eq] using this
 ·have:=Dp hbox i cs' h
  rwa [Nat.zero_add]at this
end Go.Proofs.YtjklegmimpehlaaGreat.Ab
