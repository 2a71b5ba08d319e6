import Derived.Test.YtmompdklolomfaaAbAo
namespace Go.Proofs.Ytmompdklolomfaa.Ab
open Go Go.RowKit
set_option linter.unusedVariables false
set_option linter.unusedSimpArgs false
variable {P : Program} {N : Nat} {ops : Array Oper} {s : St} {dst : Option Tmp} {type : TypeId} {pos : String} {after : Array Edge} {guard : Option (Nat × Bool)}
theorem all_one {l : List PV} (h : l.all PV.one = true) : ∀ c ∈ l, c.one = true := by simpa [List.all_eq_true] using h
theorem do_box {d : Nat} {t : TypeId} {x : Operand} {pv : PV} {cs : List PV} (hx : s.ev x = pv) (hcs : pv.cells = cs) (ho : cs.all PV.one = true) :
  Does P N ops ⟨some d, .box t x, type, pos, after, guard⟩ s ⟨[], .ptr d (s.next d) 0, [((d, s.next d), some (.box cs))], [d]⟩ := by
 subst hcs
 exact does_box hx (all_one ho)
theorem do_new {d : Nat} {t : TypeId} {ti : TyI} (ht : tyOf P t = some ti) (hz : ti.zero.isEmpty = false) (ho : ti.zero.all PV.one = true) :
  Does P N ops ⟨some d, .alloc t, type, pos, after, guard⟩ s ⟨[], .ptr d (s.next d) 0, [((d, s.next d), some (.box ti.zero))], [d]⟩ :=
 does_new ht (by intro h; rw [h] at hz; cases hz) (all_one ho)
theorem do_store {t : TypeId} {p x : Operand} {d n off : Nat} {cs cs' : List PV} {pv : PV} {ti : TyI} (hp : s.ev p = .ptr d n off) (hx : s.ev x = pv) (hb : s.heap d n = some (.box cs)) (ht : tyOf P t = some ti)
  (ho : pv.cells.all PV.one = true) (hsz : pv.cells.length = ti.size) (hfit : Nat.ble (off + ti.size) cs.length = true) (hcs : splice cs off pv.cells = cs') :
  Does P N ops ⟨none, .store t p x, type, pos, after, guard⟩ s ⟨[], .skip, [((d, n), some (.box cs'))], []⟩ := by
 subst hcs
 exact does_store hp hx hb ht (all_one ho) hsz (Nat.le_of_ble_eq_true hfit)
theorem hand_nil : Hand s [] [] [] [] := ⟨List.nodup_nil, List.nodup_nil, rfl, rfl, fun i p cs h => by simp at h, fun i p cs h => by simp at h⟩
theorem do_call0 {fo : Operand} {xs : Array Operand} {tys : Array TypeId} {f : FuncId} {caps args : List PV} {rows' : List Row} {r r' : PV} (d0 : Nat) (fz : Bool) (hok : Ok P f args [] [] r [] rows') (hf : s.ev fo = .fn f caps) (hent : Ent P f)
  (hargs : mapO (s.arg1 [] [] []) (xs.toList.map s.ev ++ caps) = some args) (hr : raiV [] d0 (s.next d0) r = some r') :
  Does P N ops ⟨dst, .call ⟨.value fo, xs, tys⟩, type, pos, after, guard⟩ s ⟨[], r', rowU d0 (s.next d0) fz 0 rows' ++ [], List.replicate (rows'.length + 1) d0⟩ :=
 does_call [] [] [] [] [] d0 fz hf hent hand_nil (by simp) hargs rfl hok rfl rfl hr (.inl (by simp))
def envOk (s : St) (nm nn : Nm) : List (Nat × PV) → Prop
 | [] => True
 | p :: r => ren1 s nm nn (s.env p.1) = some p.2 ∧ envOk s nm nn r
def objOk (s : St) (nm nn : Nm) : Nm → List ((Nat × Nat) × AObj) → Prop
 | [], [] => True
 | p :: ps, q :: qs => (∃ o, s.heap p.1 p.2 = some o ∧ renO s nm nn o = some q.2) ∧ (q.1.1 = 0 → p = q.1) ∧ objOk s nm nn ps qs
 | _, _ => False
theorem objOk_get {s : St} {nm nn : Nm} : ∀ {ps : Nm} {qs : List ((Nat × Nat) × AObj)}, objOk s nm nn ps qs → ps.length = qs.length ∧ ∀ (k : Nat) (p : Nat × Nat) (q : (Nat × Nat) × AObj), ps[k]? = some p → qs[k]? = some q →
  (∃ o, s.heap p.1 p.2 = some o ∧ renO s nm nn o = some q.2) ∧ (q.1.1 = 0 → p = q.1)
 | [], [], _ => ⟨rfl, fun k p q h => by simp at h⟩
 | [], q :: qs, h => h.elim
 | p :: ps, [], h => h.elim
 | p :: ps, q :: qs, h => by
  obtain ⟨h1, h2, h3⟩ := h
  obtain ⟨h4, h5⟩ := objOk_get h3
  refine ⟨by simp [h4], fun k p' q' hp hq => ?_⟩
  cases k with
  | zero => simp at hp hq; subst hp hq; exact ⟨h1, h2⟩
  | succ k => exact h5 k p' q' (by simpa using hp) (by simpa using hq)
theorem envOk_get {s : St} {nm nn : Nm} : ∀ {l : List (Nat × PV)}, envOk s nm nn l → ∀ p ∈ l, ren1 s nm nn (s.env p.1) = some p.2
 | [], _, p, hp => by cases hp
 | q :: r, h, p, hp => by
  rcases List.mem_cons.1 hp with rfl | hp
  ·exact h.1
  ·exact envOk_get h.2 p hp
theorem reb_lit (tl : List (Nat × PV)) (nm : Nm) (ol : List ((Nat × Nat) × AObj)) (nx : List (Nat × Nat)) (henv : envOk s nm (ol.map (·.1)) tl) (hobj : objOk s nm (ol.map (·.1)) nm ol)
  (hnm : nm.Nodup) (hnn : (ol.map (·.1)).Nodup) (hnx : ol.all (fun q => Nat.blt q.1.2 (assocN nx q.1.1)) = true) (hnx0 : Nat.ble (s.next 0) (assocN nx 0) = true) : Reb N s (lit tl ol nx s.X) :=
 reb_of tl nm ol nx hnm hnn (objOk_get hobj).1 (envOk_get henv) (fun k p q h1 h2 => ((objOk_get hobj).2 k p q h1 h2).1) (fun k p q h1 h2 => ((objOk_get hobj).2 k p q h1 h2).2)
  (fun q hq => by rw [List.all_eq_true] at hnx; simpa [Nat.blt_eq] using hnx q hq) (Nat.le_of_ble_eq_true hnx0)
def rowsOk (s : St) : Nm → List Row → Prop
 | [], [] => True
 | p :: ps, q :: qs => s.heap p.1 p.2 = some (.arr q.1 q.2.1 false q.2.2) ∧ rowsOk s ps qs
 | _, _ => False
def boxesOk (s : St) (nb : Nat) (names : Nm) : Nat → List (List PV) → Prop
 | _, [] => True
 | i, cs' :: r => (∃ cs, s.heap 0 i = some (.box cs) ∧ mapO (s.retC nb names) cs = some cs') ∧ boxesOk s nb names (i + 1) r
theorem rowsOk_get {s : St} : ∀ {ps : Nm} {qs : List Row}, rowsOk s ps qs → ps.length = qs.length ∧ ∀ (k : Nat) (p : Nat × Nat) (q : Row), ps[k]? = some p → qs[k]? = some q → s.heap p.1 p.2 = some (.arr q.1 q.2.1 false q.2.2)
 | [], [], _ => ⟨rfl, fun k p q h => by simp at h⟩
 | [], q :: qs, h => h.elim
 | p :: ps, [], h => h.elim
 | p :: ps, q :: qs, h => by
  obtain ⟨h1, h3⟩ := h
  obtain ⟨h4, h5⟩ := rowsOk_get h3
  refine ⟨by simp [h4], fun k p' q' hp hq => ?_⟩
  cases k with
  | zero => simp at hp hq; subst hp hq; exact h1
  | succ k => exact h5 k p' q' (by simpa using hp) (by simpa using hq)
theorem boxesOk_get {s : St} {nb : Nat} {names : Nm} : ∀ {l : List (List PV)} {j : Nat}, boxesOk s nb names j l → ∀ (i : Nat) (cs' : List PV), l[i]? = some cs' → ∃ cs, s.heap 0 (j + i) = some (.box cs) ∧ mapO (s.retC nb names) cs = some cs'
 | [], _, _, i, cs', h => by simp at h
 | c :: r, j, h, i, cs', hi => by
  cases i with
  | zero => simp at hi; subst hi; exact h.1
  | succ i =>
   have := boxesOk_get h.2 i cs' (by simpa using hi)
   rwa [show j + 1 + i = j + (i + 1) by omega] at this
def resLt (N : Nat) : ResultVar → Bool
 | .tmp t => Nat.blt t N
 | .cell a _ => Nat.blt a N
theorem ret_ok {rs : Array ResultVar} {r : PV} {boxes' : List (List PV)} {rows' : List Row} {e : Exit} (names : Nm) {pv : PV} (hpv : s.resPV P rs.toList = some pv) (hr : s.retV boxes'.length names pv = some r) (hrow : rowsOk s names rows')
  (hbox : boxesOk s boxes'.length names 0 boxes') (hnd : names.Nodup) (hex : e = .normal ∨ e = .ret) (hlt : rs.toList.all (resLt N) = true) : RetOk P N rs r boxes' rows' e s := by
 refine ⟨hex, fun x hx => ?_, names, hnd, (rowsOk_get hrow).1, (rowsOk_get hrow).2, fun i cs' h => ?_, pv, hpv, hr⟩
 ·rw [List.all_eq_true] at hlt
  have := hlt x hx
  cases x <;> simpa [resLt, Nat.blt_eq] using this
 ·have := boxesOk_get hbox i cs' h
  rwa [Nat.zero_add] at this
end Go.Proofs.Ytmompdklolomfaa.Ab
