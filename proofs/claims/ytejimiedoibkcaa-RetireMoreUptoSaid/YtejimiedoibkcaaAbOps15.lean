/- An index that is no constant, into an array within other cells. -/
import Derived.Test.YtejimiedoibkcaaAbOps14
namespace Go.Proofs.Ytejimiedoibkcaa.Ab
open Go Go.RowKit
set_option linter.unusedVariables false
set_option linter.unusedSimpArgs false
variable {P : Program} {N : Nat} {ops : Array Oper} {dst : Option Tmp} {type : TypeId} {pos : String} {after : Array Edge} {guard : Option (Nat × Bool)} {s : St}
theorem loadPV_arr {α : Type} {f : α → PV} {ti : TyI} {l : List α} {pre post : List PV} {i off : Nat} {x : α} (ha : ti.d.agg = false) (hp : pre.length = off) (h : l[i]? = some x) : loadPV ti ((pre ++ (List.map f l ++ post)).drop (off + i * 1)) = some (f x) := by
  have hi := (List.getElem?_eq_some_iff.1 h).1
  simp only [loadPV, ha, Bool.false_eq_true, if_false]
  rw [List.getElem?_drop, ← hp, List.getElem?_append_right (by omega), List.getElem?_append_left (by rw [List.length_map]; omega), List.getElem?_map, show pre.length + i * 1 + 0 - pre.length = i by omega, h]
  rfl
theorem loadPV_arr0 {α : Type} {f : α → PV} {ti : TyI} {l : List α} {post : List PV} {i : Nat} {x : α} (ha : ti.d.agg = false) (h : l[i]? = some x) : loadPV ti ((List.map f l ++ post).drop (i * 1)) = some (f x) := by
  have := loadPV_arr (f := f) (pre := []) (post := post) (off := 0) ha rfl h
  simpa using this
/-- a list, told cell by cell -/
theorem map_getD {α : Type} {f : α → PV} {z : α} {L : List α} : List.map f L = (List.range L.length).map (fun j => f (L.getD j z)) := by
  apply List.ext_getElem
  · simp
  · intro k h1 h2
    simp only [List.length_map] at h1
    simp [List.getD_eq_getElem?_getD, List.getElem?_eq_getElem h1]
theorem mid_get {β : Type} (pre X post : List β) (k : Nat) : (pre ++ (X ++ post))[k]? = if k < pre.length then pre[k]? else if k < pre.length + X.length then X[k - pre.length]? else post[k - pre.length - X.length]? := by
  by_cases h : k < pre.length
  · rw [if_pos h, List.getElem?_append_left h]
  · rw [if_neg h, List.getElem?_append_right (by omega)]
    by_cases h2 : k < pre.length + X.length
    · rw [if_pos h2, List.getElem?_append_left (by omega)]
    · rw [if_neg h2, List.getElem?_append_right (by omega)]
theorem do_storeY {α : Type} {f : α → PV} {t : TypeId} {p x : Operand} {d n i off ln : Nat} {l L : List α} {pre post cs cs' : List PV} {y a z : α} {ti : TyI} (hp : s.ev p = .ptr d n (off + i * 1)) (hx : s.ev x = f a) (hb : s.heap d n = some (.box cs)) (ht : tyOf P t = some ti)
    (hcs : cs = pre ++ (List.map f l ++ post)) (h1 : (f a).cells = [f a]) (ho : (f a).one = true) (hs : ti.size = 1) (hi : l[i]? = some y) (hL : some (List.set l i a) = some L) (hcs' : pre.length = off ∧ l.length = ln ∧ cs' = pre ++ ((List.range ln).map (fun j => f (L.getD j z)) ++ post)) :
    Does P N ops ⟨none, .store t p x, type, pos, after, guard⟩ s ⟨[], .skip, [((d, n), some (.box cs'))], []⟩ := by
  obtain ⟨hpo, hln, hc2⟩ := hcs'
  have hlt := (List.getElem?_eq_some_iff.1 hi).1
  have hLe : List.set l i a = L := Option.some.inj hL
  have hLl : L.length = ln := by rw [← hLe, List.length_set, hln]
  have hlen : cs.length = off + (l.length + post.length) := by rw [hcs, List.length_append, List.length_append, List.length_map, hpo]
  have h := does_store (P := P) (N := N) (ops := ops) (type := type) (pos := pos) (after := after) (guard := guard) hp hx hb ht (by rw [h1]; simpa using ho) (by rw [h1, hs]; rfl) (by rw [hs, hlen]; omega)
  have e : splice cs (off + i * 1) (f a).cells = cs' := by
    rw [hc2, ← hLl, ← map_getD, ← hLe, h1, splice]
    apply List.ext_getElem?
    intro k
    rw [splice_get (by simp only [List.length_singleton]; omega), List.length_singleton]
    rw [mid_get, hcs, mid_get, List.length_map, List.length_map, List.length_set, hpo]
    by_cases e : k = off + i
    · subst e
      rw [if_pos (by omega), if_neg (by omega), if_pos (by omega), List.getElem?_map, List.getElem?_set, show off + i - (off + i * 1) = 0 by omega, show off + i - off = i by omega]
      simp [hlt]
    · rw [if_neg (by omega)]
      by_cases e1 : k < off
      · rw [if_pos e1, if_pos e1]
      · rw [if_neg e1, if_neg e1]
        by_cases e2 : k < off + l.length
        · rw [if_pos e2, if_pos e2, List.getElem?_map, List.getElem?_map, List.getElem?_set_ne (by omega)]
        · rw [if_neg e2, if_neg e2]
  rw [e] at h
  exact h
end Go.Proofs.Ytejimiedoibkcaa.Ab
