import Derived.Below
import Derived.Deep.Draws
import Derived.Maps.AppendAt
import Derived.Deep.AppendLies
import Derived.OwnWalk
import Derived.Orders
import Derived.Still
import Derived.Tactics
import Derived.Laws.Rows
import Derived.Laws.CopyRow
import Derived.Deep.LoopGhost
namespace Go.Proofs.Ytmompdklolomfaa.Ab
open Go Go.RowKit
inductive PV where
 | undef
 | skip
 | bool (b : Bool)
 | int (k : IntKind) (n : Int)
 | str (s : ByteArray)
 | nil
 | agg (cs : List PV)
 | tup (vs : List PV)
 | sl (sz : Nat) (xs : List PV)
 | own (d n : Nat)
 | ptr (d n off : Nat)
 | eptr (d n sz i off : Nat)
 | rptr (cs : List PV)
 | fn (f : FuncId) (caps : List PV)
 | fresh (e sz : Nat) (xs : List PV)
 | ref (cs : List PV)
 | nilf
 | mp (d n : Nat)
 | bsl (d n m : Nat)
 deriving Inhabited
def PV.cells : PV → List PV
 | .agg cs => cs
 | v => [v]
def PV.one : PV → Bool
 | .agg _ | .tup _ | .undef | .skip | .fresh .. | .ref _ => false
 | _ => true
def flat (xs : List PV) : List PV := xs.flatMap PV.cells
theorem flat_append (xs ys : List PV) : flat (xs ++ ys) = flat xs ++ flat ys := by simp [flat]
theorem flat_length {sz : Nat} : ∀ {xs : List PV}, (∀ x ∈ xs, x.cells.length = sz) → (flat xs).length = xs.length * sz
 | [], _ => by simp [flat]
 | x :: xs, h => by
  have h1 := h x List.mem_cons_self
  have h2 := flat_length (xs := xs) fun y hy => h y (List.mem_cons_of_mem _ hy)
  simp only [flat, List.flatMap_cons, List.length_append, List.length_cons] at h2 ⊢
  rw [h1, h2, Nat.succ_mul, Nat.add_comm]
theorem flat_get {sz : Nat} : ∀ {xs : List PV}, (∀ x ∈ xs, x.cells.length = sz) → ∀ {i : Nat} {x : PV}, xs[i]? = some x → ∀ {j : Nat} {c : PV}, x.cells[j]? = some c → (flat xs)[i * sz + j]? = some c
 | [], _, i, x, hx, _, _, _ => by simp at hx
 | y :: ys, h, 0, x, hx, j, c, hc => by
  have hy : y = x := by simpa using hx
  subst hy
  have hj : j < y.cells.length := (List.getElem?_eq_some_iff.1 hc).1
  simp only [flat, List.flatMap_cons, Nat.zero_mul, Nat.zero_add]
  rw [List.getElem?_append_left hj]; exact hc
 | y :: ys, h, i + 1, x, hx, j, c, hc => by
  have h1 := h y List.mem_cons_self
  have hx' : ys[i]? = some x := by simpa using hx
  have := flat_get (xs := ys) (fun z hz => h z (List.mem_cons_of_mem _ hz)) hx' hc
  simp only [flat, List.flatMap_cons] at this ⊢
  rw [List.getElem?_append_right (by rw [h1, Nat.succ_mul]; omega), h1, show (i + 1) * sz + j - sz = i * sz + j by rw [Nat.succ_mul]; omega]
  exact this
theorem flat_drop {sz : Nat} {xs : List PV} (h : ∀ x ∈ xs, x.cells.length = sz) (k : Nat) : flat (xs.drop k) = (flat xs).drop (k * sz) := by
 induction k generalizing xs with
 | zero => simp
 | succ k ih =>
  cases xs with
  | nil => simp [flat]
  | cons y ys =>
   have h1 := h y List.mem_cons_self
   rw [List.drop_succ_cons, ih fun z hz => h z (List.mem_cons_of_mem _ hz)]
   simp only [flat, List.flatMap_cons]
   rw [Nat.succ_mul, List.drop_append, h1, List.drop_of_length_le (i := k * sz + sz) (l := y.cells) (by rw [h1]; exact Nat.le_add_left _ _), List.nil_append, Nat.add_sub_cancel]
theorem flat_take {sz : Nat} {xs : List PV} (h : ∀ x ∈ xs, x.cells.length = sz) (k : Nat) : flat (xs.take k) = (flat xs).take (k * sz) := by
 induction k generalizing xs with
 | zero => simp [flat]
 | succ k ih =>
  cases xs with
  | nil => simp [flat]
  | cons y ys =>
   have h1 := h y List.mem_cons_self
   have hz := ih (xs := ys) fun z hz => h z (List.mem_cons_of_mem _ hz)
   simp only [flat, List.take_succ_cons, List.flatMap_cons] at hz ⊢
   rw [hz, Nat.succ_mul, List.take_append, h1, List.take_of_length_le (i := k * sz + sz) (by rw [h1]; exact Nat.le_add_left _ _), Nat.add_sub_cancel]
abbrev Site := Nat → Nat → Option Value
def noSite : Site := fun _ _ => none
theorem block_add (a : Addr) (n : Nat) : (a.add n).block = a.block := by unfold Addr.add; split <;> rfl
theorem add_add (a : Addr) (i j : Nat) : (a.add i).add j = a.add (i + j) := by
 unfold Addr.add
 by_cases hi : i = 0 <;> by_cases hj : j = 0 <;> simp [hi, hj, Nat.add_assoc]
theorem add_flat (g k : Nat) : (⟨g, 0, none⟩ : Addr).add k = ⟨g, k, none⟩ := by unfold Addr.add; split <;> simp_all
inductive Rep (w : World) (M : Nat → Prop) : Site → PV → Value → Prop
 | undef (J v) : Rep w M J .undef v
 | skip (J) : Rep w M J .skip Go.undef
 | bool (J b) : Rep w M J (.bool b) (.bool b)
 | int (J k n) : Rep w M J (.int k n) (.int k n)
 | str (J s) : Rep w M J (.str s) (.string s)
 | nil (J) : Rep w M J .nil (.slice none 0 0)
 | agg (J) (cs : List PV) (vs : Array Value) (hl : cs.length = vs.size) (h : ∀ (i : Nat) (c : PV) (v : Value), cs[i]? = some c → vs[i]? = some v → Rep w M J c v) : Rep w M J (.agg cs) (.agg vs)
 | tup (J) (cs : List PV) (vs : Array Value) (hl : cs.length = vs.size) (h : ∀ (i : Nat) (c : PV) (v : Value), cs[i]? = some c → vs[i]? = some v → Rep w M J c v) : Rep w M J (.tup cs) (.tuple vs)
 | sl (J) (sz : Nat) (xs : List PV) (a : Addr) (cap : Nat) (g : Nat → Value) (hp : 0 < sz) (hw : ∀ x ∈ xs, x.cells.length = sz) (ho : ∀ c ∈ flat xs, c.one = true) (hle : xs.length ≤ cap) (hM : xs ≠ [] → ¬ M a.block)
   (hc : ∀ (k : Nat) (c : PV), (flat xs)[k]? = some c → w.cell? (a.add k) = some (g k)) (hr : ∀ (k : Nat) (c : PV), (flat xs)[k]? = some c → Rep w M noSite c (g k)) : Rep w M J (.sl sz xs) (.slice (some a) xs.length cap)
 | sl0 (J sz cap) : Rep w M J (.sl sz []) (.slice none 0 cap)
 | rptr (J) (cs : List PV) (a : Addr) (g : Nat → Value) (ho : ∀ c ∈ cs, c.one = true) (hM : cs ≠ [] → ¬ M a.block)
   (hc : ∀ (k : Nat) (c : PV), cs[k]? = some c → w.cell? (a.add k) = some (g k)) (hr : ∀ (k : Nat) (c : PV), cs[k]? = some c → Rep w M noSite c (g k)) : Rep w M J (.rptr cs) (.pointer (some a))
 | fn (J f) (caps : List PV) (vs : Array Value) (hl : caps.length = vs.size) (h : ∀ (i : Nat) (c : PV) (v : Value), caps[i]? = some c → vs[i]? = some v → Rep w M J c v) : Rep w M J (.fn f caps) (.func (.func f) #[] vs)
 | own (J d n A len cap) (h : J d n = some (.slice A len cap)) : Rep w M J (.own d n) (.slice A len cap)
 | own0 (J d n a) (h : J d n = some (.slice none 0 0)) : Rep w M J (.own d n) (.slice (some a) 0 0)
 | ptr (J d n off g) (h : J d n = some (.pointer (some ⟨g, 0, none⟩))) : Rep w M J (.ptr d n off) (.pointer (some ⟨g, off, none⟩))
 | eptr (J d n sz i off g len cap) (h : J d n = some (.slice (some ⟨g, 0, none⟩) len cap)) : Rep w M J (.eptr d n sz i off) (.pointer (some ⟨g, i * sz + off, none⟩))
 | nilf (J) : Rep w M J .nilf .nilFunc
 | mp (J d n g) (h : J d n = some (.map (some g))) : Rep w M J (.mp d n) (.map (some g))
 | bsl (J d n m g cap) (h : J d n = some (.pointer (some ⟨g, 0, none⟩))) (hc : m ≤ cap) : Rep w M J (.bsl d n m) (.slice (some ⟨g, 0, none⟩) m cap)
theorem Rep.mono {w w' : World} {M M' : Nat → Prop} {J J' : Site} {pv : PV} {v : Value} (h : Rep w M J pv v)
  (hw : ∀ b, b < w.heap.size → ¬ M b → w'.heap[b]? = w.heap[b]?) (hM : ∀ b, b < w.heap.size → M' b → M b) (hJ : ∀ d n v, J d n = some v → J' d n = some v) : Rep w' M' J' pv v := by
 induction h generalizing J' with
 | undef J v => exact .undef _ _
 | skip J => exact .skip _
 | bool J b => exact .bool _ _
 | int J k n => exact .int _ _ _
 | str J s => exact .str _ _
 | nil J => exact .nil _
 | agg J cs vs hl h ih => exact .agg _ _ _ hl fun i c v hc hv => ih i c v hc hv hJ
 | tup J cs vs hl h ih => exact .tup _ _ _ hl fun i c v hc hv => ih i c v hc hv hJ
 | sl J sz xs a cap g hp hw' ho hle hN hc hr ih =>
  cases xs with
  | nil => exact .sl _ _ _ _ _ g hp hw' ho hle (fun h => absurd rfl h) (fun k c hk => by simp [flat] at hk) (fun k c hk => by simp [flat] at hk)
  | cons x r =>
   have hpos : 0 < (flat (x :: r)).length := by rw [flat_length hw', List.length_cons, Nat.succ_mul]; omega
   have hlt : a.block < w.heap.size := by
    have := World.block_lt_of_cell? w _ (hc 0 _ (List.getElem?_eq_getElem hpos))
    rwa [block_add] at this
   refine .sl _ _ _ _ _ g hp hw' ho hle (fun hne h => hN hne (hM _ hlt h)) (fun k c hk => ?_) (fun k c hk => ih k c hk (fun _ _ _ h => h))
   exact (World.cell?_of_block (by rw [block_add]; exact hw _ hlt (hN (by simp)))).trans (hc k c hk)
 | sl0 J sz cap => exact .sl0 _ _ _
 | rptr J cs a g ho hN hc hr ih =>
  cases cs with
  | nil => exact .rptr _ _ _ g ho (fun h => absurd rfl h) (fun k c hk => by simp at hk) (fun k c hk => by simp at hk)
  | cons c0 r =>
   have hlt : a.block < w.heap.size := by
    have := World.block_lt_of_cell? w _ (hc 0 c0 rfl)
    rwa [block_add] at this
   refine .rptr _ _ _ g ho (fun hne h => hN hne (hM _ hlt h)) (fun k c hk => ?_) (fun k c hk => ih k c hk (fun _ _ _ h => h))
   exact (World.cell?_of_block (by rw [block_add]; exact hw _ hlt (hN (by simp)))).trans (hc k c hk)
 | fn J f caps vs hl h ih => exact .fn _ _ _ _ hl fun i c v hc hv => ih i c v hc hv hJ
 | own J d n A len cap h => exact .own _ _ _ _ _ _ (hJ _ _ _ h)
 | own0 J d n a h => exact .own0 _ _ _ _ (hJ _ _ _ h)
 | ptr J d n off g h => exact .ptr _ _ _ _ _ (hJ _ _ _ h)
 | eptr J d n sz i off g len cap h => exact .eptr _ _ _ _ _ _ _ _ _ (hJ _ _ _ h)
 | nilf J => exact .nilf _
 | mp J d n g h => exact .mp _ _ _ _ (hJ _ _ _ h)
 | bsl J d n m g cap h hc => exact .bsl _ _ _ _ _ _ (hJ _ _ _ h) hc
end Go.Proofs.Ytmompdklolomfaa.Ab
namespace Go.Proofs.Ytmompdklolomfaa.Ab
open Go Go.RowKit
set_option linter.unusedVariables false
set_option linter.unusedSimpArgs false
theorem exc_bind {ε α β : Type} {x : Except ε α} {f : α → Except ε β} {r : β} (h : (x >>= f) = .ok r) : ∃ a, x = .ok a ∧ f a = .ok r := by
 cases x with
 | error e => cases h
 | ok a => exact ⟨a, rfl, h⟩
theorem viewStore_drawn {p : Program} {w : World} {at_ : Addr} {u : TypeId} {k : Addr} {v : Value} {b : Bool} {r : World × List Addr} (h : w.viewStore p at_ u k v b = .ok r) : r.1.drawn = w.drawn := by
 unfold World.viewStore at h
 simp only [] at h
 split at h
 ·obtain ⟨_, h0, _⟩ := exc_bind h
  cases h0
 ·obtain ⟨⟨c, e, fr, first, like, cells⟩, _, h⟩ := exc_bind h
  simp only [] at h
  split at h
  ·split at h
   ·obtain ⟨_, h0, _⟩ := exc_bind h
    cases h0
   ·obtain ⟨_, _, h⟩ := exc_bind h
    injection h with h
    rw [← h]
  ·cases h
theorem farStore_drawn {p : Program} {w : World} {a : Addr} {v : Value} {b : Bool} {r : World × List Addr} (h : w.farStore p a v b = .ok r) : r.1.drawn = w.drawn := by
 unfold World.farStore at h
 split at h
 ·split at h
  ·rename_i r' h2
   injection h with h
   rw [← h]; exact viewStore_drawn h2
  ·cases h
 ·cases h
theorem ask_drawn {α : Type} : ∀ (x : Ask α) (w : World), w.drawn ≤ (w.ask x).2.drawn
 | .done a, w => Nat.le_refl _
 | .ask what range k, w => by
  unfold World.ask
  dsimp only
  split
  ·exact ask_drawn _ _
  ·exact Nat.le_trans (Nat.le_succ w.drawn) (ask_drawn (k ((Question.extern what range).cut (w.tape w.drawn (.extern what range)))) { w with drawn := w.drawn + 1 })
theorem sys_drawn (w : World) (c : Sys) : w.drawn ≤ (w.sys c).2.drawn := by
 unfold World.sys
 split
 ·exact Nat.le_refl _
 ·rename_i h
  have := ask_drawn (Kernel.perform c w.os) w
  rw [h] at this
  exact this
theorem run_drawn {α : Type} {P : Program} : ∀ (x : Sem α) {w w' : World} {v : α}, x.run P w = .ok v w' → w.drawn ≤ w'.drawn
 | .pure a, w, w', v, h => by
  unfold Sem.run at h; injection h with _ h; rw [h]; exact Nat.le_refl _
 | .load m a k, w, w', v, h => by
  unfold Sem.run at h
  split at h
  ·exact run_drawn _ h
  ·split at h
   ·exact run_drawn _ h
   ·cases h
 | .store m a x k, w, w', v, h => by
  cases x with
  | agg _ => unfold Sem.run at h; cases h
  | tuple _ => unfold Sem.run at h; cases h
  | _ =>
   unfold Sem.run at h
   split at h
   ·split at h
    ·cases h
    ·have := run_drawn _ h
     exact this
   ·split at h
    ·rename_i w1 _ h2
     have := farStore_drawn h2
     exact this ▸ run_drawn _ h
    ·cases h
 | .new o k, w, w', v, h => by
  unfold Sem.run at h
  have := run_drawn _ h
  exact this
 | .shape r k, w, w', v, h => by unfold Sem.run at h; exact run_drawn _ h
 | .freeze a n k, w, w', v, h => by
  unfold Sem.run at h
  have := run_drawn _ h
  have e : (w.freeze a n).drawn = w.drawn := by unfold World.freeze; split <;> rfl
  rwa [e] at this
 | .frozen a k, w, w', v, h => by unfold Sem.run at h; exact run_drawn _ h
 | .getObj r k, w, w', v, h => by
  unfold Sem.run at h
  split at h
  ·cases h
  ·exact run_drawn _ h
  ·cases h
 | .setObj r o k, w, w', v, h => by
  unfold Sem.run at h
  split at h
  ·cases h
  ·have := run_drawn _ h
   exact this
  ·cases h
 | .choose q k, w, w', v, h => by
  unfold Sem.run at h
  split at h
  ·exact run_drawn _ h
  ·exact Nat.le_trans (Nat.le_succ w.drawn) (run_drawn (k (q.cut (w.tape w.drawn q))) h)
 | .sys c k, w, w', v, h => by unfold Sem.run at h; exact Nat.le_trans (sys_drawn w c) (run_drawn _ h)
 | .program k, w, w', v, h => by unfold Sem.run at h; exact run_drawn _ h
 | .mark m k, w, w', v, h => by unfold Sem.run at h; exact run_drawn _ h
 | .halt hh, w, w', v, h => by unfold Sem.run at h; cases h
end Go.Proofs.Ytmompdklolomfaa.Ab
namespace Go.Proofs.Ytmompdklolomfaa.Ab
open Go Go.RowKit
set_option linter.unusedVariables false
set_option linter.unusedSimpArgs false
inductive AObj where
 | box (cs : List PV)
 | arr (e sz : Nat) (fz : Bool) (xs : List PV)
 | mp (k : IntKind) (ks : List Int)
def AObj.mut : AObj → Bool
 | .box _ => true
 | .arr _ _ fz _ => !fz
 | .mp _ _ => true
structure Ctx where
 blk : Nat → Prop
 box : Nat → Option Value
structure St where
 env : Nat → PV
 heap : Nat → Nat → Option AObj
 next : Nat → Nat
 X : Ctx   -- blocks that aren't ours to read or to turn (a caller's)
def blockOf : Value → Option Nat
 | .slice (some a) _ _ => some a.block
 | .pointer (some a) => some a.block
 | .map (some g) => some g
 | _ => none
def OMut (s : St) (J : Site) (g : Nat) : Prop := ∃ d n o v, s.heap d n = some o ∧ o.mut = true ∧ J d n = some v ∧ blockOf v = some g
def Mut (s : St) (J : Site) (g : Nat) : Prop := s.X.blk g ∨ OMut s J g
def setOf (k : IntKind) (es : Array MapEntry) (ks : List Int) : Prop := es.toList.map (fun e => (e.key, e.val)) = ks.map (fun n => (.int k n, .bool true))
def ObjOk (w : World) (M : Nat → Prop) (J : Site) (d n : Nat) : AObj → Prop
 | .box cs => ∃ (g : Nat) (cur : Array Value) (t : TypeId), J d n = some (.pointer (some ⟨g, 0, none⟩)) ∧ w.heap[g]? = some (.cells cur t (0, 0)) ∧ cur.size = cs.length ∧ (∀ c ∈ cs, c.one = true) ∧
   ∀ (k : Nat) (c : PV) (v : Value), cs[k]? = some c → cur[k]? = some v → Rep w M J c v
 | .arr e sz _ xs => ∃ (v : Value) (ys : List Value), J d n = some v ∧ w.ownsRow 0 e sz v xs.length ys ∧ 0 < sz ∧ (∀ x ∈ xs, x.cells.length = sz) ∧ (∀ c ∈ flat xs, c.one = true) ∧
   ∀ (k : Nat) (c : PV) (y : Value), (flat xs)[k]? = some c → ys[k]? = some y → Rep w M noSite c y
 | .mp k ks => ∃ (g : Nat) (es : Array MapEntry) (clock : Nat), J d n = some (.map (some g)) ∧ w.heap[g]? = some (.map es clock) ∧ setOf k es ks
structure Sim (w0 : World) (Mv : Nat → Prop) (N : Nat) (J : Site) (s : St) (a : Act) (w : World) : Prop where
 size : a.tmps.size = N
 defers : a.defers = []
 env : ∀ t, t < N → Rep w (Mut s J) J (s.env t) (a.tmps.getD t Go.undef)
 obj : ∀ d n o, s.heap d n = some o → ObjOk w (Mut s J) J d n o
 sep : ∀ d n d' n' o o' v v' g, s.heap d n = some o → s.heap d' n' = some o' → J d n = some v → J d' n' = some v' → blockOf v = some g → blockOf v' = some g → d = d' ∧ n = n'
 nxt : ∀ d n, s.next d ≤ n → s.heap d n = none ∧ J d n = none
 frame : ∀ b, b < w0.heap.size → ¬ Mv b → w.heap[b]? = w0.heap[b]?
 mutb : ∀ g, OMut s J g → g < w0.heap.size → Mv g
 xlt : ∀ g, s.X.blk g → g < w.heap.size
 sepX : ∀ d n o v g, s.heap d n = some o → J d n = some v → blockOf v = some g → ¬ s.X.blk g
 ext : ∀ n v, s.X.box n = some v → J 0 n = some v
 grow : w0.heap.size ≤ w.heap.size
 os : w.os = w0.os
 tape : w.tape = w0.tape
 output : w.output = w0.output
 drawn : w0.drawn ≤ w.drawn
theorem Rep.oneCell {w : World} {M : Nat → Prop} {J : Site} {c : PV} {v : Value} (h : Rep w M J c v) (ho : c.one = true) : v.oneCell' = true := by
 cases h <;> first | rfl | (simp [PV.one] at ho)
theorem ObjOk.blk {w : World} {M : Nat → Prop} {J : Site} {d n : Nat} {o : AObj} (h : ObjOk w M J d n o) : ∃ v, J d n = some v ∧ ∀ g, blockOf v = some g → g < w.heap.size := by
 cases o with
 | box cs =>
  obtain ⟨g, cur, t, hJ, hh, _⟩ := h
  refine ⟨_, hJ, fun g' hg' => ?_⟩
  simp [blockOf] at hg'
  subst hg'
  exact (Array.getElem?_eq_some_iff.1 hh).1
 | arr e sz fz xs =>
  obtain ⟨v, ys, hJ, hown, _⟩ := h
  refine ⟨_, hJ, fun g' hg' => ?_⟩
  rcases hown.2 with ⟨rfl, _⟩ | ⟨g, cap, cur, rfl, _, hh, _⟩
  ·simp [blockOf] at hg'
  ·simp [blockOf] at hg'
   subst hg'
   exact (Array.getElem?_eq_some_iff.1 hh).1
 | mp k ks =>
  obtain ⟨g, es, clock, hJ, hh, _⟩ := h
  refine ⟨_, hJ, fun g' hg' => ?_⟩
  simp [blockOf] at hg'
  subst hg'
  exact (Array.getElem?_eq_some_iff.1 hh).1
theorem ObjOk.kept {w w' : World} {M M' : Nat → Prop} {J J' : Site} {d n : Nat} {o : AObj} (h : ObjOk w M J d n o) (hw : ∀ b, b < w.heap.size → ¬ M b → w'.heap[b]? = w.heap[b]?)
  (hM : ∀ b, b < w.heap.size → M' b → M b) (hJ : ∀ d n v, J d n = some v → J' d n = some v) (hb : ∀ v g, J d n = some v → blockOf v = some g → w'.heap[g]? = w.heap[g]?) : ObjOk w' M' J' d n o := by
 cases o with
 | box cs =>
  obtain ⟨g, cur, t, h1, h2, h3, h4, h5⟩ := h
  exact ⟨g, cur, t, hJ _ _ _ h1, (hb _ _ h1 rfl).trans h2, h3, h4, fun k c v hc hv => (h5 k c v hc hv).mono hw hM hJ⟩
 | arr e sz fz xs =>
  obtain ⟨v, ys, h1, h2, h3, h4, h5, h6⟩ := h
  refine ⟨v, ys, hJ _ _ _ h1, ⟨h2.1, ?_⟩, h3, h4, h5, fun k c y hc hy => (h6 k c y hc hy).mono hw hM (fun _ _ _ h => h)⟩
  rcases h2.2 with hn | ⟨g, cap, cur, rfl, hb0, hh, rest⟩
  ·exact .inl hn
  ·exact .inr ⟨g, cap, cur, rfl, hb0, (hb _ _ h1 rfl).trans hh, rest⟩
 | mp k ks =>
  obtain ⟨g, es, clock, h1, h2, h3⟩ := h
  exact ⟨g, es, clock, hJ _ _ _ h1, (hb _ _ h1 rfl).trans h2, h3⟩
theorem Sim.omut_lt {w0 : World} {Mv : Nat → Prop} {N : Nat} {J : Site} {s : St} {a : Act} {w : World} (h : Sim w0 Mv N J s a w) {g : Nat} (hg : OMut s J g) : g < w.heap.size := by
 obtain ⟨d, n, o, v, ho, _, hJ, hb⟩ := hg
 obtain ⟨v', hJ', hlt⟩ := (h.obj d n o ho).blk
 rw [hJ] at hJ'
 injection hJ' with hv
 subst hv
 exact hlt g hb
theorem Sim.update {w0 : World} {Mv : Nat → Prop} {N : Nat} {J : Site} {s : St} {a : Act} {w : World} (h : Sim w0 Mv N J s a w) {w' : World} {row : Option Nat} (hg : w.grownBy w' row) (hd : w.drawn ≤ w'.drawn)
  (hrow : ∀ g, row = some g → OMut s J g) {J' : Site} (hJ : ∀ d n v, J d n = some v → J' d n = some v) {s' : St} (henv : s'.env = s.env) (hX : s'.X = s.X)
  (hM : ∀ b, b < w.heap.size → OMut s' J' b → OMut s J b)
  (hobj : ∀ d n o, s'.heap d n = some o → (s.heap d n = some o ∧ ∀ v g, J d n = some v → blockOf v = some g → row ≠ some g) ∨ ObjOk w' (Mut s' J') J' d n o)
  (hsep : ∀ d n d' n' o o' v v' g, s'.heap d n = some o → s'.heap d' n' = some o' → J' d n = some v → J' d' n' = some v' → blockOf v = some g → blockOf v' = some g → d = d' ∧ n = n')
  (hnxt : ∀ d n, s'.next d ≤ n → s'.heap d n = none ∧ J' d n = none) (hsepX : ∀ d n o v g, s'.heap d n = some o → J' d n = some v → blockOf v = some g → ¬ s.X.blk g) : Sim w0 Mv N J' s' a w' := by
 have hwo : ∀ b, b < w.heap.size → ¬ OMut s J b → w'.heap[b]? = w.heap[b]? := fun b hb hm => hg.block b hb (fun e => hm (hrow b e.symm))
 have hw : ∀ b, b < w.heap.size → ¬ Mut s J b → w'.heap[b]? = w.heap[b]? := fun b hb hm => hwo b hb (fun h => hm (.inr h))
 have hMo := hM
 replace hM : ∀ b, b < w.heap.size → Mut s' J' b → Mut s J b := fun b hb hm => by
  rcases hm with hm | hm
  ·exact .inl (hX ▸ hm)
  ·exact .inr (hMo b hb hm)
 refine ⟨h.size, h.defers, fun t ht => ?_, fun d n o ho => ?_, hsep, hnxt, fun b hb hm => ?_, fun g hg' hlt => ?_, fun g hx => Nat.lt_of_lt_of_le (h.xlt g (hX ▸ hx)) hg.size, fun d n o v g h1 h2 h3 h4 => hsepX d n o v g h1 h2 h3 (hX ▸ h4), fun n v hv => hJ 0 n v (h.ext n v (hX ▸ hv)), Nat.le_trans h.grow hg.size, hg.os.trans h.os, hg.tape.trans h.tape, hg.output.trans h.output, Nat.le_trans h.drawn hd⟩
 ·rw [henv]; exact (h.env t ht).mono hw hM hJ
 ·rcases hobj d n o ho with ⟨h1, h2⟩ | h1
  ·refine (h.obj d n o h1).kept hw hM hJ (fun v g hv hb => ?_)
   have hlt : g < w.heap.size := by
    obtain ⟨v', hJ', hlt⟩ := (h.obj d n o h1).blk
    rw [hv] at hJ'
    injection hJ' with he
    subst he
    exact hlt g hb
   exact hg.block g hlt (fun e => h2 v g hv hb e.symm)
  ·exact h1
 ·have hb' : b < w.heap.size := Nat.lt_of_lt_of_le hb h.grow
  rw [hwo b hb' (fun hm' => hm (h.mutb b hm' hb))]
  exact h.frame b hb hm
 ·exact h.mutb g (hMo g (Nat.lt_of_lt_of_le hlt h.grow) hg') hlt
def upd {α : Type} (f : Nat → α) (i : Nat) (v : α) : Nat → α := fun j => if j = i then v else f j
def St.put (s : St) (d : Option Nat) (v : PV) : St :=
 match d with
 | some d => { s with env := upd s.env d v }
 | none => s
def St.setH (s : St) (d n : Nat) (o : Option AObj) : St := { s with heap := fun d' n' => if d' = d ∧ n' = n then o else s.heap d' n' }
def St.bump (s : St) (d : Nat) : St := { s with next := fun d' => if d' = d then s.next d + 1 else s.next d' }
theorem St.put_heap (s : St) (d : Option Nat) (v : PV) : (s.put d v).heap = s.heap := by cases d <;> rfl
theorem St.put_next (s : St) (d : Option Nat) (v : PV) : (s.put d v).next = s.next := by cases d <;> rfl
theorem St.put_X (s : St) (d : Option Nat) (v : PV) : (s.put d v).X = s.X := by cases d <;> rfl
theorem omut_put (s : St) (d : Option Nat) (v : PV) (J : Site) : OMut (s.put d v) J = OMut s J := by funext g; simp only [OMut, St.put_heap]
theorem mut_put (s : St) (d : Option Nat) (v : PV) (J : Site) : Mut (s.put d v) J = Mut s J := by funext g; simp only [Mut, omut_put, St.put_X]
theorem Sim.put {w0 : World} {Mv : Nat → Prop} {N : Nat} {J : Site} {s : St} {a : Act} {w : World} (h : Sim w0 Mv N J s a w) (d : Option Nat) {pv : PV} {v : Value} (hr : Rep w (Mut s J) J pv v) :
  Sim w0 Mv N J (s.put d pv) (a.put d v) w := by
 refine ⟨?_, ?_, fun t ht => ?_, fun d' n o ho => ?_, fun d' n d'' n' o o' v v' g h1 h2 => ?_, fun d' n hn => ?_, h.frame, fun g hg => ?_, fun g hx => h.xlt g (St.put_X s d pv ▸ hx), fun d' n o v' g h1 h2 h3 h4 => h.sepX d' n o v' g (St.put_heap s d pv ▸ h1) h2 h3 (St.put_X s d pv ▸ h4), fun n v' hv => h.ext n v' (St.put_X s d pv ▸ hv), h.grow, h.os, h.tape, h.output, h.drawn⟩
 ·cases d with
  | none => exact h.size
  | some d => simpa [Act.put] using h.size
 ·cases d <;> exact h.defers
 ·rw [mut_put]
  cases d with
  | none => exact h.env t ht
  | some d =>
   by_cases e : t = d
   ·subst e
    have hs : t < a.tmps.size := by rw [h.size]; exact ht
    simpa [St.put, upd, Act.put, hs] using hr
   ·have := h.env t ht
    simpa [St.put, upd, Act.put, e, Ne.symm e, Array.getElem?_setIfInBounds_ne] using this
 ·rw [St.put_heap] at ho; rw [mut_put]; exact h.obj d' n o ho
 ·rw [St.put_heap] at h1 h2; exact h.sep _ _ _ _ _ _ _ _ _ h1 h2
 ·rw [St.put_next] at hn; rw [St.put_heap]; exact h.nxt d' n hn
 ·rw [omut_put] at hg; exact h.mutb g hg
theorem Sim.drew {w0 : World} {Mv : Nat → Prop} {N : Nat} {J : Site} {s : St} {a : Act} {w : World} (h : Sim w0 Mv N J s a w) : Sim w0 Mv N J s a w.drew := by
 have hrep : ∀ {J' pv v}, Rep w (Mut s J) J' pv v → Rep w.drew (Mut s J) J' pv v := fun hr => hr.mono (fun _ _ _ => rfl) (fun _ _ h => h) (fun _ _ _ h => h)
 exact ⟨h.size, h.defers, fun t ht => hrep (h.env t ht), fun d n o ho => (h.obj d n o ho).kept (fun _ _ _ => rfl) (fun _ _ h => h) (fun _ _ _ h => h) (fun _ _ _ _ => rfl), h.sep, h.nxt, h.frame, h.mutb, h.xlt, h.sepX, h.ext, h.grow, h.os, h.tape, h.output, Nat.le_trans h.drawn (Nat.le_succ _)⟩
end Go.Proofs.Ytmompdklolomfaa.Ab
namespace Go.Proofs.Ytmompdklolomfaa.Ab
open Go Go.RowKit
set_option linter.unusedVariables false
set_option linter.unusedSimpArgs false
structure Fx where
 L : List (Nat × Nat)
 v : PV
 U : List ((Nat × Nat) × Option AObj)
 N : List Nat
def look : List ((Nat × Nat) × Option AObj) → Nat → Nat → Option AObj → Option AObj
 | [], _, _, o => o
 | ((d', n'), x) :: r, d, n, o => if d = d' ∧ n = n' then x else look r d n o
def cnt : List Nat → Nat → Nat
 | [], _ => 0
 | x :: r, d => (if d = x then 1 else 0) + cnt r d
def St.app (s : St) (d : Option Nat) (x : Fx) : St :=
 { env := (s.put d x.v).env, heap := fun a n => look x.U a n (s.heap a n), next := fun a => s.next a + cnt x.N a, X := s.X }
def pureFx (v : PV) : Fx := ⟨[], v, [], []⟩
theorem app_pure (s : St) (d : Option Nat) (v : PV) : s.app d (pureFx v) = s.put d v := by
 cases d <;> rfl
theorem app_read (s : St) (d : Option Nat) (L : List (Nat × Nat)) (v : PV) : s.app d ⟨L, v, [], []⟩ = s.put d v := by
 cases d <;> rfl
structure Agree (ops : Array Oper) (o : Oper) (x : Fx) (s s' : St) : Prop where
 env : ∀ t ∈ o.looksAt ops, s'.env t = s.env t
 rd : ∀ p ∈ x.L, s'.heap p.1 p.2 = s.heap p.1 p.2
 up : ∀ p ∈ x.U, s'.heap p.1.1 p.1.2 = s.heap p.1.1 p.1.2
 nx : ∀ d ∈ x.N, s'.next d = s.next d
theorem Agree.refl (ops : Array Oper) (o : Oper) (x : Fx) (s : St) : Agree ops o x s s := ⟨fun _ _ => rfl, fun _ _ => rfl, fun _ _ => rfl, fun _ _ => rfl⟩
def Does (P : Program) (N : Nat) (ops : Array Oper) (o : Oper) (s : St) (x : Fx) : Prop :=
 ∀ s', Agree ops o x s s' → (∀ t ∈ o.looksAt ops, t < N) → ∀ w0 Mv J a w, Sim w0 Mv N J s' a w → ∀ Q, o.wp P a w (fun a' w' => ∃ J', Sim w0 Mv N J' (s'.app o.dst x) a' w') Q
def guardOk (ops : Array Oper) (o : Oper) (s : St) : Option Bool :=
 match o.guard with
 | none => some true
 | some (j, want) => match (ops[j]?).bind (·.dst) with
  | none => some false
  | some t => match s.env t with
   | .bool b => some (b == want)
   | .skip => some false
   | _ => none
def Acts (P : Program) (N : Nat) (ops : Array Oper) (o : Oper) (s : St) (x : Fx) : Prop :=
 (guardOk ops o s = some true ∧ Does P N ops o s x) ∨ (guardOk ops o s = some false ∧ x = pureFx .skip)
theorem guard_tmp {ops : Array Oper} {o : Oper} {j : Nat} {want : Bool} {t : Nat} (hg : o.guard = some (j, want)) (ht : (ops[j]?).bind (·.dst) = some t) : t ∈ o.looksAt ops := by
 unfold Oper.looksAt
 rw [hg]
 simp [ht]
theorem guardOk_agree {ops : Array Oper} {o : Oper} {x : Fx} {s s' : St} (h : Agree ops o x s s') : guardOk ops o s' = guardOk ops o s := by
 unfold guardOk
 cases hg : o.guard with
 | none => rfl
 | some jw =>
  obtain ⟨j, want⟩ := jw
  dsimp only
  cases ht : (ops[j]?).bind (·.dst) with
  | none => rfl
  | some t => dsimp only; rw [h.env t (guard_tmp hg ht)]
theorem wanted_of {ops : Array Oper} {o : Oper} {s : St} {w0 : World} {Mv : Nat → Prop} {N : Nat} {J : Site} {a : Act} {w : World} (h : Sim w0 Mv N J s a w) (hN : ∀ t ∈ o.looksAt ops, t < N) {b : Bool}
  (hb : guardOk ops o s = some b) : Region.wanted o (yielded ops a.tmps) = b := by
 unfold guardOk at hb
 unfold Region.wanted
 cases hg : o.guard with
 | none => rw [hg] at hb; simpa using hb
 | some jw =>
  obtain ⟨j, want⟩ := jw
  rw [hg] at hb
  dsimp only at hb ⊢
  cases ht : (ops[j]?).bind (·.dst) with
  | none =>
   rw [ht] at hb
   have h1 : yielded ops a.tmps j = none := by unfold yielded; rw [ht]; rfl
   rw [h1]
   injection hb
  | some t =>
   rw [ht] at hb
   dsimp only at hb
   have hlt := hN t (guard_tmp hg ht)
   have hs : t < a.tmps.size := by rw [h.size]; exact hlt
   have he := h.env t hlt
   have hget : a.tmps.getD t Go.undef = a.tmps[t] := by simp [hs]
   rw [hget] at he
   have hy : yielded ops a.tmps j = match a.tmps[t] with | .bool b => some b | _ => none := by
    unfold yielded; rw [ht]; simp only [Option.bind_some, Array.getElem?_eq_getElem hs]; cases a.tmps[t] <;> rfl
   rw [hy]
   cases hv : s.env t with
   | bool c =>
    rw [hv] at hb he
    injection hb with hb
    generalize a.tmps[t] = u at he ⊢
    cases he
    rw [← hb]; cases c <;> cases want <;> rfl
   | skip =>
    rw [hv] at hb he
    injection hb with hb
    generalize a.tmps[t] = u at he ⊢
    cases he
    rw [← hb]; cases want <;> rfl
   | _ => rw [hv] at hb; cases hb
theorem Acts.op {P : Program} {N : Nat} {ops : Array Oper} {o : Oper} {s s' : St} {x : Fx} (h : Acts P N ops o s x) (hag : Agree ops o x s s') (hN : ∀ t ∈ o.looksAt ops, t < N)
  {w0 : World} {Mv : Nat → Prop} {J : Site} {a : Act} {w : World} (hs : Sim w0 Mv N J s' a w) {K : Act → World → Prop} (hK : ∀ J' a' w', Sim w0 Mv N J' (s'.app o.dst x) a' w' → K a' w') {Q : Exit → Act → World → Prop} :
  if Region.wanted o (yielded ops a.tmps) then o.wp P a w K Q ∨ (o.asks P a w ∧ LetsOut Q) else K (a.put o.dst Go.undef) w := by
 have hg := guardOk_agree hag
 rcases h with ⟨h1, h2⟩ | ⟨h1, rfl⟩
 ·rw [wanted_of hs hN (hg.trans h1), if_pos rfl]
  refine .inl (Oper.wp_mono ?_ (h2 s' hag hN w0 Mv J a w hs Q))
  rintro a' w' ⟨J', h⟩
  exact hK _ _ _ h
 ·rw [wanted_of hs hN (hg.trans h1), if_neg (by simp)]
  refine hK J _ _ ?_
  rw [app_pure]
  exact hs.put _ (.skip _)
inductive Lex (P : Program) (N : Nat) (ops : Array Oper) : List Oper → St → List Fx → St → Prop
 | nil (s) : Lex P N ops [] s [] s
 | cons {o l s x xs s'} (h : Acts P N ops o s x) (hN : ∀ t ∈ o.looksAt ops, t < N) (hr : Lex P N ops l (s.app o.dst x) xs s') : Lex P N ops (o :: l) s (x :: xs) s'
theorem Lex.seq {P : Program} {N : Nat} {ops : Array Oper} {l : List Oper} {s s' : St} {xs : List Fx} (h : Lex P N ops l s xs s') {w0 : World} {Mv : Nat → Prop} {J : Site} {a : Act} {w : World} (hs : Sim w0 Mv N J s a w)
  {Q : Exit → Act → World → Prop} (hQ : ∀ J' a' w', Sim w0 Mv N J' s' a' w' → Q .normal a' w') : wpList P ops Q l a w := by
 induction h generalizing J a w with
 | nil s => exact wpList_nil (hQ _ _ _ hs)
 | cons h hN hr ih =>
  unfold wpList
  exact h.op (Agree.refl _ _ _ _) hN hs (fun J' a' w' h' => ih h' hQ)
end Go.Proofs.Ytmompdklolomfaa.Ab
