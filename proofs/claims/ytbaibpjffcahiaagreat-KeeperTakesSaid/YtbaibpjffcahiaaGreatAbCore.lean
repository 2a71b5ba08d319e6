import Derived.Below
import Derived.Deep.Draws
import Derived.Maps.AppendAt
import Derived.Deep.AppendLies
import Derived.OwnWalk
import Derived.Orders
import Derived.Still
import Derived.Tactics
import Derived.Laws.Rows
import Derived.Laws.CopyRow
import Derived.Deep.LoopGhost
namespace Go.Proofs.YtbaibpjffcahiaaGreat.Ab
open Go Go.RowKit
inductive PV where
 | undef
 | skip
 | bool (b : Bool)
 | int (k : IntKind) (n : Int)
 | str (s : ByteArray)
 | nil
 | agg (cs : List PV)
 | tup (vs : List PV)
 | sl (sz : Nat) (xs : List PV)
 | own (d n : Nat)
 | ptr (d n off : Nat)
 | eptr (d n sz i off : Nat)
 | rptr (cs : List PV)
 | fn (f : FuncId) (caps : List PV)
 | fresh (e sz : Nat) (xs : List PV)
 | ref (cs : List PV)
 | nilf
 | mp (d n : Nat)
 deriving Inhabited
def PV.cells : PV → List PV
 | .agg cs => cs
 | v => [v]
def PV.one : PV → Bool
 | .agg _ | .tup _ | .undef | .skip | .fresh .. | .ref _ => false
 | _ => true
def flat (xs : List PV) : List PV := xs.flatMap PV.cells
theorem flat_append (xs ys : List PV) : flat (xs ++ ys) = flat xs ++ flat ys := by simp [flat]
theorem flat_length {sz : Nat} : ∀ {xs : List PV}, (∀ x ∈ xs, x.cells.length = sz) → (flat xs).length = xs.length * sz
 | [], _ => by simp [flat]
 | x :: xs, h => by
  have h1 := h x List.mem_cons_self
  have h2 := flat_length (xs := xs) fun y hy => h y (List.mem_cons_of_mem _ hy)
  simp only [flat, List.flatMap_cons, List.length_append, List.length_cons] at h2 ⊢
  rw [h1, h2, Nat.succ_mul, Nat.add_comm]
theorem flat_get {sz : Nat} : ∀ {xs : List PV}, (∀ x ∈ xs, x.cells.length = sz) → ∀ {i : Nat} {x : PV}, xs[i]? = some x → ∀ {j : Nat} {c : PV}, x.cells[j]? = some c → (flat xs)[i * sz + j]? = some c
 | [], _, i, x, hx, _, _, _ => by simp at hx
 | y :: ys, h, 0, x, hx, j, c, hc => by
  have hy : y = x := by simpa using hx
  subst hy
  have hj : j < y.cells.length := (List.getElem?_eq_some_iff.1 hc).1
  simp only [flat, List.flatMap_cons, Nat.zero_mul, Nat.zero_add]
  rw [List.getElem?_append_left hj]; exact hc
 | y :: ys, h, i + 1, x, hx, j, c, hc => by
  have h1 := h y List.mem_cons_self
  have hx' : ys[i]? = some x := by simpa using hx
  have := flat_get (xs := ys) (fun z hz => h z (List.mem_cons_of_mem _ hz)) hx' hc
  simp only [flat, List.flatMap_cons] at this ⊢
  rw [List.getElem?_append_right (by rw [h1, Nat.succ_mul]; omega), h1, show (i + 1) * sz + j - sz = i * sz + j by rw [Nat.succ_mul]; omega]
  exact this
theorem flat_drop {sz : Nat} {xs : List PV} (h : ∀ x ∈ xs, x.cells.length = sz) (k : Nat) : flat (xs.drop k) = (flat xs).drop (k * sz) := by
 induction k generalizing xs with
 | zero => simp
 | succ k ih =>
  cases xs with
  | nil => simp [flat]
  | cons y ys =>
   have h1 := h y List.mem_cons_self
   rw [List.drop_succ_cons, ih fun z hz => h z (List.mem_cons_of_mem _ hz)]
   simp only [flat, List.flatMap_cons]
   rw [Nat.succ_mul, List.drop_append, h1, List.drop_of_length_le (i := k * sz + sz) (l := y.cells) (by rw [h1]; exact Nat.le_add_left _ _), List.nil_append, Nat.add_sub_cancel]
theorem flat_take {sz : Nat} {xs : List PV} (h : ∀ x ∈ xs, x.cells.length = sz) (k : Nat) : flat (xs.take k) = (flat xs).take (k * sz) := by
 induction k generalizing xs with
 | zero => simp [flat]
 | succ k ih =>
  cases xs with
  | nil => simp [flat]
  | cons y ys =>
   have h1 := h y List.mem_cons_self
   have hz := ih (xs := ys) fun z hz => h z (List.mem_cons_of_mem _ hz)
   simp only [flat, List.take_succ_cons, List.flatMap_cons] at hz ⊢
   rw [hz, Nat.succ_mul, List.take_append, h1, List.take_of_length_le (i := k * sz + sz) (by rw [h1]; exact Nat.le_add_left _ _), Nat.add_sub_cancel]
abbrev Site := Nat → Nat → Option Value
def noSite : Site := fun _ _ => none
theorem block_add (a : Addr) (n : Nat) : (a.add n).block = a.block := by unfold Addr.add; split <;> rfl
theorem add_add (a : Addr) (i j : Nat) : (a.add i).add j = a.add (i + j) := by
 unfold Addr.add
 by_cases hi : i = 0 <;> by_cases hj : j = 0 <;> simp [hi, hj, Nat.add_assoc]
theorem add_flat (g k : Nat) : (⟨g, 0, none⟩ : Addr).add k = ⟨g, k, none⟩ := by unfold Addr.add; split <;> simp_all
inductive Rep (w : World) (M : Nat → Prop) : Site → PV → Value → Prop
 | undef (J v) : Rep w M J .undef v
 | skip (J) : Rep w M J .skip Go.undef
 | bool (J b) : Rep w M J (.bool b) (.bool b)
 | int (J k n) : Rep w M J (.int k n) (.int k n)
 | str (J s) : Rep w M J (.str s) (.string s)
 | nil (J) : Rep w M J .nil (.slice none 0 0)
 | agg (J) (cs : List PV) (vs : Array Value) (hl : cs.length = vs.size) (h : ∀ (i : Nat) (c : PV) (v : Value), cs[i]? = some c → vs[i]? = some v → Rep w M J c v) : Rep w M J (.agg cs) (.agg vs)
 | tup (J) (cs : List PV) (vs : Array Value) (hl : cs.length = vs.size) (h : ∀ (i : Nat) (c : PV) (v : Value), cs[i]? = some c → vs[i]? = some v → Rep w M J c v) : Rep w M J (.tup cs) (.tuple vs)
 | sl (J) (sz : Nat) (xs : List PV) (a : Addr) (cap : Nat) (g : Nat → Value) (hp : 0 < sz) (hw : ∀ x ∈ xs, x.cells.length = sz) (ho : ∀ c ∈ flat xs, c.one = true) (hle : xs.length ≤ cap) (hM : xs ≠ [] → ¬ M a.block)
   (hc : ∀ (k : Nat) (c : PV), (flat xs)[k]? = some c → w.cell? (a.add k) = some (g k)) (hr : ∀ (k : Nat) (c : PV), (flat xs)[k]? = some c → Rep w M noSite c (g k)) : Rep w M J (.sl sz xs) (.slice (some a) xs.length cap)
 | sl0 (J sz cap) : Rep w M J (.sl sz []) (.slice none 0 cap)
 | rptr (J) (cs : List PV) (a : Addr) (g : Nat → Value) (ho : ∀ c ∈ cs, c.one = true) (hM : cs ≠ [] → ¬ M a.block)
   (hc : ∀ (k : Nat) (c : PV), cs[k]? = some c → w.cell? (a.add k) = some (g k)) (hr : ∀ (k : Nat) (c : PV), cs[k]? = some c → Rep w M noSite c (g k)) : Rep w M J (.rptr cs) (.pointer (some a))
 | fn (J f) (caps : List PV) (vs : Array Value) (hl : caps.length = vs.size) (h : ∀ (i : Nat) (c : PV) (v : Value), caps[i]? = some c → vs[i]? = some v → Rep w M J c v) : Rep w M J (.fn f caps) (.func (.func f) #[] vs)
 | own (J d n A len cap) (h : J d n = some (.slice A len cap)) : Rep w M J (.own d n) (.slice A len cap)
 | own0 (J d n a) (h : J d n = some (.slice none 0 0)) : Rep w M J (.own d n) (.slice (some a) 0 0)
 | ptr (J d n off g) (h : J d n = some (.pointer (some ⟨g, 0, none⟩))) : Rep w M J (.ptr d n off) (.pointer (some ⟨g, off, none⟩))
 | eptr (J d n sz i off g len cap) (h : J d n = some (.slice (some ⟨g, 0, none⟩) len cap)) : Rep w M J (.eptr d n sz i off) (.pointer (some ⟨g, i * sz + off, none⟩))
 | nilf (J) : Rep w M J .nilf .nilFunc
 | mp (J d n g) (h : J d n = some (.map (some g))) : Rep w M J (.mp d n) (.map (some g))
theorem Rep.mono {w w' : World} {M M' : Nat → Prop} {J J' : Site} {pv : PV} {v : Value} (h : Rep w M J pv v)
  (hw : ∀ b, b < w.heap.size → ¬ M b → w'.heap[b]? = w.heap[b]?) (hM : ∀ b, b < w.heap.size → M' b → M b) (hJ : ∀ d n v, J d n = some v → J' d n = some v) : Rep w' M' J' pv v := by
 induction h generalizing J' with
 | undef J v => exact .undef _ _
 | skip J => exact .skip _
 | bool J b => exact .bool _ _
 | int J k n => exact .int _ _ _
 | str J s => exact .str _ _
 | nil J => exact .nil _
 | agg J cs vs hl h ih => exact .agg _ _ _ hl fun i c v hc hv => ih i c v hc hv hJ
 | tup J cs vs hl h ih => exact .tup _ _ _ hl fun i c v hc hv => ih i c v hc hv hJ
 | sl J sz xs a cap g hp hw' ho hle hN hc hr ih =>
  cases xs with
  | nil => exact .sl _ _ _ _ _ g hp hw' ho hle (fun h => absurd rfl h) (fun k c hk => by simp [flat] at hk) (fun k c hk => by simp [flat] at hk)
  | cons x r =>
   have hpos : 0 < (flat (x :: r)).length := by rw [flat_length hw', List.length_cons, Nat.succ_mul]; omega
   have hlt : a.block < w.heap.size := by
    have := World.block_lt_of_cell? w _ (hc 0 _ (List.getElem?_eq_getElem hpos))
    rwa [block_add] at this
   refine .sl _ _ _ _ _ g hp hw' ho hle (fun hne h => hN hne (hM _ hlt h)) (fun k c hk => ?_) (fun k c hk => ih k c hk (fun _ _ _ h => h))
   exact (World.cell?_of_block (by rw [block_add]; exact hw _ hlt (hN (by simp)))).trans (hc k c hk)
 | sl0 J sz cap => exact .sl0 _ _ _
 | rptr J cs a g ho hN hc hr ih =>
  cases cs with
  | nil => exact .rptr _ _ _ g ho (fun h => absurd rfl h) (fun k c hk => by simp at hk) (fun k c hk => by simp at hk)
  | cons c0 r =>
   have hlt : a.block < w.heap.size := by
    have := World.block_lt_of_cell? w _ (hc 0 c0 rfl)
    rwa [block_add] at this
   refine .rptr _ _ _ g ho (fun hne h => hN hne (hM _ hlt h)) (fun k c hk => ?_) (fun k c hk => ih k c hk (fun _ _ _ h => h))
   exact (World.cell?_of_block (by rw [block_add]; exact hw _ hlt (hN (by simp)))).trans (hc k c hk)
 | fn J f caps vs hl h ih => exact .fn _ _ _ _ hl fun i c v hc hv => ih i c v hc hv hJ
 | own J d n A len cap h => exact .own _ _ _ _ _ _ (hJ _ _ _ h)
 | own0 J d n a h => exact .own0 _ _ _ _ (hJ _ _ _ h)
 | ptr J d n off g h => exact .ptr _ _ _ _ _ (hJ _ _ _ h)
 | eptr J d n sz i off g len cap h => exact .eptr _ _ _ _ _ _ _ _ _ (hJ _ _ _ h)
 | nilf J => exact .nilf _
 | mp J d n g h => exact .mp _ _ _ _ (hJ _ _ _ h)
end Go.Proofs.YtbaibpjffcahiaaGreat.Ab
