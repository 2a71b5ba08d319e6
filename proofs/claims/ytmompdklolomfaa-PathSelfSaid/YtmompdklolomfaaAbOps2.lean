import Derived.Test.YtmompdklolomfaaAbOps1
namespace Go.Proofs.Ytmompdklolomfaa.Ab
open Go Go.RowKit
set_option linter.unusedVariables false
set_option linter.unusedSimpArgs false
inductive TD where
 | int (k : IntKind)
 | bool
 | str
 | slice (e : TypeId)
 | struct (fs : List (Nat × TypeId))
 | arr (n : Nat) (e : TypeId)
 | ptr (e : TypeId)
 | other
 deriving DecidableEq
def TD.of : TypeDesc → TD
 | .int k => .int k
 | .bool => .bool
 | .string => .str
 | .slice e => .slice e
 | .struct fs => .struct (fs.toList.map fun f => (f.offset, f.type))
 | .array n e => .arr n e
 | .pointer e => .ptr e
 | _ => .other
structure TyI where
 d : TD
 size : Nat
 bytes : Nat
 zero : List PV
def tyOf (P : Program) (t : TypeId) : Option TyI :=
 match P.info? t, P.underlying t with
 | some i, some d => some ⟨TD.of d, i.size, i.bytes, match i.zero with | some z => z.cells.toList.map PV.ofVal1 | none => []⟩
 | _, _ => none
theorem tyOf_spec {P : Program} {t : TypeId} {ti : TyI} (h : tyOf P t = some ti) : ∃ i d, P.info? t = some i ∧ P.underlying t = some d ∧ TD.of d = ti.d ∧ i.size = ti.size ∧ i.bytes = ti.bytes ∧
  ti.zero = (match i.zero with | some z => z.cells.toList.map PV.ofVal1 | none => []) := by
 unfold tyOf at h
 split at h
 ·rename_i i d hi hd
  injection h with h
  subst h
  exact ⟨i, d, hi, hd, rfl, rfl, rfl, rfl⟩
 ·cases h
theorem td_slice {d : TypeDesc} {e : TypeId} (h : TD.of d = .slice e) : d = .slice e := by cases d <;> simp [TD.of] at h; subst h; rfl
theorem td_arr {d : TypeDesc} {n : Nat} {e : TypeId} (h : TD.of d = .arr n e) : d = .array n e := by cases d <;> simp [TD.of] at h; obtain ⟨rfl, rfl⟩ := h; rfl
theorem td_str {d : TypeDesc} (h : TD.of d = .str) : d = .string := by cases d <;> simp [TD.of] at h; rfl
theorem td_int {d : TypeDesc} {k : IntKind} (h : TD.of d = .int k) : d = .int k := by cases d <;> simp [TD.of] at h; subst h; rfl
theorem td_struct {d : TypeDesc} {fs : List (Nat × TypeId)} (h : TD.of d = .struct fs) : ∃ f, d = .struct f ∧ f.toList.map (fun f => (f.offset, f.type)) = fs := by
 cases d <;> simp [TD.of] at h
 exact ⟨_, rfl, h⟩
section
variable {P : Program} {t e : TypeId} {n sz by_ : Nat} {z : List PV}
theorem ty_slice (h : tyOf P t = some ⟨.slice e, sz, by_, z⟩) : P.underlying t = some (.slice e) := by
 obtain ⟨i, d, _, h2, h3, _⟩ := tyOf_spec h
 rw [h2, td_slice h3]
theorem ty_str (h : tyOf P t = some ⟨.str, sz, by_, z⟩) : P.underlying t = some .string := by
 obtain ⟨i, d, _, h2, h3, _⟩ := tyOf_spec h
 rw [h2, td_str h3]
theorem ty_int {k : IntKind} (h : tyOf P t = some ⟨.int k, sz, by_, z⟩) : P.underlying t = some (.int k) := by
 obtain ⟨i, d, _, h2, h3, _⟩ := tyOf_spec h
 rw [h2, td_int h3]
theorem ty_arr (h : tyOf P t = some ⟨.arr n e, sz, by_, z⟩) : P.underlying t = some (.array n e) := by
 obtain ⟨i, d, _, h2, h3, _⟩ := tyOf_spec h
 rw [h2, td_arr h3]
theorem ty_some {ti : TyI} (h : tyOf P t = some ti) : (P.underlying t).isSome = true := by
 obtain ⟨i, d, _, h2, _⟩ := tyOf_spec h
 rw [h2]; rfl
theorem run_size {ti : TyI} (h : tyOf P t = some ti) (w : World) : (sizeOf t).run P w = .ok ti.size w := by
 obtain ⟨i, d, h1, _, _, h4, _⟩ := tyOf_spec h
 simp [sizeOf, typeInfo, h1, h4]
def TD.agg : TD → Bool
 | .struct _ | .arr _ _ => true
 | _ => false
theorem run_isAgg {ti : TyI} (h : tyOf P t = some ti) (w : World) : (isAgg t).run P w = .ok ti.d.agg w := by
 obtain ⟨i, d, _, h2, h3, _⟩ := tyOf_spec h
 simp only [isAgg, Sem.run_bind, run_underlying h2, Result.andThen_ok, ← h3]
 cases d <;> rfl
end
variable {P : Program} {N : Nat} {ops : Array Oper} {s : St} {dst : Option Tmp} {type : TypeId} {pos : String} {after : Array Edge} {guard : Option (Nat × Bool)}
def ReadAt (w : World) (M : Nat → Prop) (J : Site) (v : Value) (cs : List PV) : Prop :=
 ∃ (a : Addr) (g : Nat → Value), v = .pointer (some a) ∧ (∀ (k : Nat) (c : PV), cs[k]? = some c → w.cell? (a.add k) = some (g k)) ∧ ∀ (k : Nat) (c : PV), cs[k]? = some c → Rep w M J c (g k)
def St.cellsAt (s : St) : PV → Option (List PV × List (Nat × Nat))
 | .ptr d n off => match s.heap d n with | some (.box cs) => some (cs.drop off, [(d, n)]) | _ => none
 | .eptr d n sz i off => match s.heap d n with
  | some (.arr e sz' fz xs) => if sz = sz' then (match xs[i]? with | some x => some (x.cells.drop off, [(d, n)]) | none => none) else none
  | _ => none
 | .rptr cs => some (cs, [])
 | _ => none
theorem readAt_of {w0 : World} {Mv : Nat → Prop} {J : Site} {a : Act} {w : World} (h : Sim w0 Mv N J s a w) {p : PV} {cs : List PV} {L : List (Nat × Nat)} (hc : s.cellsAt p = some (cs, L)) {v : Value}
  (hv : Rep w (Mut s J) J p v) : ReadAt w (Mut s J) J v cs := by
 unfold St.cellsAt at hc
 split at hc
 ·rename_i d n off
  split at hc
  ·rename_i bs hb
   injection hc with hc
   injection hc with hc hL
   subst hc
   obtain ⟨g, cur, t, hJ, hh, hlen, hone, hrep⟩ := h.obj d n _ hb
   cases hv with
   | ptr _ _ _ _ g' hJ' =>
    rw [hJ] at hJ'
    have hg : g = g' := by injection hJ' with e; injection e with e; injection e with e; injection e
    subst hg
    refine ⟨_, fun k => cur.getD (off + k) Go.undef, rfl, fun k c hk => ?_, fun k c hk => ?_⟩
    all_goals
     rw [List.getElem?_drop] at hk
     have hlt : off + k < cur.size := by rw [hlen]; exact (List.getElem?_eq_some_iff.1 hk).1
    ·have hadd : (⟨g, off, none⟩ : Addr).add k = ⟨g, off + k, none⟩ := by unfold Addr.add; split <;> simp_all
     simp only [hadd, cell_of_row w g _ cur t (0, 0) hh]
     simp [hlt]
    ·have := hrep _ _ cur[off + k] hk (Array.getElem?_eq_getElem hlt)
     simpa [hlt] using this
  ·cases hc
 ·rename_i d n sz i off
  split at hc
  ·rename_i e sz' fz xs hb
   split at hc
   ·rename_i hsz
    subst hsz
    split at hc
    ·rename_i x hx
     injection hc with hc
     injection hc with hc hL
     subst hc
     obtain ⟨u, ys, hJ, hown, hp, hw, hone, hrep⟩ := h.obj d n _ hb
     cases hv with
     | eptr _ _ _ _ _ _ g len cap hJ' =>
      rw [hJ] at hJ'
      injection hJ' with hu
      subst hu
      have hcell := hown.cells (g := g) rfl
      have hl : ys.length = (flat xs).length := by rw [hown.1, flat_length hw]
      refine ⟨_, fun k => ys.getD (i * sz + (off + k)) Go.undef, rfl, fun k c hk => ?_, fun k c hk => ?_⟩
      all_goals
       rw [List.getElem?_drop] at hk
       have hfl := flat_get hw hx hk
       have hlt : i * sz + (off + k) < ys.length := by rw [hl]; exact (List.getElem?_eq_some_iff.1 hfl).1
      ·have hadd : (⟨g, i * sz + off, none⟩ : Addr).add k = (⟨g, 0, none⟩ : Addr).add (i * sz + (off + k)) := by rw [add_flat]; unfold Addr.add; split <;> simp_all [Nat.add_assoc]
       rw [hadd]
       exact hcell _ _ (by simp [List.getD_eq_getElem?_getD, List.getElem?_eq_getElem hlt])
      ·have := hrep _ _ ys[i * sz + (off + k)] hfl (List.getElem?_eq_getElem hlt)
       have h2 : Rep w (Mut s J) J c ys[i * sz + (off + k)] := this.mono (fun _ _ _ => rfl) (fun _ _ h => h) (fun _ _ _ h => by cases h)
       simpa [List.getD_eq_getElem?_getD, List.getElem?_eq_getElem hlt] using h2
    ·cases hc
   ·cases hc
  ·cases hc
 ·rename_i bs
  injection hc with hc
  injection hc with hc hL
  subst hc
  cases hv with
  | rptr _ _ a g ho hM hcl hr => exact ⟨a, g, rfl, hcl, fun k c hk => (hr k c hk).mono (fun _ _ _ => rfl) (fun _ _ h => h) (fun _ _ _ h => by cases h)⟩
 ·cases hc
theorem cellsAt_agree {s s' : St} {p : PV} {cs : List PV} {L : List (Nat × Nat)} (hc : s.cellsAt p = some (cs, L)) (h : ∀ q ∈ L, s'.heap q.1 q.2 = s.heap q.1 q.2) : s'.cellsAt p = some (cs, L) := by
 unfold St.cellsAt at hc ⊢
 split at hc
 ·rename_i d n off
  split at hc
  ·rename_i bs hb
   injection hc with hc
   injection hc with hc hL
   subst hL
   rw [h (d, n) List.mem_cons_self, hb, ← hc]
  ·cases hc
 ·rename_i d n sz i off
  split at hc
  ·rename_i e sz' fz xs hb
   split at hc
   ·rename_i hsz
    split at hc
    ·rename_i x hx
     injection hc with hc
     injection hc with hc hL
     subst hL
     rw [h (d, n) List.mem_cons_self, hb]
     simp only [hsz, if_true, hx, ← hc]
    ·cases hc
   ·cases hc
  ·cases hc
 ·exact hc
 ·cases hc
def loadPV (ti : TyI) (cs : List PV) : Option PV := if ti.d.agg then (if ti.size ≤ cs.length then some (.agg (cs.take ti.size)) else none) else cs[0]?
theorem run_loadVar_at {w : World} {M : Nat → Prop} {J : Site} {u : Value} {cs : List PV} (h : ReadAt w M J u cs) {t : TypeId} {ti : TyI} (ht : tyOf P t = some ti) {v : PV} (hv : loadPV ti cs = some v) :
  ∃ cv, (Instr.loadAt t u).run P w = .ok cv w ∧ Rep w M J v cv := by
 obtain ⟨a, g, rfl, h1, h2⟩ := h
 unfold loadPV at hv
 have hagg := run_isAgg ht w
 split at hv
 ·rename_i ha
  split at hv
  ·rename_i hle
   injection hv with hv
   subst hv
   have hl := run_loadCells (P := P) w a ti.size g (fun j hj => h1 j _ (List.getElem?_eq_getElem (by omega)))
   refine ⟨.agg ((List.range ti.size).map g).toArray, ?_, .agg _ _ _ (by simp; omega) fun i c v hc hu => ?_⟩
   ·simp [Instr.loadAt, Instr.sureAddr, loadVar, hagg, ha, run_size ht, hl]
   ·rw [List.getElem?_take] at hc
    split at hc
    ·rename_i hi
     simp [hi] at hu
     subst hu
     exact h2 i c hc
    ·cases hc
  ·cases hv
 ·rename_i ha
  have ha : ti.d.agg = false := by simpa using ha
  have hc := h1 0 v hv
  refine ⟨g 0, ?_, h2 0 v hv⟩
  have : a.add 0 = a := by simp [Addr.add]
  rw [this] at hc
  simp [Instr.loadAt, Instr.sureAddr, loadVar, hagg, ha, load, Sem.run, hc]
theorem does_load {t : TypeId} {x : Operand} {p : PV} {cs : List PV} {L : List (Nat × Nat)} {ti : TyI} {v : PV} (hx : s.ev x = p) (hc : s.cellsAt p = some (cs, L)) (ht : tyOf P t = some ti) (hv : loadPV ti cs = some v) :
  Does P N ops ⟨dst, .load t x, type, pos, after, guard⟩ s ⟨L, v, [], []⟩ :=
 does_read L v fun w0 Mv J s' a w hs hL hr => by
  have h1 := hr x (by simp [Op.operands])
  rw [hx] at h1
  obtain ⟨cv, h2, h3⟩ := run_loadVar_at (readAt_of hs (cellsAt_agree hc hL) h1) ht hv
  exact ⟨cv, 0, by simp [execOp, h2]; rfl, h3⟩
theorem rep_rptr_drop {w : World} {M : Nat → Prop} {J : Site} {cs : List PV} {a : Addr} (h : Rep w M J (.rptr cs) (.pointer (some a))) (k : Nat) : Rep w M J (.rptr (cs.drop k)) (.pointer (some (a.add k))) := by
 cases h with
 | rptr _ _ _ g ho hM hc hr =>
  refine .rptr _ _ _ (fun j => g (k + j)) (fun c hc => ho c (List.mem_of_mem_drop hc)) (fun hne => ?_) (fun j c hj => ?_) (fun j c hj => ?_)
  ·rw [block_add]; exact hM (by rintro rfl; simp at hne)
  ·rw [add_add]; rw [List.getElem?_drop] at hj; exact hc _ _ hj
  ·rw [List.getElem?_drop] at hj; exact hr _ _ hj
def PV.plus (k : Nat) : PV → Option PV
 | .ptr d n off => some (.ptr d n (off + k))
 | .eptr d n sz i off => some (.eptr d n sz i (off + k))
 | .rptr cs => some (.rptr (cs.drop k))
 | _ => none
theorem rep_plus {w : World} {M : Nat → Prop} {J : Site} {p q : PV} {k : Nat} (hq : p.plus k = some q) {v : Value} (h : Rep w M J p v) : ∃ a, v = .pointer (some a) ∧ Rep w M J q (.pointer (some (a.add k))) := by
 unfold PV.plus at hq
 split at hq
 ·rename_i d n off
  injection hq with hq; subst hq
  cases h with
  | ptr _ _ _ _ g hJ =>
   refine ⟨_, rfl, ?_⟩
   have : (⟨g, off, none⟩ : Addr).add k = ⟨g, off + k, none⟩ := by unfold Addr.add; split <;> simp_all
   rw [this]; exact .ptr _ _ _ _ _ hJ
 ·rename_i d n sz i off
  injection hq with hq; subst hq
  cases h with
  | eptr _ _ _ _ _ _ g len cap hJ =>
   refine ⟨_, rfl, ?_⟩
   have : (⟨g, i * sz + off, none⟩ : Addr).add k = ⟨g, i * sz + (off + k), none⟩ := by unfold Addr.add; split <;> simp_all [Nat.add_assoc]
   rw [this]; exact .eptr _ _ _ _ _ _ _ _ _ hJ
 ·injection hq with hq; subst hq
  cases h with
  | rptr _ _ a g ho hM hc hr => exact ⟨a, rfl, rep_rptr_drop (.rptr _ _ a g ho hM hc hr) k⟩
 ·cases hq
theorem does_fieldAddr {t : TypeId} {x : Operand} {i : Nat} {p q : PV} {fs : List (Nat × TypeId)} {sz by_ : Nat} {z : List PV} {off : Nat} {ft : TypeId} {fi : TyI} (hx : s.ev x = p) (ht : tyOf P t = some ⟨.struct fs, sz, by_, z⟩)
  (hf : fs[i]? = some (off, ft)) (hft : tyOf P ft = some fi) (hp : fi.size ≠ 0) (hq : p.plus off = some q) : Does P N ops ⟨dst, .fieldAddr t x i, type, pos, after, guard⟩ s (pureFx q) :=
 does_pure q fun w M J ρ hr => by
  have h1 := hr x (by simp [Op.operands])
  rw [hx] at h1
  obtain ⟨a, ha, h2⟩ := rep_plus hq h1
  obtain ⟨inf, d, _, hu, hd, _⟩ := tyOf_spec ht
  obtain ⟨fields, rfl, hfs⟩ := td_struct hd
  rw [← hfs, List.getElem?_map, Option.map_eq_some_iff] at hf
  obtain ⟨f, hf, he⟩ := hf
  injection he with he1 he2
  subst he1 he2
  rw [Array.getElem?_toList] at hf
  exact ⟨_, by simp [execOp, Instr.fieldAt, run_underlying hu, hf, ha, Instr.sureAddr, fieldPlace, run_size hft, hp], h2⟩
theorem nil_own {w : World} {b e sz n : Nat} {ys : List Value} (h : w.ownsRow b e sz (.slice none 0 0) n ys) : n = 0 := by
 rcases h.2 with ⟨_, h⟩ | ⟨g, cap, cur, he, _⟩
 ·exact h
 ·injection he with e1; cases e1
theorem does_indexAddr_sl {t e : TypeId} {x y : Operand} {sz by_ : Nat} {z : List PV} {ei : TyI} {xs : List PV} {k : IntKind} {i : Int} {el : PV} (hx : s.ev x = .sl ei.size xs) (hy : s.ev y = .int k i) (ht : tyOf P t = some ⟨.slice e, sz, by_, z⟩)
  (he : tyOf P e = some ei) (h0 : 0 ≤ i) (hg : xs[i.toNat]? = some el) : Does P N ops ⟨dst, .indexAddr t x y, type, pos, after, guard⟩ s (pureFx (.rptr el.cells)) :=
 does_pure _ fun w M J ρ hr => by
  have h1 := hr x (by simp [Op.operands])
  have h2 := hr y (by simp [Op.operands])
  rw [hx] at h1
  rw [hy] at h2
  generalize hcx : ρ x = cx at h1
  generalize hcy : ρ y = cy at h2
  cases h2
  have hlt : i.toNat < xs.length := (List.getElem?_eq_some_iff.1 hg).1
  have hi : 0 ≤ i ∧ i < (xs.length : Int) := ⟨h0, by omega⟩
  cases h1 with
  | sl0 => simp at hlt
  | sl _ _ _ a cap g hp hw ho hle hM hc hrr =>
   refine ⟨.pointer (some (a.add (i.toNat * ei.size))), ?_, ?_⟩
   ·simp [execOp, hcx, hcy, Instr.indexAt, run_underlying (ty_slice ht), asIntOf, hi, run_size he]
   ·have hne : xs ≠ [] := by rintro rfl; simp at hlt
    refine .rptr _ _ _ (fun j => g (i.toNat * ei.size + j)) (fun c hc' => ?_) (fun _ => by rw [block_add]; exact hM hne) (fun j c hj => ?_) (fun j c hj => ?_)
    ·obtain ⟨j, hj⟩ := List.getElem?_of_mem hc'
     exact ho c (List.mem_of_getElem? (flat_get hw hg hj))
    ·rw [add_add]; exact hc _ _ (flat_get hw hg hj)
    ·exact hrr _ _ (flat_get hw hg hj)
theorem does_indexAddr_own {t e : TypeId} {x y : Operand} {sz by_ : Nat} {z : List PV} {ei : TyI} {d n : Nat} {e' : TypeId} {fz : Bool} {xs : List PV} {k : IntKind} {i : Int} (hx : s.ev x = .own d n) (hb : s.heap d n = some (.arr e' ei.size fz xs)) (hy : s.ev y = .int k i)
  (ht : tyOf P t = some ⟨.slice e, sz, by_, z⟩) (he : tyOf P e = some ei) (h0 : 0 ≤ i) (hi : i < xs.length) : Does P N ops ⟨dst, .indexAddr t x y, type, pos, after, guard⟩ s ⟨[(d, n)], .eptr d n ei.size i.toNat 0, [], []⟩ :=
 does_read _ _ fun w0 Mv J s' a w hs hL hr => by
  have h1 := hr x (by simp [Op.operands])
  have h2 := hr y (by simp [Op.operands])
  rw [hx] at h1
  rw [hy] at h2
  generalize hcx : a.eval x = cx at h1
  generalize hcy : a.eval y = cy at h2
  cases h2
  have hb' := (hL (d, n) List.mem_cons_self).trans hb
  obtain ⟨u, ys, hJ, hown, hp, hw, hone, hrep⟩ := hs.obj d n _ hb'
  cases h1 with
  | own _ _ _ A len cap hJ' =>
   rw [hJ] at hJ'
   injection hJ' with hu
   subst hu
   obtain ⟨g, cap', hv, _⟩ := hown.form (by omega)
   injection hv with e1 e2 e3
   subst e1 e2
   have hi' : 0 ≤ i ∧ i < (xs.length : Int) := ⟨h0, hi⟩
   refine ⟨.pointer (some ⟨g, i.toNat * ei.size + 0, none⟩), 0, ?_, .eptr _ _ _ _ _ _ _ _ _ hJ⟩
   simp [execOp, hcx, hcy, Instr.indexAt, run_underlying (ty_slice ht), asIntOf, hi', run_size he, add_flat]; rfl
  | own0 _ _ _ ab hJ' =>
   rw [hJ] at hJ'
   injection hJ' with hu
   subst hu
   obtain ⟨g, cap', hv, _⟩ := hown.form (by omega)
   injection hv with e1
   cases e1
theorem does_indexAddr_arr {t e : TypeId} {x y : Operand} {len sz by_ : Nat} {z : List PV} {ei : TyI} {p q : PV} {k : IntKind} {i : Int} (hx : s.ev x = p) (hy : s.ev y = .int k i) (ht : tyOf P t = some ⟨.arr len e, sz, by_, z⟩) (he : tyOf P e = some ei)
  (h0 : 0 ≤ i) (hi : i < len) (hq : p.plus (i.toNat * ei.size) = some q) : Does P N ops ⟨dst, .indexAddr t x y, type, pos, after, guard⟩ s (pureFx q) :=
 does_pure q fun w M J ρ hr => by
  have h1 := hr x (by simp [Op.operands])
  have h2 := hr y (by simp [Op.operands])
  rw [hx] at h1
  rw [hy] at h2
  generalize hcy : ρ y = cy at h2
  cases h2
  obtain ⟨a, ha, h3⟩ := rep_plus hq h1
  have hi' : 0 ≤ i ∧ i < (len : Int) := ⟨h0, hi⟩
  exact ⟨_, by simp [execOp, ha, hcy, Instr.indexAt, run_underlying (ty_arr ht), asIntOf, hi', run_size he, Instr.sureAddr], h3⟩
def partPV (ti : TyI) (cs : List PV) (off : Nat) : Option PV := loadPV ti (cs.drop off)
theorem does_len_str {t ty : TypeId} {x : Operand} {sz by_ : Nat} {z : List PV} {b : ByteArray} (hx : s.ev x = .str b) (ht : tyOf P t = some ⟨.str, sz, by_, z⟩) :
  Does P N ops ⟨dst, .call ⟨.builtin .len, #[x], #[t]⟩, ty, pos, after, guard⟩ s (pureFx (.int .i64 b.size)) :=
 does_pure _ fun w M J ρ hr => by
  have h1 := hr x (by simp [Op.operands, Call.operands])
  rw [hx] at h1
  generalize hcx : ρ x = cx at h1
  cases h1
  exact ⟨_, by simp [execOp, resolve, invoke, builtin, hcx, Builtin.len_, run_underlying (ty_str ht), goInt], .int _ _ _⟩
theorem does_len_sl {t ty e : TypeId} {x : Operand} {sz by_ m : Nat} {z xs : List PV} (hx : s.ev x = .sl m xs) (ht : tyOf P t = some ⟨.slice e, sz, by_, z⟩) :
  Does P N ops ⟨dst, .call ⟨.builtin .len, #[x], #[t]⟩, ty, pos, after, guard⟩ s (pureFx (.int .i64 xs.length)) :=
 does_pure _ fun w M J ρ hr => by
  have h1 := hr x (by simp [Op.operands, Call.operands])
  rw [hx] at h1
  generalize hcx : ρ x = cx at h1
  cases h1
  ·exact ⟨_, by simp [execOp, resolve, invoke, builtin, hcx, Builtin.len_, run_underlying (ty_slice ht), goInt], .int _ _ _⟩
  ·exact ⟨_, by simp [execOp, resolve, invoke, builtin, hcx, Builtin.len_, run_underlying (ty_slice ht), goInt], .int _ _ _⟩
theorem does_len_own {t ty e : TypeId} {x : Operand} {sz by_ d n e' m : Nat} {fz : Bool} {z xs : List PV} (hx : s.ev x = .own d n) (hb : s.heap d n = some (.arr e' m fz xs)) (ht : tyOf P t = some ⟨.slice e, sz, by_, z⟩) :
  Does P N ops ⟨dst, .call ⟨.builtin .len, #[x], #[t]⟩, ty, pos, after, guard⟩ s ⟨[(d, n)], .int .i64 xs.length, [], []⟩ :=
 does_read _ _ fun w0 Mv J s' a w hs hL hr => by
  have h1 := hr x (by simp [Op.operands, Call.operands])
  rw [hx] at h1
  generalize hcx : a.eval x = cx at h1
  obtain ⟨u, ys, hJ, hown, _⟩ := hs.obj d n _ ((hL (d, n) List.mem_cons_self).trans hb)
  cases h1 with
  | own _ _ _ A len cap hJ' =>
   rw [hJ] at hJ'
   injection hJ' with hu
   subst hu
   have : len = xs.length := by
    rcases hown.2 with ⟨h1, h2⟩ | ⟨g, cap, cur, h1, _⟩
    ·injection h1 with _ h1 _; omega
    ·injection h1
   subst this
   exact ⟨_, 0, by simp [execOp, resolve, invoke, builtin, hcx, Builtin.len_, run_underlying (ty_slice ht), goInt]; rfl, .int _ _ _⟩
  | own0 _ _ _ ab hJ' =>
   rw [hJ] at hJ'
   injection hJ' with hu
   subst hu
   have hz : xs.length = 0 := nil_own hown
   rw [hz]
   exact ⟨_, 0, by simp [execOp, resolve, invoke, builtin, hcx, Builtin.len_, run_underlying (ty_slice ht), goInt]; rfl, .int _ _ _⟩
end Go.Proofs.Ytmompdklolomfaa.Ab
