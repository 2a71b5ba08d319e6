import Derived.Test.YtmompdklolomfaaAbArg
import Derived.Laws.StructEq
import Derived.Laws.Cover3
import Derived.Lib.MinMax
namespace Go.Proofs.Ytmompdklolomfaa.Ab
open Go Go.RowKit
set_option linter.unusedVariables false
set_option linter.unusedSimpArgs false
variable {P : Program} {N : Nat} {ops : Array Oper} {s : St} {dst : Option Tmp} {type : TypeId} {pos : String} {after : Array Edge} {guard : Option (Nat × Bool)}
inductive Kd where
 | b
 | i (k : IntKind)
 | s
 deriving DecidableEq
def flatF (P : Program) (fK : TypeId → Option (List Kd)) : List Field → Nat → Option (List Kd)
 | [], _ => some []
 | f :: fs, off => if f.name ≠ "_" ∧ f.offset = off then
   match fK f.type with
   | some K => if 0 < K.length ∧ K.length = P.cellsOf f.type then (match flatF P fK fs (off + K.length) with | some L => some (K ++ L) | none => none) else none
   | none => none
  else none
def flatK (P : Program) : Nat → TypeId → Option (List Kd)
 | 0, _ => none
 | d + 1, t => match P.underlying t with
  | some .bool => some [.b]
  | some (.int k) => some [.i k]
  | some .string => some [.s]
  | some (.struct fs) => if P.stoodInHeld t then none else flatF P (flatK P d) fs.toList 0
  | _ => none
def cellK : Kd → PV → PV → Option Bool
 | .b, .bool a, .bool b => some (a == b)
 | .i k, .int k1 a, .int k2 b => if k1 = k ∧ k2 = k then some (a == b) else none
 | .s, .str a, .str b => some (a.toList == b.toList)
 | _, _, _ => none
def cellW : Kd → Value → Value → Option Bool
 | .b, .bool a, .bool b => some (a == b)
 | .i k, .int k1 a, .int k2 b => if k1 = k ∧ k2 = k then some (a == b) else none
 | .s, .string a, .string b => some (a.toList == b.toList)
 | _, _, _ => none
def andO : Option Bool → Option Bool → Option Bool
 | some a, some b => some (a && b)
 | _, _ => none
theorem andO_some {a b : Option Bool} {r : Bool} (h : andO a b = some r) : ∃ x y, a = some x ∧ b = some y ∧ r = (x && y) := by
 cases a <;> cases b <;> simp [andO] at h
 exact ⟨_, _, rfl, rfl, h.symm⟩
def eqK : List Kd → List PV → List PV → Option Bool
 | [], [], [] => some true
 | k :: K, x :: xs, y :: ys => andO (cellK k x y) (eqK K xs ys)
 | _, _, _ => none
def eqW : List Kd → List Value → List Value → Option Bool
 | [], [], [] => some true
 | k :: K, x :: xs, y :: ys => andO (cellW k x y) (eqW K xs ys)
 | _, _, _ => none
theorem eqW_len : ∀ {K : List Kd} {us vs : List Value} {r : Bool}, eqW K us vs = some r → us.length = K.length ∧ vs.length = K.length
 | [], [], [], _, _ => ⟨rfl, rfl⟩
 | k :: K, u :: us, v :: vs, r, h => by
  obtain ⟨a, b, h1, h2, rfl⟩ := andO_some h
  have := eqW_len h2
  exact ⟨by simp [this.1], by simp [this.2]⟩
 | [], _ :: _, _, _, h => by simp [eqW] at h
 | [], [], _ :: _, _, h => by simp [eqW] at h
 | _ :: _, [], _, _, h => by simp [eqW] at h
 | _ :: _, _ :: _, [], _, h => by simp [eqW] at h
theorem eqW_split : ∀ {K L : List Kd} {us vs : List Value} {r : Bool}, eqW (K ++ L) us vs = some r → ∃ r1 r2, eqW K (us.take K.length) (vs.take K.length) = some r1 ∧ eqW L (us.drop K.length) (vs.drop K.length) = some r2 ∧ r = (r1 && r2)
 | [], L, us, vs, r, h => ⟨true, r, rfl, by simpa using h, by simp⟩
 | k :: K, L, u :: us, v :: vs, r, h => by
  obtain ⟨a, b, h1, h2, rfl⟩ := andO_some h
  obtain ⟨r1, r2, h3, h4, rfl⟩ := eqW_split h2
  exact ⟨a && r1, r2, by simp only [List.length_cons, List.take_succ_cons, eqW, h1, h3]; rfl, by simpa using h4, by rw [Bool.and_assoc]⟩
 | k :: K, L, [], vs, r, h => by simp [eqW] at h
 | k :: K, L, _ :: _, [], r, h => by simp [eqW] at h
def mkV (a : Bool) (us : List Value) : Value := if a then .agg us.toArray else us.headD Go.undef
theorem isAgg_run {t : TypeId} {d : TypeDesc} (h : P.underlying t = some d) (w : World) : (isAgg t).run P w = .ok (aggT P t) w := by
 unfold aggT
 rw [h]
 simp only [isAgg, Sem.run_bind, run_underlying h, Result.andThen_ok]
 cases d <;> rfl
theorem part_run {t : TypeId} {d : TypeDesc} (h : P.underlying t = some d) (us : List Value) (off n : Nat) (hn : P.cellsOf t = n) (h1 : off + n ≤ us.length) (h0 : 0 < n) (w : World) :
  (part t us.toArray off).run P w = .ok (mkV (aggT P t) ((us.drop off).take n)) w := by
 obtain ⟨i, hi⟩ : ∃ i, P.info? t = some i := by
  cases hi : P.info? t with
  | none => simp [Program.cellsOf, hi] at hn; omega
  | some i => exact ⟨i, rfl⟩
 have hsz : (sizeOf t).run P w = .ok n w := by
  have : i.size = n := by rw [← hn]; simp [Program.cellsOf, hi]
  simp [sizeOf, typeInfo, hi, this]
 unfold mkV
 cases ha : aggT P t with
 | true =>
  simp only [part, Sem.run_bind, isAgg_run h, ha, Result.andThen_ok, if_true, hsz]
  simp only [List.extract_toArray, Sem.run_pure, List.extract_eq_take_drop]
  rw [Nat.add_sub_cancel_left]
 | false =>
  have hlt : off < us.length := by omega
  simp only [part, Sem.run_bind, isAgg_run h, ha, Result.andThen_ok, Bool.false_eq_true, if_false]
  have e1 : us.toArray[off]? = some us[off] := by simp [hlt]
  rw [e1]
  have : (List.take n (List.drop off us)).headD undef = us[off] := by
   cases n with
   | zero => omega
   | succ n => rw [List.drop_eq_getElem_cons hlt]; rfl
  rw [this]
  rfl
theorem cell_equal {k : Kd} {t : TypeId} (h : match k with | .b => P.underlying t = some .bool | .i k => P.underlying t = some (.int k) | .s => P.underlying t = some .string) {d : Nat} {us vs : List Value} {r : Bool} (he : eqW [k] us vs = some r) (w : World) :
  (Op.equalIn (d + 1) t (mkV (aggT P t) us) (mkV (aggT P t) vs)).run P w = .ok r w := by
 have hl := eqW_len he
 match us, vs, hl with
 | [u], [v], _ =>
  obtain ⟨a, b, h1, h2, rfl⟩ := andO_some he
  injection h2 with h2
  subst h2
  rw [Bool.and_true]
  have ha : aggT P t = false := by cases k <;> simp [aggT, h]
  simp only [mkV, ha, Bool.false_eq_true, if_false, List.headD_cons]
  cases k with
  | b => cases u <;> cases v <;> simp [cellW] at h1; subst h1; exact run_equalIn_bool w d t _ _ h
  | i k =>
   cases u <;> cases v <;> simp [cellW] at h1
   obtain ⟨⟨rfl, rfl⟩, rfl⟩ := h1
   exact run_equalIn_int w d t _ _ _ _ h
  | s => cases u <;> cases v <;> simp [cellW] at h1; subst h1; exact run_equalIn_string w d t _ _ h
mutual
theorem equal_flat : ∀ (m : Nat) (t : TypeId) (K : List Kd), flatK P m t = some K → ∀ (d : Nat) (us vs : List Value) (r : Bool), m ≤ d → eqW K us vs = some r → ∀ w, (Op.equalIn d t (mkV (aggT P t) us) (mkV (aggT P t) vs)).run P w = .ok r w
 | 0, t, K, h => by simp [flatK] at h
 | m + 1, t, K, h => by
  intro d us vs r hd he w
  obtain ⟨d, rfl⟩ : ∃ e, d = e + 1 := ⟨d - 1, by omega⟩
  unfold flatK at h
  split at h
  ·rename_i hu; injection h with h; subst h; exact cell_equal (k := .b) hu he w
  ·rename_i hu; injection h with h; subst h; exact cell_equal (k := .i _) hu he w
  ·rename_i hu; injection h with h; subst h; exact cell_equal (k := .s) hu he w
  ·rename_i fs hu
   split at h
   ·cases h
   ·rename_i hst
    have hf : P.fieldsOf t = fs := by simp [Program.fieldsOf, hu]
    have ha : aggT P t = true := by simp [aggT, hu]
    simp only [mkV, ha, if_true]
    rw [run_equalIn_struct w d t _ _ (by rw [hf]; exact hu) (by simpa using hst), hf]
    exact equal_flatF m fs.toList 0 K h d us vs r (by omega) (by simpa using he) w
  ·cases h
 termination_by m _ _ => (m, 0)
theorem equal_flatF : ∀ (m : Nat) (fs : List Field) (off : Nat) (K : List Kd), flatF P (flatK P m) fs off = some K → ∀ (d : Nat) (us vs : List Value) (r : Bool), m ≤ d → eqW K (us.drop off) (vs.drop off) = some r → ∀ w, (Op.eqFields d us.toArray vs.toArray fs).run P w = .ok r w
 | m, [], off, K, h => by
  intro d us vs r hd he w
  unfold flatF at h
  injection h with h
  subst h
  have hl := eqW_len he
  have h1 : us.drop off = [] := List.eq_nil_of_length_eq_zero hl.1
  have h2 : vs.drop off = [] := List.eq_nil_of_length_eq_zero hl.2
  rw [h1, h2] at he
  injection he with he
  subst he
  simp [Op.eqFields, Sem.run_pure]
 | m, f :: fs, off, K, h => by
  intro d us vs r hd he w
  unfold flatF at h
  split at h
  ·rename_i hc
   obtain ⟨hn, ho⟩ := hc
   split at h
   ·rename_i K1 hK1
    split at h
    ·rename_i hl1
     split at h
     ·rename_i L hL
      injection h with h
      subst h
      obtain ⟨r1, r2, h1, h2, rfl⟩ := eqW_split he
      rw [List.drop_drop, List.drop_drop] at h2
      have hu : ∃ dd, P.underlying f.type = some dd := by
       cases m with
       | zero => simp [flatK] at hK1
       | succ m =>
        unfold flatK at hK1
        split at hK1 <;> first | exact ⟨_, by assumption⟩ | cases hK1
      obtain ⟨dd, hu⟩ := hu
      have hle := eqW_len h1
      simp only [List.length_take, List.length_drop] at hle
      have hpos := hl1.1
      have p1 : (part f.type us.toArray f.offset).run P w = .ok (mkV (aggT P f.type) ((us.drop off).take K1.length)) w := by
       rw [ho]; exact part_run hu us off _ hl1.2.symm (by omega) hl1.1 w
      have p2 : (part f.type vs.toArray f.offset).run P w = .ok (mkV (aggT P f.type) ((vs.drop off).take K1.length)) w := by
       rw [ho]; exact part_run hu vs off _ hl1.2.symm (by omega) hl1.1 w
      have e1 := equal_flat m f.type K1 hK1 d _ _ r1 hd h1 w
      have e2 := equal_flatF m fs (off + K1.length) L hL d us vs r2 hd h2 w
      simp only [Op.eqFields, hn, ne_eq, not_false_eq_true, if_true, Sem.run_bind, p1, p2, e1, Result.andThen_ok]
      cases r1
      ·simp [Sem.run_pure]
      ·simpa using e2
     ·cases h
    ·cases h
   ·cases h
  ·cases h
 termination_by m fs => (m, fs.length + 1)
end
theorem does_min {x y : Operand} {ts : Array TypeId} {ty : TypeId} {k k' : IntKind} {a b : Int} (hx : s.ev x = .int k a) (hy : s.ev y = .int k' b) :
  Does P N ops ⟨dst, .call ⟨.builtin .min, #[x, y], ts⟩, ty, pos, after, guard⟩ s (pureFx (.int k (if b < a then b else a))) :=
 does_pure _ fun w M J ρ hr => by
  have h1 := hr x (by simp [Op.operands, Call.operands])
  have h2 := hr y (by simp [Op.operands, Call.operands])
  rw [hx] at h1
  rw [hy] at h2
  generalize hcx : ρ x = cx at h1
  generalize hcy : ρ y = cy at h2
  cases h1
  cases h2
  exact ⟨_, by simp [execOp, hcx, hcy, resolve, invoke, builtin, run_min_int2], .int _ _ _⟩
theorem does_max {x y : Operand} {ts : Array TypeId} {ty : TypeId} {k k' : IntKind} {a b : Int} (hx : s.ev x = .int k a) (hy : s.ev y = .int k' b) :
  Does P N ops ⟨dst, .call ⟨.builtin .max, #[x, y], ts⟩, ty, pos, after, guard⟩ s (pureFx (.int k (if b > a then b else a))) :=
 does_pure _ fun w M J ρ hr => by
  have h1 := hr x (by simp [Op.operands, Call.operands])
  have h2 := hr y (by simp [Op.operands, Call.operands])
  rw [hx] at h1
  rw [hy] at h2
  generalize hcx : ρ x = cx at h1
  generalize hcy : ρ y = cy at h2
  cases h1
  cases h2
  exact ⟨_, by simp [execOp, hcx, hcy, resolve, invoke, builtin, run_max_int2], .int _ _ _⟩
end Go.Proofs.Ytmompdklolomfaa.Ab
