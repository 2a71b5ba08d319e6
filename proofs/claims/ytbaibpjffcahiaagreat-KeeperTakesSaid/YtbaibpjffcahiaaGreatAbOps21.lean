import Derived.Test.YtbaibpjffcahiaaGreatAbDel
import Derived.MapKept
import Derived.Test.YtbaibpjffcahiaaGreatAbOps16
import Derived.ChangeKeysEq
namespace Go.Proofs.YtbaibpjffcahiaaGreat.Ab
open Go Go.RowKit Go.MapKept
set_option linter.unusedVariables false
set_option linter.unusedSimpArgs false
variable {P : Program} {N : Nat} {ops : Array Oper} {s : St} {dst : Option Tmp} {type : TypeId} {pos : String} {after : Array Edge} {guard : Option (Nat × Bool)}
def addN (ks : List Int) (v : Int) : List Int := if v ∈ ks then ks else ks ++ [v]
end Go.Proofs.YtbaibpjffcahiaaGreat.Ab
namespace Go.Proofs.YtbaibpjffcahiaaGreat.Ab
open Go Go.RowKit
set_option linter.unusedVariables false
variable {P : Program} {N : Nat} {s : St}
theorem oc {nm nn ps : Nm} {p q : Nat × Nat} {o o1 o2 : AObj} {r : List ((Nat × Nat) × AObj)} (hr : objOk s nm nn ps r) (h : s.heap p.1 p.2 = some o := by conv => lhs; whnf) (h1 : renO s nm nn o = some o1 := by conv => lhs; whnf) (e : o1 = o2 := by exact rfl) (h0 : q.1 = 0 → p = q := by simp) : objOk s nm nn (p :: ps) ((q, o2) :: r) := objOk_cons h h1 e h0 hr
theorem ra {tl : List (Nat × PV)} {ol : List ((Nat × Nat) × AObj)} {nx : List (Nat × Nat)} (nm : Nm) (henv : envOk s nm (ol.map (·.1)) tl := by repeat (first | exact envOk_nil | refine ec ?_)) (hobj : objOk s nm (ol.map (·.1)) nm ol := by repeat (first | exact objOk_nil | refine oc ?_))
  (hnm : nm.Nodup := by exact nodup_b rfl) (hnn : (ol.map (·.1)).Nodup := by exact nodup_b rfl) (hnx : ol.all (fun q => Nat.blt q.1.2 (assocN nx q.1.1)) = true := by exact rfl) (hnx0 : Nat.ble (s.next 0) (assocN nx 0) = true := by exact rfl) : Reb N s (lit tl ol nx s.X) := reb_lit tl nm ol nx henv hobj hnm hnn hnx hnx0
end Go.Proofs.YtbaibpjffcahiaaGreat.Ab
namespace Go.Proofs.YtbaibpjffcahiaaGreat.Ab
open Go Go.RowKit
set_option linter.unusedVariables false
set_option linter.unusedSimpArgs false
variable {P : Program} {N : Nat} {ops : Array Oper} {s : St} {dst : Option Tmp} {type : TypeId} {pos : String} {after : Array Edge} {guard : Option (Nat × Bool)}
def intP : PV → Bool
 | .int _ _ => true
 | _ => false
end Go.Proofs.YtbaibpjffcahiaaGreat.Ab
namespace Go.Proofs.YtbaibpjffcahiaaGreat.Ab
open Go Go.RowKit
set_option linter.unusedVariables false
set_option linter.unusedSimpArgs false
variable {P : Program} {N : Nat} {ops : Array Oper} {s : St} {dst : Option Tmp} {type : TypeId} {pos : String} {after : Array Edge} {guard : Option (Nat × Bool)}
def repK : Nat → List Kd → List Kd
 | 0, _ => []
 | n + 1, K => K ++ repK n K
def flatA (P : Program) : Nat → TypeId → Option (List Kd)
 | 0, _ => none
 | d + 1, t => match P.underlying t with
  | some .bool => some [.b]
  | some (.int k) => some [.i k]
  | some .string => some [.s]
  | some (.struct fs) => if P.stoodInHeld t then none else flatF P (flatA P d) fs.toList 0
  | some (.array n e) => match flatA P d e with
   | some K => if 0 < K.length ∧ K.length = P.cellsOf e then some (repK n K) else none
   | none => none
  | _ => none
theorem equal_items {d : Nat} {e : TypeId} {K : List Kd} (hE : ∀ (us vs : List Value) (r : Bool), eqW K us vs = some r → ∀ w, (Op.equalIn d e (mkV (aggT P e) us) (mkV (aggT P e) vs)).run P w = .ok r w) (h0 : 0 < K.length) (hl : K.length = P.cellsOf e) (hu : ∃ dd, P.underlying e = some dd) :
  ∀ (n i : Nat) (us vs : List Value) (r : Bool), eqW (repK n K) (us.drop (i * K.length)) (vs.drop (i * K.length)) = some r → ∀ w, (Op.eqItems d e (P.cellsOf e) us.toArray vs.toArray (List.range' i n)).run P w = .ok r w
 | 0, i, us, vs, r, he, w => by
  have hl := eqW_len he
  have h1 : us.drop (i * K.length) = [] := List.eq_nil_of_length_eq_zero hl.1
  have h2 : vs.drop (i * K.length) = [] := List.eq_nil_of_length_eq_zero hl.2
  rw [h1, h2] at he
  injection he with he
  subst he
  simp [Op.eqItems, Sem.run_pure]
 | n + 1, i, us, vs, r, he, w => by
  obtain ⟨r1, r2, h1, h2, rfl⟩ := eqW_split he
  rw [List.drop_drop, List.drop_drop, show i * K.length + K.length = (i + 1) * K.length by rw [Nat.succ_mul]] at h2
  obtain ⟨dd, hu'⟩ := hu
  have hle := eqW_len h1
  simp only [List.length_take, List.length_drop] at hle
  have p1 : (part e us.toArray (i * P.cellsOf e)).run P w = .ok (mkV (aggT P e) ((us.drop (i * K.length)).take K.length)) w := by
   rw [← hl]; exact part_run hu' us _ _ hl.symm (by omega) h0 w
  have p2 : (part e vs.toArray (i * P.cellsOf e)).run P w = .ok (mkV (aggT P e) ((vs.drop (i * K.length)).take K.length)) w := by
   rw [← hl]; exact part_run hu' vs _ _ hl.symm (by omega) h0 w
  have e1 := hE _ _ r1 h1 w
  have e2 := equal_items hE h0 hl ⟨dd, hu'⟩ n (i + 1) us vs r2 h2 w
  rw [List.range'_succ]
  simp only [Op.eqItems, Sem.run_bind, p1, p2, e1, Result.andThen_ok]
  cases r1
  ·simp [Sem.run_pure]
  ·simpa using e2
mutual
theorem equal_flatA : ∀ (m : Nat) (t : TypeId) (K : List Kd), flatA P m t = some K → ∀ (d : Nat) (us vs : List Value) (r : Bool), m ≤ d → eqW K us vs = some r → ∀ w, (Op.equalIn d t (mkV (aggT P t) us) (mkV (aggT P t) vs)).run P w = .ok r w
 | 0, t, K, h => by simp [flatA] at h
 | m + 1, t, K, h => by
  intro d us vs r hd he w
  obtain ⟨d, rfl⟩ : ∃ e, d = e + 1 := ⟨d - 1, by omega⟩
  unfold flatA at h
  split at h
  ·rename_i hu; injection h with h; subst h; exact cell_equal (k := .b) hu he w
  ·rename_i hu; injection h with h; subst h; exact cell_equal (k := .i _) hu he w
  ·rename_i hu; injection h with h; subst h; exact cell_equal (k := .s) hu he w
  ·rename_i fs hu
   split at h
   ·cases h
   ·rename_i hst
    have hf : P.fieldsOf t = fs := by simp [Program.fieldsOf, hu]
    have ha : aggT P t = true := by simp [aggT, hu]
    simp only [mkV, ha, if_true]
    rw [run_equalIn_struct w d t _ _ (by rw [hf]; exact hu) (by simpa using hst), hf]
    exact equal_flatAF m fs.toList 0 K h d us vs r (by omega) (by simpa using he) w
  ·rename_i n e hu
   split at h
   ·rename_i K1 hK1
    split at h
    ·rename_i hl1
     injection h with h
     subst h
     have ha : aggT P t = true := by simp [aggT, hu]
     obtain ⟨i, hi⟩ : ∃ i, P.info? e = some i := by
      cases hi : P.info? e with
      | none =>
       exfalso
       have h1 := hl1.1
       have h2 := hl1.2
       simp [Program.cellsOf, hi] at h2
       simp [h2] at h1
      | some i => exact ⟨i, rfl⟩
     simp only [mkV, ha, if_true]
     rw [run_equalIn_array w d _ _ hu hi, List.range_eq_range']
     have hue : ∃ dd, P.underlying e = some dd := by
      cases m with
      | zero => simp [flatA] at hK1
      | succ m =>
       unfold flatA at hK1
       split at hK1 <;> first | exact ⟨_, by assumption⟩ | cases hK1
     exact equal_items (fun a b r he w => equal_flatA m e K1 hK1 d a b r (by omega) he w) hl1.1 hl1.2 hue n 0 us vs r (by simpa using he) w
    ·cases h
   ·cases h
  ·cases h
 termination_by m _ _ => (m, 0)
theorem equal_flatAF : ∀ (m : Nat) (fs : List Field) (off : Nat) (K : List Kd), flatF P (flatA P m) fs off = some K → ∀ (d : Nat) (us vs : List Value) (r : Bool), m ≤ d → eqW K (us.drop off) (vs.drop off) = some r → ∀ w, (Op.eqFields d us.toArray vs.toArray fs).run P w = .ok r w
 | m, [], off, K, h => by
  intro d us vs r hd he w
  unfold flatF at h
  injection h with h
  subst h
  have hl := eqW_len he
  have h1 : us.drop off = [] := List.eq_nil_of_length_eq_zero hl.1
  have h2 : vs.drop off = [] := List.eq_nil_of_length_eq_zero hl.2
  rw [h1, h2] at he
  injection he with he
  subst he
  simp [Op.eqFields, Sem.run_pure]
 | m, f :: fs, off, K, h => by
  intro d us vs r hd he w
  unfold flatF at h
  split at h
  ·rename_i hc
   obtain ⟨hn, ho⟩ := hc
   split at h
   ·rename_i K1 hK1
    split at h
    ·rename_i hl1
     split at h
     ·rename_i L hL
      injection h with h
      subst h
      obtain ⟨r1, r2, h1, h2, rfl⟩ := eqW_split he
      rw [List.drop_drop, List.drop_drop] at h2
      have hu : ∃ dd, P.underlying f.type = some dd := by
       cases m with
       | zero => simp [flatA] at hK1
       | succ m =>
        unfold flatA at hK1
        split at hK1 <;> first | exact ⟨_, by assumption⟩ | cases hK1
      obtain ⟨dd, hu⟩ := hu
      have hle := eqW_len h1
      simp only [List.length_take, List.length_drop] at hle
      have hpos := hl1.1
      have p1 : (part f.type us.toArray f.offset).run P w = .ok (mkV (aggT P f.type) ((us.drop off).take K1.length)) w := by
       rw [ho]; exact part_run hu us off _ hl1.2.symm (by omega) hl1.1 w
      have p2 : (part f.type vs.toArray f.offset).run P w = .ok (mkV (aggT P f.type) ((vs.drop off).take K1.length)) w := by
       rw [ho]; exact part_run hu vs off _ hl1.2.symm (by omega) hl1.1 w
      have e1 := equal_flatA m f.type K1 hK1 d _ _ r1 hd h1 w
      have e2 := equal_flatAF m fs (off + K1.length) L hL d us vs r2 hd h2 w
      simp only [Op.eqFields, hn, ne_eq, not_false_eq_true, if_true, Sem.run_bind, p1, p2, e1, Result.andThen_ok]
      cases r1
      ·simp [Sem.run_pure]
      ·simpa using e2
     ·cases h
    ·cases h
   ·cases h
  ·cases h
 termination_by m fs => (m, fs.length + 1)
end
end Go.Proofs.YtbaibpjffcahiaaGreat.Ab
namespace Go.Proofs.YtbaibpjffcahiaaGreat.Ab
open Go Go.RowKit
set_option linter.unusedVariables false
variable {P : Program} {N : Nat} {ops : Array Oper} {s : St} {Q : Exit → St → Prop} {dst : Option Tmp} {type : TypeId} {pos : String} {after : Array Edge} {guard : Option (Nat × Bool)}
theorem nk {x : Operand} {p q : PV} (hx : s.ev x = p := by conv => lhs; whnf) (hq : p.plus 0 = some q := by exact rfl) : Does P N ops ⟨dst, .nilCheck x, type, pos, after, guard⟩ s (pureFx p) := does_nilCheck hx hq
theorem zl {t ty e : TypeId} {x : Operand} {sz by_ m : Nat} {z : List PV} {α : Type} {f : α → PV} {l : List α} (ht : tyOf P t = some ⟨.slice e, sz, by_, z⟩) (hx : s.ev x = .sl m (List.map f l) := by conv => lhs; whnf) :
  Does P N ops ⟨dst, .call ⟨.builtin .len, #[x], #[t]⟩, ty, pos, after, guard⟩ s (pureFx (.int .i64 (l.length : Int))) := (does_len_sl hx ht).castp (len_map _)
theorem ia {t e : TypeId} {x y : Operand} {sz by_ : Nat} {z : List PV} {ei : TyI} {k : IntKind} {i : Int} {α : Type} {f : α → PV} {l : List α} {a : α} (ht : tyOf P t = some ⟨.slice e, sz, by_, z⟩) (he : tyOf P e = some ei) (h0 : 0 ≤ i) (hg : l[i.toNat]? = some a) (hx : s.ev x = .sl ei.size (List.map f l) := by conv => lhs; whnf) (hy : s.ev y = .int k i := by conv => lhs; whnf) :
  Does P N ops ⟨dst, .indexAddr t x y, type, pos, after, guard⟩ s (pureFx (.rptr (f a).cells)) := does_indexAddr_sl hx hy ht he h0 (map_get hg)
theorem ja {t e : TypeId} {x y : Operand} {sz by_ : Nat} {z : List PV} {ei : TyI} {k : IntKind} {i : Int} {j : Nat} {α : Type} {f : α → PV} {l : List α} {a : α} (ht : tyOf P t = some ⟨.slice e, sz, by_, z⟩) (he : tyOf P e = some ei) (hg : l[j]? = some a) (hx : s.ev x = .sl ei.size (List.map f l) := by conv => lhs; whnf) (hy : s.ev y = .int k i := by conv => lhs; whnf) (hj : i.toNat = j := by exact rfl) (h0 : 0 ≤ i := by decide) :
  Does P N ops ⟨dst, .indexAddr t x y, type, pos, after, guard⟩ s (pureFx (.rptr (f a).cells)) := does_indexAddr_sl hx hy ht he h0 (map_get (hj ▸ hg))
theorem mv {x : Operand} {v : PV} (hv : s.ev x = v := by conv => lhs; whnf) : Does P N ops ⟨dst, .move x, type, pos, after, guard⟩ s (pureFx v) := does_move hv
theorem asg {x : Operand} {v : PV} (hv : s.ev x = v := by conv => lhs; whnf) : Does P N ops ⟨dst, .assign x, type, pos, after, guard⟩ s (pureFx v) := does_assign hv
theorem ld {t : TypeId} {x : Operand} {p : PV} {cs : List PV} {L : List (Nat × Nat)} {ti : TyI} {v : PV} (ht : tyOf P t = some ti) (hx : s.ev x = p := by conv => lhs; whnf) (hc : s.cellsAt p = some (cs, L) := by conv => lhs; whnf) (hv : loadPV ti cs = some v := by conv => lhs; whnf) :
  Does P N ops ⟨dst, .load t x, type, pos, after, guard⟩ s ⟨L, v, [], []⟩ := does_load hx hc ht hv
theorem fa {t : TypeId} {x : Operand} {i : Nat} {p q : PV} {fs : List (Nat × TypeId)} {sz by_ : Nat} {z : List PV} {off : Nat} {ft : TypeId} {fi : TyI} (ht : tyOf P t = some ⟨.struct fs, sz, by_, z⟩) (hft : tyOf P ft = some fi) (hx : s.ev x = p := by conv => lhs; whnf) (hf : fs[i]? = some (off, ft) := by exact rfl) (hp : fi.size ≠ 0 := by decide) (hq : p.plus off = some q := by conv => lhs; whnf) :
  Does P N ops ⟨dst, .fieldAddr t x i, type, pos, after, guard⟩ s (pureFx q) := does_fieldAddr hx ht hf hft hp hq
theorem un {op : UnOp} {t : TypeId} {x : Operand} {a v : PV} (hx : s.ev x = a := by conv => lhs; whnf) (hv : unPV op a = some v := by conv => lhs; whnf) : Does P N ops ⟨dst, .unOp op t x, type, pos, after, guard⟩ s (pureFx v) := does_un hx hv
theorem bi {op : BinOp} {t ty : TypeId} {x y : Operand} {a b v : PV} (hx : s.ev x = a := by conv => lhs; whnf) (hy : s.ev y = b := by conv => lhs; whnf) (hv : binPV op a b = some v := by conv => lhs; whnf) : Does P N ops ⟨dst, .binOp op t x y ty, type, pos, after, guard⟩ s (pureFx v) := does_bin hx hy hv
theorem pc {c x y : Operand} {b : Bool} {v : PV} (hc : s.ev c = .bool b := by conv => lhs; whnf) (hv : (if b then s.ev x else s.ev y) = v := by conv => lhs; whnf) : Does P N ops ⟨dst, .pick c x y, type, pos, after, guard⟩ s (pureFx v) := does_pick hc hv
theorem ex {x : Operand} {i : Nat} {vs : List PV} {v : PV} (hx : s.ev x = .tup vs := by conv => lhs; whnf) (hv : vs[i]? = some v := by conv => lhs; whnf) : Does P N ops ⟨dst, .extract x i, type, pos, after, guard⟩ s (pureFx v) := does_extract hx hv
theorem nw {d : Nat} {t : TypeId} {ti : TyI} (ht : tyOf P t = some ti) (hz : ti.zero.isEmpty = false := by exact rfl) (ho : ti.zero.all PV.one = true := by exact rfl) :
  Does P N ops ⟨some d, .alloc t, type, pos, after, guard⟩ s ⟨[], .ptr d (s.next d) 0, [((d, s.next d), some (.box ti.zero))], [d]⟩ := do_new ht hz ho
theorem bs {d : Nat} {t e : TypeId} {len : Nat} {ps : Array (Nat × Operand)} {sz by_ : Nat} {z : List PV} {ei : TyI} (xs : List PV) {ps' : List (Nat × PV)} {L : List (Nat × Nat)} (ht : tyOf P t = some ⟨.slice e, sz, by_, z⟩) (he : tyOf P e = some ei) (hlow : s.lowP (evParts s ps.toList) = some (ps', L))
  (hz : ei.zero.isEmpty = false := by exact rfl) (hzl : Nat.beq ei.zero.length ei.size = true := by exact rfl) (hlen : Nat.beq xs.length len = true := by exact rfl) (hw : xs.all (fun x => Nat.beq x.cells.length ei.size) = true := by exact rfl) (h24 : Nat.ble (len * ei.size) 16777216 = true := by exact rfl) (ho : (flat xs).all PV.one = true := by exact rfl)
  (hf : fillPV (fun i => some (i * ei.size, ei.size)) ((List.replicate len ei.zero).flatten) ps' = some (flat xs) := by exact rfl) : Does P N ops ⟨some d, .buildSlice t len ps, type, pos, after, guard⟩ s ⟨L, .own d (s.next d), [((d, s.next d), some (.arr e ei.size false xs))], [d]⟩ := do_buildSlice ht he hz hzl hlen hw h24 hlow ho hf
theorem sto {t : TypeId} {p x : Operand} {d n off : Nat} {cs : List PV} {pv : PV} {ti : TyI} (cs' : List PV) (ht : tyOf P t = some ti) (hp : s.ev p = .ptr d n off := by conv => lhs; whnf) (hx : s.ev x = pv := by conv => lhs; whnf) (hb : s.heap d n = some (.box cs) := by conv => lhs; whnf)
  (ho : pv.cells.all PV.one = true := by exact rfl) (hsz : pv.cells.length = ti.size := by exact rfl) (hfit : Nat.ble (off + ti.size) cs.length = true := by exact rfl) (hcs : splice cs off pv.cells = cs' := by exact rfl) : Does P N ops ⟨none, .store t p x, type, pos, after, guard⟩ s ⟨[], .skip, [((d, n), some (.box cs'))], []⟩ := do_store hp hx hb ht ho hsz hfit hcs
theorem pZ {o : Oper} {l : List Oper} {x : Fx} (h : Does P N ops o s x) (k : AL P N ops l (s.app none x) Q) (hd : o.dst = none := by exact rfl) (hg : guardOk ops o s = some true := by exact rfl) (hN : ∀ z0 ∈ o.looksAt ops, z0 < N := by decide) : AL P N ops (o :: l) s Q := alD none hd hg h hN k
theorem cZ {fo : Operand} {xs : Array Operand} {tys : Array TypeId} {f : FuncId} {caps args : List PV} {rows' : List Row} {r r' : PV} (d0 : Nat) (hok : Ok P f args [] [] r [] rows') (hent : Ent P f) (hf : s.ev fo = .fn f caps := by conv => lhs; whnf)
  (hargs : mapO (s.arg1 [] [] []) (xs.toList.map s.ev ++ caps) = some args := by exact rfl) (hr : raiV [] d0 (s.next d0) r = some r' := by conv => lhs; whnf) : Does P N ops ⟨dst, .call ⟨.value fo, xs, tys⟩, type, pos, after, guard⟩ s ⟨[], r', rowU d0 (s.next d0) false 0 rows' ++ [], List.replicate (rows'.length + 1) d0⟩ := do_call0 d0 false hok hf hent hargs hr
theorem cz {fo : Operand} {xs : Array Operand} {tys : Array TypeId} {f : FuncId} {caps args : List PV} {r : PV} (d0 : Nat) (r' : PV) (hok : Ok P f args [] [] r [] []) (hent : Ent P f) (hf : s.ev fo = .fn f caps := by conv => lhs; whnf)
  (hargs : mapO (s.arg1 [] [] []) (xs.toList.map s.ev ++ caps) = some args := by exact rfl) (hr : raiV [] d0 (s.next d0) r = some r' := by exact rfl) : Does P N ops ⟨dst, .call ⟨.value fo, xs, tys⟩, type, pos, after, guard⟩ s ⟨[], r', [], [d0]⟩ := do_call0 d0 false hok hf hent hargs hr
theorem rowsOk_nil : rowsOk s [] [] := trivial
theorem boxesOk_nil {nb i : Nat} {names : Nm} : boxesOk s nb names i [] := trivial
section
variable {α : Type} {β : Type} {C : Prop}
theorem bE {x : Option α} {f : α → Option β} {r : β} (h : Option.bind x f = some r) (k : ∀ a, x = some a → f a = some r → C) : C := by
 obtain ⟨a, h1, h2⟩ := bnd_some h
 exact k a h1 h2
theorem gE {p : Prop} [Decidable p] {x : Option α} {r : α} (h : gd p x = some r) (k : p → x = some r → C) : C := k (gd_some h).1 (gd_some h).2
theorem tk {p : Prop} (h : p) (k : p → C) : C := k h
end
section
variable {α : Type} {b : Bool} {A B : Option α} {r : α} (t : Nat) (h : (if b = true then A else B) = some r)
include h
theorem wi {x y : Code} (h1 : b = true → A = some r → AW P N x (s.put (some t) (.bool true)) Q) (h2 : b = false → B = some r → AW P N y (s.put (some t) (.bool false)) Q) (hb : s.env t = .bool b := by exact rfl) (ht : t < N := by decide) : AW P N (.cond (.tmp t) x y) s Q :=
 aw_bool t hb (fun c => aw_cond_t ht (by simp [St.put, upd]) (h1 c (ifT c h))) (fun c => aw_cond_f ht (by simp [St.put, upd]) (h2 c (ifF c h)))
theorem li {l : List Oper} (h1 : b = true → A = some r → AL P N ops l (s.put (some t) (.bool true)) Q) (h2 : b = false → B = some r → AL P N ops l (s.put (some t) (.bool false)) Q) (hb : s.env t = .bool b := by exact rfl) : AL P N ops l s Q :=
 al_bool t hb (fun c => h1 c (ifT c h)) (fun c => h2 c (ifF c h))
end
theorem rk {rs : Array ResultVar} {r r' : PV} {e : Exit} {pv : PV} (hpv : s.resPV P rs.toList = some pv := by conv => lhs; whnf) (hr : s.retV 0 [] pv = some r' := by conv => lhs; whnf) (he : r' = r := by exact rfl) (hex : e = .normal ∨ e = .ret := by exact .inr rfl) (hlt : rs.toList.all (resLt N) = true := by exact rfl) :
  RetOk P N rs r [] [] e s := ret_ok1 hpv hr he hex hlt
theorem rB {rs : Array ResultVar} {r r' : PV} {boxes' : List (List PV)} {rows' : List Row} {e : Exit} {pv : PV} (names : Nm) (hpv : s.resPV P rs.toList = some pv := by conv => lhs; whnf) (hr : s.retV boxes'.length names pv = some r' := by conv => lhs; whnf) (he : r' = r := by exact rfl)
  (hrow : rowsOk s names rows' := by repeat (first | exact rowsOk_nil | refine rowsOk_cons W_ R_ ?_)) (hbox : boxesOk s boxes'.length names 0 boxes' := by repeat (first | exact boxesOk_nil | refine boxesOk_cons W_ W_ R_ ?_)) (hnd : names.Nodup := by exact nodup_b rfl) (hex : e = .normal ∨ e = .ret := by exact .inr rfl) (hlt : rs.toList.all (resLt N) = true := by exact rfl) :
  RetOk P N rs r boxes' rows' e s := ret_okB names hpv hr he hrow hbox hnd hex hlt
theorem bk {m : Nat} {s' : St} {I : Nat → St → Prop} (hr : Reb N s s') (hI : I m s') : ∃ k, k < m + 1 ∧ ∃ s'', Reb N s s'' ∧ I k s'' := ⟨m, Nat.lt_succ_self _, _, hr, hI⟩
theorem oK {f : FuncId} {fn : Func} {c : Code} {args : List PV} {boxes boxes' : List (List PV)} {rows rows' : List Row} {r : PV} (hf : P.funcs[f]? = some fn) (hb : fn.body = some c) (h : ∀ X, AW P fn.ntmps c (entry args boxes rows X) (RetOk P fn.ntmps fn.results r boxes' rows')) (hN : Nat.ble args.length fn.ntmps = true := by exact rfl) (hl : Nat.ble boxes'.length boxes.length = true := by exact rfl) :
  Ok P f args boxes rows r boxes' rows' := ok_of_code hf hb (Nat.le_of_ble_eq_true hN) (Nat.le_of_ble_eq_true hl) h
theorem eN {f : FuncId} {fn : Func} (h : P.funcs[f]? = some fn) (h1 : (fn.name == "runtime.NumGoroutine") = false := by kernel_rfl) (h2 : fn.body.isNone = false := by exact rfl) : Ent P f := ⟨fn, h, h1, h2⟩
end Go.Proofs.YtbaibpjffcahiaaGreat.Ab
