import Derived.Test.YtmompdklolomfaaAbCode
namespace Go.Proofs.Ytmompdklolomfaa.Ab
open Go Go.RowKit
set_option linter.unusedVariables false
set_option linter.unusedSimpArgs false
def PV.ofVal1 : Value → PV
 | .bool b => .bool b
 | .int k n => .int k n
 | .string s => .str s
 | .slice none 0 0 => .nil
 | .nilFunc => .nilf
 | _ => .undef
def PV.ofVal : Value → PV
 | .agg cs => .agg (cs.toList.map PV.ofVal1)
 | v => PV.ofVal1 v
def St.ev (s : St) : Operand → PV
 | .tmp t => s.env t
 | .const v => PV.ofVal v
 | .func f => .fn f []
 | .global _ => .undef
theorem rep_ofVal1 {w : World} {M : Nat → Prop} {J : Site} (v : Value) : Rep w M J (PV.ofVal1 v) v := by
 unfold PV.ofVal1
 split
 ·exact .bool _ _
 ·exact .int _ _ _
 ·exact .str _ _
 ·exact .nil _
 ·exact .nilf _
 ·exact .undef _ _
theorem rep_ofVal {w : World} {M : Nat → Prop} {J : Site} (v : Value) : Rep w M J (PV.ofVal v) v := by
 unfold PV.ofVal
 split
 ·rename_i cs
  refine .agg _ _ _ (by simp) fun i c v hc hv => ?_
  rw [List.getElem?_map, Option.map_eq_some_iff] at hc
  obtain ⟨u, hu, rfl⟩ := hc
  have : u = v := by rw [Array.getElem?_toList, hv] at hu; injection hu with hu; exact hu.symm
  subst this
  exact rep_ofVal1 _
 ·exact rep_ofVal1 _
theorem rep_ev {s : St} {w0 : World} {Mv : Nat → Prop} {N : Nat} {J : Site} {a : Act} {w : World} (h : Sim w0 Mv N J s a w) {x : Operand} (hx : ∀ t, x = .tmp t → t < N) : Rep w (Mut s J) J (s.ev x) (a.eval x) := by
 cases x with
 | tmp t => exact h.env t (hx t rfl)
 | const v => exact rep_ofVal v
 | global g => exact .undef _ _
 | func f => exact .fn _ _ _ _ (by simp) fun i c v hc => by simp at hc
theorem looks_op {ops : Array Oper} {o : Oper} {t : Nat} (h : (.tmp t : Operand) ∈ o.op.operands) : t ∈ o.looksAt ops := by
 unfold Oper.looksAt
 refine List.mem_append_left _ (List.mem_filterMap.2 ⟨.tmp t, by simpa using h, rfl⟩)
theorem ev_agree {ops : Array Oper} {o : Oper} {x : Fx} {s s' : St} (h : Agree ops o x s s') {y : Operand} (hy : y ∈ o.op.operands) : s'.ev y = s.ev y := by
 cases y with
 | tmp t => exact h.env t (looks_op hy)
 | _ => rfl
variable {P : Program} {N : Nat} {ops : Array Oper} {o : Oper} {s : St}
theorem Sim.drewN {w0 : World} {Mv : Nat → Prop} {J : Site} {a : Act} {w : World} (h : Sim w0 Mv N J s a w) (n : Nat) : Sim w0 Mv N J s a (w.drewN n) := by
 induction n with
 | zero => exact h
 | succ n ih => rw [← World.drew_drewN]; exact ih.drew
theorem does_read (L : List (Nat × Nat)) (v : PV)
  (h : ∀ w0 Mv J s' a w, Sim w0 Mv N J s' a w → (∀ p ∈ L, s'.heap p.1 p.2 = s.heap p.1 p.2) → (∀ x ∈ o.op.operands, Rep w (Mut s' J) J (s.ev x) (a.eval x)) →
   ∃ cv n, (execOp a.eval o).run P w = .ok (.value cv) (w.drewN n) ∧ Rep w (Mut s' J) J v cv) : Does P N ops o s ⟨L, v, [], []⟩ := by
 intro s' ha hlt w0 Mv J a w hs Q
 obtain ⟨cv, n, hrun, hrep⟩ := h w0 Mv J s' a w hs ha.rd fun x hx => by
  rw [← ev_agree ha hx]
  exact rep_ev hs fun t ht => hlt t (looks_op (ht ▸ hx))
 unfold Oper.wp
 rw [hrun, Oper.upon_value, app_read]
 exact ⟨J, (hs.put _ hrep).drewN n⟩
theorem does_pure (v : PV) (h : ∀ (w : World) (M : Nat → Prop) (J : Site) (ρ : Operand → Value), (∀ x ∈ o.op.operands, Rep w M J (s.ev x) (ρ x)) → ∃ cv, (execOp ρ o).run P w = .ok (.value cv) w ∧ Rep w M J v cv) :
  Does P N ops o s (pureFx v) :=
 does_read [] v fun w0 Mv J s' a w hs _ hr => by
  obtain ⟨cv, h1, h2⟩ := h w _ J a.eval hr
  exact ⟨cv, 0, h1, h2⟩
theorem acts_of (hg : guardOk ops o s = some true) {x : Fx} (h : Does P N ops o s x) : Acts P N ops o s x := .inl ⟨hg, h⟩
theorem acts_skip (hg : guardOk ops o s = some false) : Acts P N ops o s (pureFx .skip) := .inr ⟨hg, rfl⟩
section
variable {dst : Option Tmp} {type : TypeId} {pos : String} {after : Array Edge} {guard : Option (Nat × Bool)}
theorem does_move {x : Operand} {v : PV} (hv : s.ev x = v) : Does P N ops ⟨dst, .move x, type, pos, after, guard⟩ s (pureFx v) :=
 does_pure v fun w M J ρ hr => ⟨_, rfl, hv ▸ hr x (by simp [Op.operands])⟩
theorem does_assign {x : Operand} {v : PV} (hv : s.ev x = v) : Does P N ops ⟨dst, .assign x, type, pos, after, guard⟩ s (pureFx v) :=
 does_pure v fun w M J ρ hr => ⟨_, rfl, hv ▸ hr x (by simp [Op.operands])⟩
theorem does_pick {c x y : Operand} {b : Bool} {v : PV} (hc : s.ev c = .bool b) (hv : (if b then s.ev x else s.ev y) = v) : Does P N ops ⟨dst, .pick c x y, type, pos, after, guard⟩ s (pureFx v) :=
 does_pure v fun w M J ρ hr => by
  have h1 := hr c (by simp [Op.operands])
  have hx := hr x (by simp [Op.operands])
  have hy := hr y (by simp [Op.operands])
  rw [hc] at h1
  generalize hcv : ρ c = cv at h1
  cases h1
  cases b
  ·exact ⟨ρ y, by simp [execOp, hcv, asBool], hv ▸ hy⟩
  ·exact ⟨ρ x, by simp [execOp, hcv, asBool], hv ▸ hx⟩
theorem does_extract {x : Operand} {i : Nat} {vs : List PV} {v : PV} (hx : s.ev x = .tup vs) (hv : vs[i]? = some v) : Does P N ops ⟨dst, .extract x i, type, pos, after, guard⟩ s (pureFx v) :=
 does_pure v fun w M J ρ hr => by
  have h1 := hr x (by simp [Op.operands])
  rw [hx] at h1
  generalize hcv : ρ x = cv at h1
  cases h1 with
  | tup _ cs us hl h =>
   have hi : i < us.size := by rw [← hl]; exact (List.getElem?_eq_some_iff.1 hv).1
   exact ⟨us[i], by simp [execOp, hcv, Instr.extract, Array.getElem?_eq_getElem hi], h i v _ hv (Array.getElem?_eq_getElem hi)⟩
theorem does_makeFunc {f : FuncId} {cs : Array Operand} {vs : List PV} (hv : cs.toList.map s.ev = vs) : Does P N ops ⟨dst, .makeFunc (.func f) #[] cs, type, pos, after, guard⟩ s (pureFx (.fn f vs)) :=
 does_pure _ fun w M J ρ hr => by
  refine ⟨_, rfl, ?_⟩
  simp only [List.map_toArray, List.map_nil]
  refine .fn _ _ _ _ (by rw [← hv]; simp) fun i c v hc hu => ?_
  rw [← hv, List.getElem?_map, Option.map_eq_some_iff] at hc
  obtain ⟨x, hx, rfl⟩ := hc
  rw [Array.getElem?_map, Option.map_eq_some_iff] at hu
  obtain ⟨y, hy, rfl⟩ := hu
  have : x = y := by rw [Array.getElem?_toList, hy] at hx; injection hx with hx; exact hx.symm
  subst this
  exact hr x (by simp [Op.operands]; exact Array.mem_of_getElem? hy)
def binPV (op : BinOp) : PV → PV → Option PV
 | .int k a, .int k' b =>
  match op with
  | .shl => if b < 0 then none else some (.int k (k.wrap (a * 2 ^ min b.toNat k.bits)))
  | .shr => if b < 0 then none else some (.int k (a.fdiv (2 ^ min b.toNat k.bits)))
  | _ => if k ≠ k' then none else match op with
   | .add => some (.int k (k.wrap (a + b)))
   | .sub => some (.int k (k.wrap (a - b)))
   | .mul => some (.int k (k.wrap (a * b)))
   | .quo => if b = 0 then none else some (.int k (k.wrap (a.tdiv b)))
   | .rem => if b = 0 then none else some (.int k (a.tmod b))
   | .and => some (.int k (bits .and k a b))
   | .or => some (.int k (bits .or k a b))
   | .xor => some (.int k (bits .xor k a b))
   | .andNot => some (.int k (bits .andNot k a b))
   | .eql => some (.bool (a == b))
   | .neq => some (.bool (a != b))
   | .lss => some (.bool (decide (a < b)))
   | .leq => some (.bool (decide (a ≤ b)))
   | .gtr => some (.bool (decide (b < a)))
   | .geq => some (.bool (decide (b ≤ a)))
   | _ => none
 | .str a, .str b =>
  match op with
  | .eql => some (.bool (a.toList == b.toList))
  | .neq => some (.bool (!(a.toList == b.toList)))
  | .lss => some (.bool (Op.bytesLess a.toList b.toList))
  | .leq => some (.bool (Op.bytesLess a.toList b.toList || a.toList == b.toList))
  | .gtr => some (.bool (!(Op.bytesLess a.toList b.toList || a.toList == b.toList)))
  | .geq => some (.bool (!Op.bytesLess a.toList b.toList))
  | _ => none
 | _, _ => none
theorem run_eqGuard_int (op : BinOp) (t : TypeId) (x y : Operand) (k k' : IntKind) (a b : Int) (w : World) : (eqGuard op t x y (.int k a) (.int k' b)).run P w = .ok () w := by
 unfold eqGuard; cases op <;> rfl
theorem run_eqGuard_str (op : BinOp) (t : TypeId) (x y : Operand) (a b : ByteArray) (w : World) : (eqGuard op t x y (.string a) (.string b)).run P w = .ok () w := by
 unfold eqGuard; cases op <;> rfl
theorem does_bin {op : BinOp} {t ty : TypeId} {x y : Operand} {a b v : PV} (hx : s.ev x = a) (hy : s.ev y = b) (hv : binPV op a b = some v) : Does P N ops ⟨dst, .binOp op t x y ty, type, pos, after, guard⟩ s (pureFx v) :=
 does_pure v fun w M J ρ hr => by
  have h1 := hr x (by simp [Op.operands])
  have h2 := hr y (by simp [Op.operands])
  rw [hx] at h1
  rw [hy] at h2
  generalize hcx : ρ x = cx at h1
  generalize hcy : ρ y = cy at h2
  unfold binPV at hv
  split at hv
  ·rename_i k a' k' b'
   cases h1
   cases h2
   have hgd := run_eqGuard_int (P := P) op t x y k k' a' b' w
   split at hv
   ·split at hv
    ·cases hv
    ·rename_i hb
     injection hv with hv
     subst hv
     exact ⟨_, by simp [execOp, hcx, hcy, hgd, binOp, Op.shift, hb], .int _ _ _⟩
   ·split at hv
    ·cases hv
    ·rename_i hb
     injection hv with hv
     subst hv
     exact ⟨_, by simp [execOp, hcx, hcy, hgd, binOp, Op.shift, hb], .int _ _ _⟩
   ·rename_i hop1 hop2
    split at hv
    ·cases hv
    ·rename_i hk
     have hk : k = k' := Decidable.not_not.1 hk
     subst hk
     cases op <;> simp only at hv <;> first
      | (cases hv; done)
      | exact absurd rfl hop1
      | exact absurd rfl hop2
      | (injection hv with hv; subst hv; exact ⟨_, by simp [execOp, hcx, hcy, hgd, binOp, Op.intArith, Op.intBits, Op.intCmp, bits], .int _ _ _⟩)
      | (injection hv with hv; subst hv; exact ⟨_, by simp [execOp, hcx, hcy, hgd, binOp, Op.intArith, Op.intBits, Op.intCmp, bits], .bool _ _⟩)
      | (split at hv <;> first | (cases hv; done) | (rename_i hb; injection hv with hv; subst hv; exact ⟨_, by simp [execOp, hcx, hcy, hgd, binOp, Op.intDiv, hb], .int _ _ _⟩))
  ·rename_i a' b'
   cases h1
   cases h2
   have hgd := run_eqGuard_str (P := P) op t x y a' b' w
   cases op <;> simp only at hv <;> first
    | (cases hv; done)
    | (injection hv with hv; subst hv; exact ⟨_, by simp [execOp, hcx, hcy, hgd, binOp, Op.stringOp], .bool _ _⟩)
  ·cases hv
def unPV (op : UnOp) : PV → Option PV
 | .bool b => match op with | .not => some (.bool (!b)) | _ => none
 | .int k n => match op with | .neg => some (.int k (k.wrap (0 - n))) | .xor => some (.int k (bits .xor k (if k.signed then -1 else k.max) n)) | _ => none
 | _ => none
theorem does_un {op : UnOp} {t : TypeId} {x : Operand} {a v : PV} (hx : s.ev x = a) (hv : unPV op a = some v) : Does P N ops ⟨dst, .unOp op t x, type, pos, after, guard⟩ s (pureFx v) :=
 does_pure v fun w M J ρ hr => by
  have h1 := hr x (by simp [Op.operands])
  rw [hx] at h1
  generalize hcx : ρ x = cx at h1
  unfold unPV at hv
  split at hv
  ·cases h1
   cases op <;> simp only at hv <;> first | (cases hv; done) | (injection hv with hv; subst hv; exact ⟨_, by simp [execOp, hcx, Op.unary], .bool _ _⟩)
  ·cases h1
   cases op <;> simp only at hv <;> first | (cases hv; done) | (injection hv with hv; subst hv; exact ⟨_, by simp [execOp, hcx, Op.unary, Op.intArith, Op.intBits, bits], .int _ _ _⟩)
  ·cases hv
theorem does_conv_int {src t : TypeId} {x : Operand} {k k' : IntKind} {n : Int} {v : PV} (hx : s.ev x = .int k n) (hs : (P.underlying src).isSome = true) (ht : P.underlying t = some (.int k')) (hv : PV.int k' (k'.wrap n) = v) :
  Does P N ops ⟨dst, .convert src t x, type, pos, after, guard⟩ s (pureFx v) :=
 does_pure v fun w M J ρ hr => by
  have h1 := hr x (by simp [Op.operands])
  rw [hx] at h1
  generalize hcx : ρ x = cx at h1
  cases h1
  obtain ⟨d, hd⟩ := Option.isSome_iff_exists.mp hs
  subst hv
  exact ⟨_, by simp [execOp, hcx, convert, run_underlying hd, run_underlying ht, Conv.intToInt], .int _ _ _⟩
end
end Go.Proofs.Ytmompdklolomfaa.Ab
