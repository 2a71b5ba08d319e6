import Derived.Test.YtmompdklolomfaaAbAuto
import Derived.Lib.AppendStr
import Derived.Laws.BytesString
import Derived.Laws.Cover3
namespace Go.Proofs.Ytmompdklolomfaa.Ab
open Go Go.RowKit
set_option linter.unusedVariables false
set_option linter.unusedSimpArgs false
variable {P : Program} {N : Nat} {ops : Array Oper} {dst : Option Tmp} {type : TypeId} {pos : String} {after : Array Edge} {guard : Option (Nat × Bool)} {s : St}
theorem own_lt {α : Type} {f : α → PV} {l : List α} {i : Int} {x : α} (h : l[i.toNat]? = some x) : i < ((List.map f l).length : Int) := by
 have := (List.getElem?_eq_some_iff.1 h).1
 rw [List.length_map]; omega
theorem part_l {α : Type} {f : α → PV} (l : List α) (i : Nat) : ((List.map f l).take (List.map f l).length).drop i = List.map f (List.drop i l) := by rw [List.take_length, List.map_drop]
theorem part_h {α : Type} {f : α → PV} (l : List α) (k : Nat) : ((List.map f l).take k).drop 0 = List.map f (List.take k l) := by rw [List.drop_zero, List.map_take]
def strOf (l : List UInt8) : ByteArray := ⟨l.toArray⟩
def bytesOf (s : ByteArray) : List UInt8 := s.data.toList
theorem bytesOf_strOf (l : List UInt8) : bytesOf (strOf l) = l := by simp [strOf, bytesOf]
end Go.Proofs.Ytmompdklolomfaa.Ab
namespace Go.Proofs.Ytmompdklolomfaa.Ab
open Go Go.RowKit
set_option linter.unusedVariables false
set_option linter.unusedSimpArgs false
variable {P : Program} {N : Nat} {ops : Array Oper} {dst : Option Tmp} {type : TypeId} {pos : String} {after : Array Edge} {guard : Option (Nat × Bool)} {s : St}
def boxIn (s : St) : Nm → List (List PV) → Prop
 | [], [] => True
 | p :: ps, cs :: css => s.heap p.1 p.2 = some (.box cs) ∧ boxIn s ps css
 | _, _ => False
theorem boxIn_get {s : St} : ∀ {ps : Nm} {css : List (List PV)}, boxIn s ps css → ps.length = css.length ∧ ∀ (i : Nat) (p : Nat × Nat) (cs : List PV), ps[i]? = some p → css[i]? = some cs → s.heap p.1 p.2 = some (.box cs)
 | [], [], _ => ⟨rfl, fun i p cs h => by simp at h⟩
 | p :: ps, [], h => h.elim
 | [], c :: cs, h => h.elim
 | p :: ps, c :: css, ⟨h1, h2⟩ => by
  obtain ⟨h3, h4⟩ := boxIn_get h2
  refine ⟨by simp [h3], fun i q cs hq hc => ?_⟩
  cases i with
  | zero => simp at hq hc; subst hq hc; exact h1
  | succ i => simp at hq hc; exact h4 i q cs hq hc
def frzOk (s : St) : Nm → Prop
 | [] => True
 | p :: ps => (∃ e sz xs, s.heap p.1 p.2 = some (.arr e sz true xs)) ∧ frzOk s ps
theorem frzOk_get {s : St} : ∀ {l : Nm}, frzOk s l → ∀ p ∈ l, ∃ e sz xs, s.heap p.1 p.2 = some (.arr e sz true xs)
 | [], _, p, hp => by cases hp
 | q :: r, ⟨h1, h2⟩, p, hp => by
  rcases List.mem_cons.1 hp with rfl | hp
  ·exact h1
  ·exact frzOk_get h2 p hp
def rowsPl : List Row → Prop
 | [] => True
 | q :: r => (∀ c ∈ flat q.2.2, c.plain = true) ∧ rowsPl r
theorem rowsPl_get : ∀ {l : List Row}, rowsPl l → ∀ q ∈ l, ∀ c ∈ flat q.2.2, c.plain = true
 | [], _, q, hq => by cases hq
 | p :: r, ⟨h1, h2⟩, q, hq => by
  rcases List.mem_cons.1 hq with rfl | hq
  ·exact h1
  ·exact rowsPl_get h2 q hq
theorem plain_map {α : Type} {f : α → PV} {l : List α} (h : ∀ x, (f x).cells.all PV.plain = true) : ∀ c ∈ flat (List.map f l), c.plain = true := by
 intro c hc
 simp only [flat, List.mem_flatMap, List.mem_map] at hc
 obtain ⟨_, ⟨x, _, rfl⟩, hc⟩ := hc
 have := h x
 rw [List.all_eq_true] at this
 exact this c hc
def apartNm (L bn rn : Nm) : Bool := L.all fun p => bn.all (fun q => !(p.1 == q.1 && p.2 == q.2)) && rn.all fun q => !(p.1 == q.1 && p.2 == q.2)
theorem apartNm_spec {L bn rn : Nm} (h : apartNm L bn rn = true) : ∀ p ∈ L, p ∉ bn ∧ p ∉ rn := by
 simp only [apartNm, List.all_eq_true, Bool.and_eq_true, Bool.not_eq_true', Bool.and_eq_false_iff, beq_eq_false_iff_ne] at h
 intro p hp
 obtain ⟨h1, h2⟩ := h p hp
 exact ⟨fun hb => by rcases h1 p hb with h | h <;> exact h rfl, fun hb => by rcases h2 p hb with h | h <;> exact h rfl⟩
theorem do_callG {fo : Operand} {xs : Array Operand} {tys : Array TypeId} {f : FuncId} {caps args : List PV} {boxes boxes' boxes2 bcs : List (List PV)} {rows' rws : List Row} {r r' : PV} (bn rn L : Nm) (d0 : Nat) (fz : Bool)
  (hok : Ok P f args boxes rws r boxes' rows') (hf : s.ev fo = .fn f caps) (hent : Ent P f) (hbox : boxIn s bn bcs) (hrow : rowsOk s rn rws) (hnb : nodupB bn = true) (hnr : nodupB rn = true) (hap : apartNm L bn rn = true)
  (hargs : mapO (s.arg1 bn rn L) (xs.toList.map s.ev ++ caps) = some args) (hbx : mapO (fun cs => mapO (s.argC bn rn L) cs) bcs = some boxes) (hbl : boxes'.length = boxes.length)
  (hrb : mapO (fun cs => mapO (raiC bn d0 (s.next d0)) cs) boxes' = some boxes2) (hr : raiV bn d0 (s.next d0) r = some r')
  (hsafe : frzOk s L ∨ (r.plainV = true ∧ boxes'.all (fun cs => cs.all PV.plain) = true ∧ rowsPl rows')) :
  Does P N ops ⟨dst, .call ⟨.value fo, xs, tys⟩, type, pos, after, guard⟩ s ⟨L, r', rowU d0 (s.next d0) fz 0 rows' ++ (boxU bn boxes2 ++ deadU rn), List.replicate (rows'.length + 1) d0⟩ := by
 obtain ⟨b1, b2⟩ := boxIn_get hbox
 obtain ⟨r1, r2⟩ := rowsOk_get hrow
 refine does_call bn rn L bcs rws d0 fz hf hent ⟨nodup_b hnb, nodup_b hnr, b1, r1, b2, r2⟩ (apartNm_spec hap) hargs hbx hok hbl hrb hr ?_
 rcases hsafe with h | ⟨h1, h2, h3⟩
 ·exact .inl (frzOk_get h)
 ·refine .inr ⟨h1, fun cs hcs c hc => ?_, rowsPl_get h3⟩
  rw [List.all_eq_true] at h2
  have := h2 cs hcs
  rw [List.all_eq_true] at this
  exact this c hc
theorem Ok.weak {f : FuncId} {args args' : List PV} {boxes boxes' : List (List PV)} {rows rows' : List Row} {r : PV} (h : Ok P f args boxes rows r boxes' rows') (hl : leL args' args) : Ok P f args' boxes rows r boxes' rows' := by
 intro w X J vals hB hvl hrep
 obtain ⟨h1, h2⟩ := leL_get hl
 refine h w X J vals hB (hvl.trans h1) fun i pv v hpv hv => ?_
 have hi : i < args'.length := by rw [h1]; exact (List.getElem?_eq_some_iff.1 hpv).1
 exact (h2 i _ pv (List.getElem?_eq_getElem hi) hpv).2 _ _ _ _ (hrep i _ v (List.getElem?_eq_getElem hi) hv)
theorem Does.weak {o : Oper} {L : List (Nat × Nat)} {v v' : PV} {U : List ((Nat × Nat) × Option AObj)} {M : List Nat} (h : Does P N ops o s ⟨L, v, U, M⟩) (hv : PVle v v') : Does P N ops o s ⟨L, v', U, M⟩ := by
 intro s' ha hlt w0 Mv J a w hs Q
 refine Oper.wp_mono ?_ (h s' ⟨ha.env, ha.rd, ha.up, ha.nx⟩ hlt w0 Mv J a w hs Q)
 rintro a' w' ⟨J', h'⟩
 refine ⟨J', ?_⟩
 have hm : ∀ g, Mut (s'.app o.dst ⟨L, v', U, M⟩) J' g = Mut (s'.app o.dst ⟨L, v, U, M⟩) J' g := fun g => rfl
 refine ⟨h'.size, h'.defers, fun t ht => ?_, h'.obj, h'.sep, h'.nxt, h'.frame, h'.mutb, h'.xlt, h'.sepX, h'.ext, h'.grow, h'.os, h'.tape, h'.output, h'.drawn⟩
 have h1 := h'.env t ht
 cases hd : o.dst with
 | none => rw [hd] at h1; exact h1
 | some d =>
  rw [hd] at h1
  by_cases e : t = d
  ·subst e
   simp only [St.app, St.put, upd, if_true] at h1 ⊢
   exact hv.2 _ _ _ _ h1
  ·simp only [St.app, St.put, upd, if_neg e] at h1 ⊢
   exact h1
def inI (k : IntKind) (n : Int) : Prop := k.min ≤ n ∧ n ≤ k.max
theorem wf_int {k : IntKind} {n : Int} (h : (Lit.int k n).wf = true) : inI k n := by simpa [Lit.wf, inI] using h
theorem shape_i {n : Nat} {t : TypeId} {k : IntKind} {cs : List PV} (h : Shape P n t cs) (ht : P.underlying t = some (.int k)) : ∃ z, cs = [.int k z] ∧ inI k z := by
 obtain ⟨z, h1, h2⟩ := shape_int h ht
 exact ⟨z, h1, wf_int h2⟩
theorem shape_b {n : Nat} {t : TypeId} {cs : List PV} (h : Shape P n t cs) (ht : P.underlying t = some .bool) : ∃ b, cs = [.bool b] ∧ True := by
 obtain ⟨z, h1⟩ := shape_bool h ht
 exact ⟨z, h1, trivial⟩
theorem shape_struct {n : Nat} {t : TypeId} {cs : List PV} {fs : Array Field} (h : Shape P n t cs) (ht : P.underlying t = some (.struct fs)) :
  cs.length = P.cellsOf t ∧ ∃ m, ∀ (i : Nat) (f : Field), fs.toList[i]? = some f → Shape P m f.type ((cs.drop f.offset).take (P.cellsOf f.type)) := by
 cases n with
 | zero => exact h.elim
 | succ n =>
  simp only [Shape, ht] at h
  exact ⟨h.1, n, fun i f hf => h.2 f (List.mem_of_getElem? hf)⟩
def tileEq (cs : List PV) : Nat → List (Nat × List PV) → Prop
 | _, [] => True
 | off, (k, ps) :: r => (cs.drop off).take k = ps ∧ tileEq cs (off + k) r
def tileSum : List (Nat × List PV) → Nat
 | [] => 0
 | (k, _) :: r => k + tileSum r
def tileCat : List (Nat × List PV) → List PV
 | [] => []
 | (_, ps) :: r => ps ++ tileCat r
theorem tile_eq {cs : List PV} : ∀ {l : List (Nat × List PV)} {off : Nat}, tileEq cs off l → cs.length = off + tileSum l → cs.drop off = tileCat l
 | [], off, _, hl => by simp only [tileSum, Nat.add_zero] at hl; simp [tileCat, ← hl]
 | (k, ps) :: r, off, ⟨h1, h2⟩, hl => by
  have := tile_eq h2 (by simp only [tileSum] at hl; omega)
  rw [tileCat, ← this, ← h1, ← List.drop_drop, List.take_append_drop]
theorem tile_all {cs : List PV} {l : List (Nat × List PV)} {n : Nat} (h : tileEq cs 0 l) (hn : cs.length = n) (hl : Nat.beq n (tileSum l) = true) : cs = tileCat l := by
 have := tile_eq h (by rw [hn, Nat.zero_add]; exact Nat.eq_of_beq_eq_true hl)
 simpa using this
end Go.Proofs.Ytmompdklolomfaa.Ab
namespace Go.Proofs.Ytmompdklolomfaa.Ab
open Go Go.RowKit
set_option linter.unusedVariables false
set_option linter.unusedSimpArgs false
variable {P : Program} {N : Nat} {ops : Array Oper} {dst : Option Tmp} {type : TypeId} {pos : String} {after : Array Edge} {guard : Option (Nat × Bool)} {s : St}
theorem cellsAt_box {d n off : Nat} {cs : List PV} (h : s.heap d n = some (.box cs)) : s.cellsAt (.ptr d n off) = some (cs.drop off, [(d, n)]) := by simp [St.cellsAt, h]
theorem run_eql_slice_nil (w : World) (t e : TypeId) (a : Option Addr) (l c : Nat) (h : P.underlying t = some (.slice e)) : (binOp .eql t (.slice a l c) (.slice none 0 0)).run P w = .ok (.bool a.isNone) w := by
 simp only [binOp]
 simp [run_equal_slice_nil w t e a l c h]
theorem run_eqGuard_slice (op : BinOp) (t : TypeId) (x y : Operand) (a b : Option Addr) (l c l' c' : Nat) (w : World) : (eqGuard op t x y (.slice a l c) (.slice b l' c')).run P w = .ok () w := by
 cases op <;> simp [eqGuard, Sem.run_pure]
theorem aw_region_nil {id : Nat} {l1 : List Oper} {s1 : St} {xs : List Fx} {Q : Exit → St → Prop} {d : Nat} {t ty e : TypeId} {x : Operand} {ys : List PV} {sz : Nat} {L : List (Nat × Nat)} {p : PV}
  (h : Lex P N (l1 ++ [({ dst := some d, op := .binOp .eql t x (.const (.slice none 0 0)) ty, type := type, pos := pos, after := after, guard := none } : Oper)]).toArray l1 s xs s1) (ht : P.underlying t = some (.slice e)) (hx : s1.ev x = p) (hs : s1.src p = some (ys, sz, L)) (hlt : ∀ t, x = .tmp t → t < N)
  (hg : P.eqGuardType P.depth t = false)
  (k : ∀ b : Bool, (b = true → ys = []) → Q .normal (s1.put (some d) (.bool b))) : AW P N (.region id (l1 ++ [({ dst := some d, op := .binOp .eql t x (.const (.slice none 0 0)) ty, type := type, pos := pos, after := after, guard := none } : Oper)]).toArray false) s Q := by
 intro w0 Mv J a w hsim
 refine wp_region_lit ?_
 have key : ∀ {l : List Oper} {s s1 : St} {xs : List Fx} {ops : Array Oper} (hl : Lex P N ops l s xs s1) {J : Site} {a : Act} {w : World}, Sim w0 Mv N J s a w → ∀ {r : List Oper} {Q' : Exit → Act → World → Prop},
   (∀ J' a' w', Sim w0 Mv N J' s1 a' w' → wpList P ops Q' r a' w') → wpList P ops Q' (l ++ r) a w := by
  intro l s s1 xs ops hl
  induction hl with
  | nil s => intro J a w hs r Q' hr; exact hr _ _ _ hs
  | cons h hN hr ih =>
   intro J a w hs r Q' hr
   rw [List.cons_append]
   unfold wpList
   exact h.op (Agree.refl _ _ _ _) hN hs (fun J' a' w' h' => ih h' hr)
 refine key h hsim fun J' a' w' hs' => ?_
 have hctx := h.ctx
 have hrx := rep_ev hs' (x := x) hlt
 rw [hx] at hrx
 obtain ⟨A, c, hv, hsrc⟩ := src_rep hs' hs hrx
 have hfin : ∀ b : Bool, (b = true → ys = []) → wpList P (l1 ++ [({ dst := some d, op := .binOp .eql t x (.const (.slice none 0 0)) ty, type := type, pos := pos, after := after, guard := none } : Oper)]).toArray (fun e a w => ∃ s' J', Sim w0 Mv N J' s' a w ∧ s'.X = s.X ∧ Q e s') [] (a'.put (some d) (.bool b)) w' := fun b hb => by
  refine wpList_nil ⟨_, J', hs'.put (some d) (.bool _ b), ?_, k b hb⟩
  rw [St.put_X]; exact hctx
 unfold wpList
 rw [Region.wanted, if_pos rfl]
 refine .inl ?_
 have hrun : (execOp a'.eval ({ dst := some d, op := .binOp .eql t x (.const (.slice none 0 0)) ty, type := type, pos := pos, after := after, guard := none } : Oper)).run P w' = .ok (.value (.bool A.isNone)) w' := by
  have hc : a'.eval (.const (.slice none 0 0)) = .slice none 0 0 := rfl
  simp only [execOp, hv, hc, Sem.run_bind, run_eqGuard_slice, Result.andThen_ok, run_eql_slice_nil w' t e A ys.length c ht]
  rfl
 unfold Oper.wp
 rw [hrun, Oper.upon_value]
 refine hfin _ fun hb => ?_
 rcases hsrc with ⟨_, h⟩ | ⟨ad, us, rfl, _⟩
 ·exact h
 ·cases hb
theorem nilF {α β : Type} {l : List α} {A B : Option β} {r : β} [DecidableEq (Option β)] (h : (if l.isEmpty = true then gd (A = B) A else B) = some r) : B = some r := by
 by_cases hl : l.isEmpty = true
 ·rw [if_pos hl] at h
  obtain ⟨h1, h2⟩ := gd_some h
  exact h1 ▸ h2
 ·rwa [if_neg hl] at h
theorem nilT {α β : Type} {f : α → PV} {l : List α} {A B : Option β} {r : β} [DecidableEq (Option β)] (e : true = true → List.map f l = []) (h : (if l.isEmpty = true then gd (A = B) A else B) = some r) : A = some r := by
 have hl : l = [] := by simpa using e rfl
 subst hl
 rw [if_pos (by rfl)] at h
 exact (gd_some h).2
theorem do_build_arr {t e : TypeId} {ps : Array (Nat × Operand)} {n sz by_ : Nat} {z cs : List PV} {ei : TyI} (ht : tyOf P t = some ⟨.arr n e, sz, by_, z⟩) (hz : z.isEmpty = false) (he : tyOf P e = some ei)
  (ho : (evParts s ps.toList).all (fun p => p.2.cells.all PV.one) = true) (hf : fillPV (fun i => some (i * ei.size, ei.size)) z (evParts s ps.toList) = some cs) :
  Does P N ops ⟨dst, .build t ps, type, pos, after, guard⟩ s (pureFx (.agg cs)) :=
 does_pure _ fun w M J ρ hr => by
  have ho' : ∀ p ∈ evParts s ps.toList, ∀ c ∈ p.2.cells, c.one = true := fun p hp => by rw [List.all_eq_true] at ho; exact all_one (ho p hp)
  obtain ⟨i, d, h1, h2, h3, _, _, h4⟩ := tyOf_spec ht
  have hd : d = .array n e := td_arr h3
  subst hd
  cases hzv : i.zero with
  | none => rw [hzv] at h4; dsimp only at h4; rw [h4] at hz; cases hz
  | some zv =>
   rw [hzv] at h4
   dsimp only at h4
   obtain ⟨hl, hpq⟩ := parts_rep (M := M) (J := J) (w := w) (ρ := ρ) (by simpa [Op.operands] using hr) ho'
   obtain ⟨us', h5, h6, h7⟩ := fill_rep (us := zv.cells) hf hl hpq (by rw [h4]; simp) (fun k c u hc hu => by
    rw [h4, List.getElem?_map, Option.map_eq_some_iff] at hc
    obtain ⟨y, hy, rfl⟩ := hc
    rw [Array.getElem?_toList, hu] at hy
    injection hy with hy
    subst hy
    exact rep_ofVal1 _)
   refine ⟨.agg us', ?_, .agg _ _ _ h6.symm h7⟩
   have h5' := h5
   simp only [Array.toList_map] at h5'
   simp [execOp, Instr.build, zeroValue, typeInfo, h1, hzv, run_underlying h2, run_size he]
   rw [h5']
   rfl
end Go.Proofs.Ytmompdklolomfaa.Ab
namespace Go.Proofs.Ytmompdklolomfaa.Ab
open Go Go.RowKit
set_option linter.unusedVariables false
set_option linter.unusedSimpArgs false
variable {P : Program} {N : Nat} {ops : Array Oper} {dst : Option Tmp} {type : TypeId} {pos : String} {after : Array Edge} {guard : Option (Nat × Bool)} {s : St}
def St.nilOwnC (s : St) (d n k D e sz : Nat) (cs : List PV) : St :=
 { env := s.env, heap := fun a m => if a = D ∧ m = s.next D then some (.arr e sz false []) else if a = d ∧ m = n then some (.box (cs.set k (.own D (s.next D)))) else s.heap a m, next := fun a => if a = D then s.next D + 1 else s.next a, X := s.X }
end Go.Proofs.Ytmompdklolomfaa.Ab
namespace Go.Proofs.Ytmompdklolomfaa.Ab
open Go Go.RowKit
set_option linter.unusedVariables false
set_option linter.unusedSimpArgs false
variable {P : Program} {N : Nat} {ops : Array Oper} {dst : Option Tmp} {type : TypeId} {pos : String} {after : Array Edge} {guard : Option (Nat × Bool)} {s : St}
end Go.Proofs.Ytmompdklolomfaa.Ab
namespace Go.Proofs.Ytmompdklolomfaa.Ab
open Go Go.RowKit
set_option linter.unusedVariables false
set_option linter.unusedSimpArgs false
variable {P : Program} {N : Nat} {ops : Array Oper} {dst : Option Tmp} {type : TypeId} {pos : String} {after : Array Edge} {guard : Option (Nat × Bool)} {s : St}
def zle : PV → PV → Bool
 | .nil, .sl _ [] => true
 | .nil, .nil => true
 | .bool a, .bool b => a == b
 | .int k a, .int l b => decide (k = l) && decide (a = b)
 | .str a, .str b => decide (a = b)
 | _, _ => false
def zlesB : List PV → List PV → Bool
 | [], [] => true
 | a :: r, b :: q => zle a b && zlesB r q
 | _, _ => false
theorem zle_rep {a b : PV} (h : zle a b = true) {w : World} {M : Nat → Prop} {J : Site} {v : Value} (hr : Rep w M J a v) : Rep w M J b v ∧ b.one = true := by
 unfold zle at h
 split at h
 ·cases hr; exact ⟨.sl0 _ _ _, rfl⟩
 ·cases hr; exact ⟨.nil _, rfl⟩
 ·have := eq_of_beq h; subst this; exact ⟨hr, rfl⟩
 ·simp only [Bool.and_eq_true, decide_eq_true_eq] at h
  obtain ⟨rfl, rfl⟩ := h
  exact ⟨hr, rfl⟩
 ·simp only [decide_eq_true_eq] at h
  subst h
  exact ⟨hr, rfl⟩
 ·cases h
theorem zles_len : ∀ {a b : List PV}, zlesB a b = true → b.length = a.length
 | [], [], _ => rfl
 | a :: r, b :: q, h => by
  simp only [zlesB, Bool.and_eq_true] at h
  simp [zles_len h.2]
 | [], b :: q, h => by cases h
 | a :: r, [], h => by cases h
theorem zles_get : ∀ {a b : List PV}, zlesB a b = true → ∀ {k : Nat} {c : PV}, b[k]? = some c → ∃ d, a[k]? = some d ∧ zle d c = true
 | [], [], _, k, c, hc => by simp at hc
 | a :: r, b :: q, h, 0, c, hc => by
  simp only [zlesB, Bool.and_eq_true] at h
  simp at hc; subst hc
  exact ⟨a, rfl, h.1⟩
 | a :: r, b :: q, h, k + 1, c, hc => by
  simp only [zlesB, Bool.and_eq_true] at h
  obtain ⟨d, h1, h2⟩ := zles_get h.2 (k := k) (c := c) (by simpa using hc)
  exact ⟨d, by simpa using h1, h2⟩
 | [], b :: q, h, _, _, _ => by cases h
 | a :: r, [], h, _, _, _ => by cases h
theorem flat_rep_get {x : PV} {m : Nat} : ∀ {n k : Nat} {c : PV}, x.cells.length = m → 0 < m → (flat (List.replicate n x))[k]? = some c → k < n * m ∧ x.cells[k % m]? = some c
 | 0, k, c, _, _, h => by simp [flat] at h
 | n + 1, k, c, hm, hp, h => by
  rw [List.replicate_succ, flat, List.flatMap_cons] at h
  by_cases hk : k < m
  ·rw [List.getElem?_append_left (by omega)] at h
   refine ⟨by rw [Nat.succ_mul]; omega, ?_⟩
   rw [Nat.mod_eq_of_lt hk]; exact h
  ·rw [List.getElem?_append_right (by omega), hm] at h
   obtain ⟨h1, h2⟩ := flat_rep_get (n := n) (k := k - m) hm hp h
   refine ⟨by rw [Nat.succ_mul]; omega, ?_⟩
   rw [← h2]; congr 1
   rw [Nat.mod_eq_sub_mod (by omega)]
theorem does_makeSlice {d : Nat} {t e : TypeId} {x y : Operand} {sz by_ : Nat} {z : List PV} {ei : TyI} {zx : PV} {kx ky : IntKind} {n : Nat} (ht : tyOf P t = some ⟨.slice e, sz, by_, z⟩) (he : tyOf P e = some ei)
  (hx : s.ev x = .int kx (n : Int)) (hy : s.ev y = .int ky (n : Int)) (hz : ei.zero.isEmpty = false) (hzl : Nat.beq ei.zero.length ei.size = true) (hzx : zlesB ei.zero zx.cells = true) (hn : n ≤ 1000000) (hb : Nat.ble (ei.bytes * 1000000) 281474976710656 = true) :
  Does P N ops ⟨some d, .makeSlice t x y, type, pos, after, guard⟩ s ⟨[], .own d (s.next d), [((d, s.next d), some (.arr e ei.size false (List.replicate n zx)))], [d]⟩ :=
 does_alloc d fun w0 Mv J s' a w hs hL hnx hr => by
  obtain ⟨i, dd, h1, h2, h3, h4, h4b, h5⟩ := tyOf_spec he
  have hzl' := Nat.eq_of_beq_eq_true hzl
  have hz' : ei.zero ≠ [] := by intro h; rw [h] at hz; cases hz
  have hp : 0 < ei.size := by rw [← hzl']; exact List.length_pos_iff.2 hz'
  have hzlen : zx.cells.length = ei.size := by rw [zles_len hzx, hzl']
  cases hzv : i.zero with
  | none => rw [hzv] at h5; exact absurd h5 hz'
  | some zv =>
   rw [hzv] at h5
   dsimp only at h5
   have hzs : zv.cells.size = ei.size := by rw [← hzl', h5]; simp
   have hex : a.eval x = .int kx (n : Int) := by
    have := hr x (by simp [Op.operands]); rw [hx] at this
    generalize a.eval x = v at this ⊢; cases this; rfl
   have hey : a.eval y = .int ky (n : Int) := by
    have := hr y (by simp [Op.operands]); rw [hy] at this
    generalize a.eval y = v at this ⊢; cases this; rfl
   have hbn : i.bytes * n ≤ 281474976710656 := by
    have h6 := Nat.le_of_ble_eq_true hb
    rw [← h4b] at h6
    exact Nat.le_trans (Nat.mul_le_mul_left _ hn) h6
   have hbi : (i.bytes : Int) * (n : Int) ≤ 281474976710656 := by rw [← Int.natCast_mul]; omega
   have hwr : IntKind.i64.wrap (n : Int) = (n : Int) := wrap_i64 _ (by omega) (by omega)
   have hcell : ∀ (k : Nat) (c : PV), (flat (List.replicate n zx))[k]? = some c → ∃ u, ((Array.range (n * ei.size)).map (zv.cells[· % zv.cells.size]!))[k]? = some u ∧ Rep w (Mut s' J) noSite c u ∧ c.one = true := by
    intro k c hc
    obtain ⟨g1, g2⟩ := flat_rep_get hzlen hp hc
    obtain ⟨dcell, g3, g4⟩ := zles_get hzx g2
    have hlt : k % ei.size < zv.cells.size := by rw [hzs]; exact Nat.mod_lt _ hp
    rw [h5, List.getElem?_map, Array.getElem?_toList, Array.getElem?_eq_getElem hlt] at g3
    simp only [Option.map_some, Option.some.injEq] at g3
    refine ⟨zv.cells[k % ei.size], ?_, zle_rep g4 (g3 ▸ rep_ofVal1 _)⟩
    rw [Array.getElem?_map, Array.getElem?_range]
    simp only [g1, if_true, Option.map_some, hzs]
    rw [getElem!_pos zv.cells (k % ei.size) hlt]
   have hfl : (flat (List.replicate n zx)).length = n * ei.size := by
    rw [flat_length (sz := ei.size) (fun q hq => by rw [(List.mem_replicate.1 hq).2]; exact hzlen), List.length_replicate]
   refine ⟨.slice (some ⟨w.heap.size, 0, none⟩) n n, .cells ((Array.range (n * ei.size)).map (zv.cells[· % zv.cells.size]!)) e, ?_, rfl, fun M J' hJ' => .own _ _ _ _ _ _ hJ', fun M J' hJ' hmono hsub => ⟨_, ((Array.range (n * ei.size)).map (zv.cells[· % zv.cells.size]!)).toList, hJ', by rw [List.length_replicate]; exact owns_new (by rw [Array.size_map, Array.size_range]) (Nat.le_trans hn (by decide)), hp, fun q hq => by rw [(List.mem_replicate.1 hq).2]; exact hzlen, fun c hc => ?_, fun k c yv hc hyv => ?_⟩⟩
   ·have hrun := run_make (P := P) w t e i zv (ty_slice ht) h1 hzv kx ky n n (by omega) (Int.le_refl _) hbi (by omega)
    simp only [Int.toNat_natCast, h4] at hrun
    simp only [execOp, hex, hey, Sem.run_bind, hrun, Result.andThen_ok]
    rfl
   ·obtain ⟨k, hk⟩ := List.getElem?_of_mem hc
    obtain ⟨u, _, _, h⟩ := hcell k c hk
    exact h
   ·obtain ⟨u, hu, hrp, _⟩ := hcell k c hc
    rw [← Array.getElem?_toList] at hu
    rw [hu] at hyv
    injection hyv with hyv
    subst hyv
    exact hmono noSite noSite c u (fun _ _ _ h => h) hrp
theorem ev_nat {x : Operand} {k : IntKind} {n : Int} (h : s.ev x = .int k n) (h0 : 0 ≤ n) : s.ev x = .int k ((n.toNat : Nat) : Int) := by rw [h, Int.toNat_of_nonneg h0]
theorem do_makeSlice {α : Type} {f : α → PV} {z0 : α} {d : Nat} {t e : TypeId} {x y : Operand} {sz by_ : Nat} {z : List PV} {ei : TyI} {zx : PV} {kx ky : IntKind} {n : Nat} (hf : f z0 = zx) (ht : tyOf P t = some ⟨.slice e, sz, by_, z⟩) (he : tyOf P e = some ei)
  (hx : s.ev x = .int kx (n : Int)) (hy : s.ev y = .int ky (n : Int)) (hz : ei.zero.isEmpty = false) (hzl : Nat.beq ei.zero.length ei.size = true) (hzx : zlesB ei.zero zx.cells = true) (hn : n ≤ 1000000) (hb : Nat.ble (ei.bytes * 1000000) 281474976710656 = true) :
  Does P N ops ⟨some d, .makeSlice t x y, type, pos, after, guard⟩ s ⟨[], .own d (s.next d), [((d, s.next d), some (.arr e ei.size false (List.map f (List.replicate n z0))))], [d]⟩ := by
 rw [List.map_replicate, hf]
 exact does_makeSlice ht he hx hy hz hzl hzx hn hb
end Go.Proofs.Ytmompdklolomfaa.Ab
namespace Go.Proofs.Ytmompdklolomfaa.Ab
open Go Go.RowKit
set_option linter.unusedVariables false
set_option linter.unusedSimpArgs false
variable {P : Program} {N : Nat} {ops : Array Oper} {s : St} {Q : Exit → St → Prop}
def AL (P : Program) (N : Nat) (ops : Array Oper) (l : List Oper) (s : St) (Q : Exit → St → Prop) : Prop :=
 ∀ w0 Mv J a w, Sim w0 Mv N J s a w → wpList P ops (fun e a' w' => ∃ s' J', Sim w0 Mv N J' s' a' w' ∧ s'.X = s.X ∧ Q e s') l a w
theorem al_nil (h : Q .normal s) : AL P N ops [] s Q := fun w0 Mv J a w hs => wpList_nil ⟨s, J, hs, rfl, h⟩
theorem al_cons {o : Oper} {l : List Oper} {x : Fx} (ha : Acts P N ops o s x) (hN : ∀ t ∈ o.looksAt ops, t < N) (h : AL P N ops l (s.app o.dst x) Q) : AL P N ops (o :: l) s Q := by
 intro w0 Mv J a w hs
 unfold wpList
 exact ha.op (Agree.refl _ _ _ _) hN hs fun J' a' w' h' => h w0 Mv J' a' w' h'
theorem al_bool {l : List Oper} (t : Nat) {c : Bool} (hb : s.env t = .bool c) (h1 : c = true → AL P N ops l (s.put (some t) (.bool true)) Q) (h2 : c = false → AL P N ops l (s.put (some t) (.bool false)) Q) : AL P N ops l s Q := by
 cases c with
 | true => have := h1 rfl; rwa [s.put_self hb] at this
 | false => have := h2 rfl; rwa [s.put_self hb] at this
theorem aw_regL {id : Nat} {l : List Oper} (h : AL P N l.toArray l s Q) : AW P N (.region id l.toArray false) s Q :=
 fun w0 Mv J a w hs => wp_region_lit (h w0 Mv J a w hs)
theorem al_consD {o : Oper} {l : List Oper} {x : Fx} {d : Option Tmp} (hd : o.dst = d) (ha : Acts P N ops o s x) (hN : ∀ t ∈ o.looksAt ops, t < N) (h : AL P N ops l (s.app d x) Q) : AL P N ops (o :: l) s Q := al_cons ha hN (hd ▸ h)
theorem al_consP {o : Oper} {l : List Oper} {v : PV} {d : Option Tmp} (hd : o.dst = d) (ha : Acts P N ops o s (pureFx v)) (hN : ∀ t ∈ o.looksAt ops, t < N) (h : AL P N ops l (s.put d v) Q) : AL P N ops (o :: l) s Q :=
 al_consD hd ha hN (by rw [app_pure]; exact h)
theorem pairs_insert {b : Nat → Nat → Bool} {i : Nat} {y : Fx} (hy : y.quiet) : ∀ {A B : List (Nat × Fx)}, pairsFx b (A ++ B) → pairsFx b (A ++ (i, y) :: B)
 | [], B, h => ⟨fun q _ => .inr (fxApart_quiet (.inl hy)), h⟩
 | (j, x) :: A, B, h => ⟨fun q hq => by
   rcases List.mem_append.1 hq with hq | hq
   ·exact h.1 q (List.mem_append_left _ hq)
   ·rcases List.mem_cons.1 hq with rfl | hq
    ·exact .inr (fxApart_quiet (.inr hy))
    ·exact h.1 q (List.mem_append_right _ hq), pairs_insert hy h.2⟩
theorem ao_consD {b : Option (Nat → Nat → Bool)} {i : Nat} {fx : List (Nat × Fx)} {o : Oper} {l : List Oper} {x : Fx} {d : Option Tmp} (hd : o.dst = d) (ha : Acts P N ops o s x) (hN : ∀ t ∈ o.looksAt ops, t < N) (h : AO P N ops b (i + 1) (fx ++ [(i, x)]) l (s.app d x) Q) :
  AO P N ops b i fx (o :: l) s Q := ao_cons ha hN (hd ▸ h)
theorem ao_consP {b : Option (Nat → Nat → Bool)} {i : Nat} {fx : List (Nat × Fx)} {o : Oper} {l : List Oper} {v : PV} {d : Option Tmp} (hd : o.dst = d) (ha : Acts P N ops o s (pureFx v)) (hN : ∀ t ∈ o.looksAt ops, t < N) (h : AO P N ops b (i + 1) fx l (s.put d v) Q) :
  AO P N ops b i fx (o :: l) s Q := by
 subst hd
 rw [← app_pure] at h
 obtain ⟨xs, s', h1, h2, h3⟩ := h
 exact ⟨pureFx v :: xs, s', .cons ha hN h1, fun w hw => pairs_insert ⟨rfl, rfl, rfl⟩ (h2 w hw), h3⟩
theorem alP (d : Option Tmp) {o : Oper} {l : List Oper} {v : PV} (hd : o.dst = d) (hg : guardOk ops o s = some true) (h : Does P N ops o s (pureFx v)) (hN : ∀ t ∈ o.looksAt ops, t < N) (k : AL P N ops l (s.put d v) Q) : AL P N ops (o :: l) s Q := al_consP hd (acts_of hg h) hN k
theorem alD (d : Option Tmp) {o : Oper} {l : List Oper} {x : Fx} (hd : o.dst = d) (hg : guardOk ops o s = some true) (h : Does P N ops o s x) (hN : ∀ t ∈ o.looksAt ops, t < N) (k : AL P N ops l (s.app d x) Q) : AL P N ops (o :: l) s Q := al_consD hd (acts_of hg h) hN k
theorem alS (d : Option Tmp) {o : Oper} {l : List Oper} (hd : o.dst = d) (hg : guardOk ops o s = some false) (hN : ∀ t ∈ o.looksAt ops, t < N) (k : AL P N ops l (s.put d .skip) Q) : AL P N ops (o :: l) s Q := al_consP hd (acts_skip hg) hN k
theorem alR (d : Option Tmp) {o : Oper} {l : List Oper} {L : List (Nat × Nat)} {v : PV} (hd : o.dst = d) (hg : guardOk ops o s = some true) (h : Does P N ops o s ⟨L, v, [], []⟩) (hN : ∀ t ∈ o.looksAt ops, t < N) (k : AL P N ops l (s.put d v) Q) : AL P N ops (o :: l) s Q :=
 al_consD hd (acts_of hg h) hN (by rw [app_read]; exact k)
theorem Does.fx {o : Oper} {x y : Fx} (h : Does P N ops o s x) (e : x = y) : Does P N ops o s y := e ▸ h
section
variable {b : Option (Nat → Nat → Bool)} {i : Nat} {fx : List (Nat × Fx)} {o : Oper} {l : List Oper}
theorem aoP (d : Option Tmp) {v : PV} (hd : o.dst = d) (hg : guardOk ops o s = some true) (h : Does P N ops o s (pureFx v)) (hN : ∀ t ∈ o.looksAt ops, t < N) (k : AO P N ops b (i + 1) fx l (s.put d v) Q) : AO P N ops b i fx (o :: l) s Q := ao_consP hd (acts_of hg h) hN k
theorem aoD (d : Option Tmp) {x : Fx} (hd : o.dst = d) (hg : guardOk ops o s = some true) (h : Does P N ops o s x) (hN : ∀ t ∈ o.looksAt ops, t < N) (k : AO P N ops b (i + 1) (fx ++ [(i, x)]) l (s.app d x) Q) : AO P N ops b i fx (o :: l) s Q := ao_consD hd (acts_of hg h) hN k
theorem aoR (d : Option Tmp) {L : List (Nat × Nat)} {v : PV} (hd : o.dst = d) (hg : guardOk ops o s = some true) (h : Does P N ops o s ⟨L, v, [], []⟩) (hN : ∀ t ∈ o.looksAt ops, t < N) (k : AO P N ops b (i + 1) (fx ++ [(i, ⟨L, v, [], []⟩)]) l (s.put d v) Q) : AO P N ops b i fx (o :: l) s Q :=
 ao_consD hd (acts_of hg h) hN (by rw [app_read]; exact k)
theorem aoS (d : Option Tmp) (hd : o.dst = d) (hg : guardOk ops o s = some false) (hN : ∀ t ∈ o.looksAt ops, t < N) (k : AO P N ops b (i + 1) fx l (s.put d .skip) Q) : AO P N ops b i fx (o :: l) s Q := ao_consP hd (acts_skip hg) hN k
end
end Go.Proofs.Ytmompdklolomfaa.Ab
