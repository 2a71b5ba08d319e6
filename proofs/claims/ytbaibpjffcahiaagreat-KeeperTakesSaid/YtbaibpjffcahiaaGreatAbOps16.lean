import Derived.Test.YtbaibpjffcahiaaGreatAbAuto
import Derived.Lib.AppendStr
import Derived.Laws.BytesString
import Derived.Laws.Cover3
namespace Go.Proofs.YtbaibpjffcahiaaGreat.Ab
open Go Go.RowKit
set_option linter.unusedVariables false
set_option linter.unusedSimpArgs false
variable {P : Program} {N : Nat} {ops : Array Oper} {dst : Option Tmp} {type : TypeId} {pos : String} {after : Array Edge} {guard : Option (Nat × Bool)} {s : St}
theorem own_lt {α : Type} {f : α → PV} {l : List α} {i : Int} {x : α} (h : l[i.toNat]? = some x) : i < ((List.map f l).length : Int) := by
 have := (List.getElem?_eq_some_iff.1 h).1
 rw [List.length_map]; omega
theorem part_l {α : Type} {f : α → PV} (l : List α) (i : Nat) : ((List.map f l).take (List.map f l).length).drop i = List.map f (List.drop i l) := by rw [List.take_length, List.map_drop]
theorem part_h {α : Type} {f : α → PV} (l : List α) (k : Nat) : ((List.map f l).take k).drop 0 = List.map f (List.take k l) := by rw [List.drop_zero, List.map_take]
theorem u8_wrap (x : Int) : 0 ≤ IntKind.u8.wrap x ∧ IntKind.u8.wrap x < 256 := by
 simp only [IntKind.wrap, IntKind.bits, IntKind.signed]
 simp; omega
theorem u8_bits (op : BinOp) (x y : Int) : 0 ≤ bits op .u8 x y ∧ bits op .u8 x y < 256 := by
 unfold bits
 split <;> exact u8_wrap _
theorem does_frz {o : Oper} {d n e sz : Nat} {fz : Bool} {xs : List PV} {L : List (Nat × Nat)} {v : PV} {U : List ((Nat × Nat) × Option AObj)} {M : List Nat} (hb : s.heap d n = some (.arr e sz fz xs))
  (h : Does P N ops o (s.setH d n (some (.arr e sz true xs))) ⟨L, v, U, M⟩) : Does P N ops o s ⟨L, v, U ++ [((d, n), some (.arr e sz true xs))], M⟩ := by
 intro s' ha hlt w0 Mv J a w hs Q
 have hb' : s'.heap d n = some (.arr e sz fz xs) := (ha.up ((d, n), some (.arr e sz true xs)) (by simp)).trans hb
 have hag : Agree ops o ⟨L, v, U, M⟩ (s.setH d n (some (.arr e sz true xs))) (s'.setH d n (some (.arr e sz true xs))) := by
  refine ⟨ha.env, fun p hp => ?_, fun p hp => ?_, ha.nx⟩
  ·simp only [St.setH]; split
   ·rfl
   ·exact ha.rd p hp
  ·simp only [St.setH]; split
   ·rfl
   ·exact ha.up p (List.mem_append_left _ hp)
 have := h _ hag hlt w0 Mv J a w (hs.freeze hb') Q
 have he : (s'.setH d n (some (.arr e sz true xs))).app o.dst ⟨L, v, U, M⟩ = s'.app o.dst ⟨L, v, U ++ [((d, n), some (.arr e sz true xs))], M⟩ := by
  have h1 : ∀ a m, look U a m ((s'.setH d n (some (.arr e sz true xs))).heap a m) = look (U ++ [((d, n), some (.arr e sz true xs))]) a m (s'.heap a m) := by
   intro a m
   rw [look_append]
   congr 1
  cases o.dst <;> simp only [St.app, h1] <;> rfl
 rw [he] at this
 exact this
def strOf (l : List UInt8) : ByteArray := ⟨l.toArray⟩
def bytesOf (s : ByteArray) : List UInt8 := s.data.toList
theorem bytesOf_strOf (l : List UInt8) : bytesOf (strOf l) = l := by simp [strOf, bytesOf]
theorem bytesOf_length (s : ByteArray) : (bytesOf s).length = s.size := by simp [bytesOf]
theorem run_append_str {w : World} {t u ty e : TypeId} {i : TypeInfo} (ht : P.underlying t = some (.slice e)) (hu : P.underlying u = some .string) (hi : P.info? e = some i) (hz : i.zero = some (.int .u8 0)) (hsize : i.size = 1) (hby : i.bytes = 1)
  (v : Value) (n : Nat) (xs : List Value) (hown : w.ownsRow 0 e 1 v n xs) (b : ByteArray) (hb : n + b.size ≤ 140737488355328) :
  ∃ v' w', (Builtin.append_ #[t, u] ty #[v, .string b]).run P w = .ok v' w' ∧ w'.ownsRow 0 e 1 v' (n + b.size) (xs ++ Go.Lib.strCells b) ∧ w.grownBy w' v.ownBlock ∧ (v'.ownBlock = v.ownBlock ∨ v'.ownBlock = some w.heap.size) := by
 obtain ⟨v', w', h1, h2, h3, h4⟩ := Go.Lib.run_append_own_string (P := P) w 0 t u ty e i ht hu hi hz hsize hby v n xs hown b (by simp only [maxLen]; omega) hb (Nat.zero_le _)
 refine ⟨v', w', h1, h2, h3, ?_⟩
 rcases hown.2 with ⟨rfl, rfl⟩ | ⟨g, cap, cur, rfl, hbg, hg, hnc, hcm, hcs, htake⟩
 ·by_cases hm : b.size = 0
  ·have := h4.2 ⟨rfl, hm⟩; subst this; exact .inl rfl
  ·have hr := run_append_nil_string (P := P) w t u ty e i (.int .u8 0) ht hu hi hz b (by omega) (by omega) (by rw [hby]; omega)
   rw [h1] at hr
   injection hr with e1 e2
   subst e1
   exact .inr rfl
 ·by_cases hroom : n + b.size ≤ cap
  ·have hcs' : cur.size = cap := by simpa using hcs
   have hr := Go.Lib.run_append_room_string (P := P) w t u ty e i ht hu hi hsize g n cap cur hg b hroom (by omega)
   rw [h1] at hr
   injection hr with e1 e2
   subst e1
   exact .inl rfl
  ·have hxl : xs.length = n := by simpa using hown.1
   have holds : ∀ j u, xs[j]? = some u → w.cell? ((⟨g, 0, none⟩ : Addr).add j) = some u := hown.cells (g := g) rfl
   have hr := Go.Lib.run_append_grow_string (P := P) w t u ty e i (.int .u8 0) ht hu hi hz ⟨g, 0, none⟩ n cap xs (by rw [hsize]; simpa using hxl) holds b (by omega) (by omega) (by rw [hby]; exact growslice_fits (by omega) (by omega))
   rw [h1] at hr
   injection hr with e1 e2
   subst e1
   exact .inr rfl
theorem run_append_str0 {w : World} {t u ty e : TypeId} {i : TypeInfo} (ht : P.underlying t = some (.slice e)) (hu : P.underlying u = some .string) (hi : P.info? e = some i) (hz : i.zero = some (.int .u8 0)) (hsize : i.size = 1) (hby : i.bytes = 1)
  (ab : Addr) (b : ByteArray) (hb : b.size ≤ 140737488355328) :
  ∃ rv v' w', (Builtin.append_ #[t, u] ty #[.slice (some ab) 0 0, .string b]).run P w = .ok rv w' ∧ (rv = v' ∨ ∃ ab, rv = .slice (some ab) 0 0 ∧ v' = .slice none 0 0) ∧ w'.ownsRow 0 e 1 v' b.size (Go.Lib.strCells b) ∧ w.grownBy w' none ∧ (v'.ownBlock = none ∨ v'.ownBlock = some w.heap.size) := by
 by_cases hm : b.size = 0
 ·have hn : Go.Lib.strCells b = [] := List.eq_nil_of_length_eq_zero (by rw [Go.Lib.strCells_length]; exact hm)
  refine ⟨_, .slice none 0 0, w, ?_, .inr ⟨ab, rfl, rfl⟩, by rw [hm, hn]; exact World.ownsRow_nil w 0 e 1, World.grownBy.refl w _, .inl rfl⟩
  have hf := Go.Lib.run_firstCells_string (P := P) w 1 b
  rw [hm] at hf
  simp [Builtin.append_, run_underlying ht, run_underlying hu, sizeOf, typeInfo, hi, hsize, Builtin.lenOf, hm, hf, hn, storeCells]
 ·obtain ⟨v', w', h1, h2, h3, h4⟩ := run_append_str (P := P) (ty := ty) ht hu hi hz hsize hby (.slice none 0 0) 0 [] (World.ownsRow_nil w 0 e 1) b (by omega)
  have hr := run_append_nil_string (P := P) w t u ty e i (.int .u8 0) ht hu hi hz b (by omega) (by omega) (by rw [hby]; omega)
  have hg := Go.Lib.run_append_grow_string (P := P) w t u ty e i (.int .u8 0) ht hu hi hz ab 0 0 [] (by simp) (by simp) b (by omega) (by omega) (by rw [hby]; exact growslice_fits (by omega) (by omega))
  have e1 : (b.data.map fun b => Value.int .u8 b.toNat) = (Go.Lib.strCells b).toArray := by
   apply Array.ext'
   simp [Go.Lib.strCells]
  simp only [Nat.zero_add, List.nil_append, Array.empty_append] at hg h2
  rw [e1, h1] at hr
  rw [← hr] at hg
  refine ⟨v', v', w', hg, .inl rfl, h2, h3, h4⟩
theorem does_append_str {d : Nat} {t u e : TypeId} {x y : Operand} {ty : TypeId} {sz by_ : Nat} {z : List PV} {b : ByteArray} {p : PV} {xs : List PV} {be bs : Nat} {U : List ((Nat × Nat) × Option AObj)} (hx : s.ev x = p) (hy : s.ev y = .str b)
  (ht : tyOf P t = some ⟨.slice e, sz, by_, z⟩) (he : tyOf P e = some ⟨.int .u8, 1, 1, [.int .u8 0]⟩) (hz : (P.info? e).bind (·.zero) = some (.int .u8 0)) (hu : P.underlying u = some .string) (hbs : s.base p = some (xs, be, bs, U)) (hbe : p = .nil ∨ (be = e ∧ bs = 1)) (hmax : xs.length + b.size ≤ 140737488355328) :
  Does P N ops ⟨some d, .call ⟨.builtin .append, #[x, y], #[t, u]⟩, ty, pos, after, guard⟩ s ⟨[], .own d (s.next d), ((d, s.next d), some (.arr e 1 false (xs ++ (bytesOf b).map fun c => .int .u8 (c.toNat : Int)))) :: U, [d]⟩ := by
 intro s' ha hlt w0 Mv J a w hs Q
 have hnx := ha.nx d List.mem_cons_self
 have hrx := rep_ev hs (x := x) fun t ht => hlt t (looks_op (by subst ht; simp [Op.operands, Call.operands]))
 have hry := rep_ev hs (x := y) fun t ht => hlt t (looks_op (by subst ht; simp [Op.operands, Call.operands]))
 rw [ev_agree ha (by simp [Op.operands, Call.operands]), hx] at hrx
 rw [ev_agree ha (by simp [Op.operands, Call.operands]), hy] at hry
 obtain ⟨i, dd, h1, h2, h3, h4, h5, h6⟩ := tyOf_spec he
 dsimp only at h3 h4 h5 h6
 have hzero : i.zero = some (.int .u8 0) := by rw [h1] at hz; exact hz
 generalize hcy : a.eval y = cy at hry
 cases hry
 have hbase : ∃ v old zs, (a.eval x = v ∨ ∃ ab, a.eval x = .slice (some ab) 0 0 ∧ v = .slice none 0 0) ∧ w.ownsRow 0 e 1 v xs.length zs ∧ (∀ x ∈ xs, x.cells.length = 1) ∧ (∀ c ∈ flat xs, c.one = true) ∧ (∀ (k : Nat) (c : PV) (y : Value), (flat xs)[k]? = some c → zs[k]? = some y → Rep w (Mut s' J) noSite c y) ∧
   (∀ d n, old = some (d, n) → ∃ o, s'.heap d n = some o ∧ o.mut = true ∧ J d n = some v) ∧ (old = none → blockOf v = none) ∧ (∀ a m o, look U a m o = if old = some (a, m) then none else o) := by
  unfold St.base at hbs
  split at hbs
  ·injection hbs with hbs; injection hbs with e1 e2; injection e2 with e2 e3; injection e3 with e3 e4; subst e1 e2 e3 e4
   generalize hcx : a.eval x = cx at hrx
   cases hrx
   refine ⟨_, none, [], .inl rfl, World.ownsRow_nil _ _ _ _, ?_, ?_, ?_, ?_, fun _ => rfl, ?_⟩ <;> simp [flat, look]
  ·rename_i dn nn
   split at hbs
   ·rename_i e' sz' xs' hb
    injection hbs with hbs; injection hbs with e1 e2; injection e2 with e2 e3; injection e3 with e3 e4; subst e1 e2 e3 e4
    rcases hbe with hbe | ⟨rfl, rfl⟩
    ·cases hbe
    have hb' : s'.heap dn nn = some (.arr e' 1 false xs') := (ha.up ((dn, nn), none) (by simp)).trans hb
    obtain ⟨u, zs, hJ, hown, hp0, hw, ho, hr⟩ := hs.obj dn nn _ hb'
    have hu : a.eval x = u ∨ ∃ ab, a.eval x = .slice (some ab) 0 0 ∧ u = .slice none 0 0 := own_val hrx hJ
    refine ⟨u, some (dn, nn), zs, hu, hown, hw, ho, hr, ?_, by simp, ?_⟩
    ·intro d' n' e
     injection e with e
     injection e with e1 e2
     subst e1 e2
     exact ⟨_, hb', rfl, hJ⟩
    ·intro a' m' o'
     simp only [look, Option.some.injEq, Prod.mk.injEq]
     by_cases hc : a' = dn ∧ m' = nn
     ·rw [if_pos hc, if_pos ⟨hc.1.symm, hc.2.symm⟩]
     ·rw [if_neg hc, if_neg (fun h => hc ⟨h.1.symm, h.2.symm⟩)]
   ·cases hbs
  ·cases hbs
 obtain ⟨v, old, zs, hvx, hown, hw, ho, hr, hold, hnone, hlook⟩ := hbase
 have hrun : ∃ rv v' w', (Builtin.append_ #[t, u] ty #[a.eval x, .string b]).run P w = .ok rv w' ∧ (rv = v' ∨ ∃ ab, rv = .slice (some ab) 0 0 ∧ v' = .slice none 0 0) ∧ w'.ownsRow 0 e 1 v' (xs.length + b.size) (zs ++ Go.Lib.strCells b) ∧ w.grownBy w' v.ownBlock ∧ (v'.ownBlock = v.ownBlock ∨ v'.ownBlock = some w.heap.size) := by
  rcases hvx with hvx | ⟨ab, hvx, rfl⟩
  ·obtain ⟨v', w', k1, k2, k3, k4⟩ := run_append_str (P := P) (ty := ty) (ty_slice ht) hu h1 hzero h4 h5 v xs.length zs hown b hmax
   exact ⟨v', v', w', by rw [hvx]; exact k1, .inl rfl, k2, k3, k4⟩
  ·have hz0 : xs.length = 0 := nil_own hown
   have hzl : zs = [] := List.eq_nil_of_length_eq_zero (by rw [hown.1, hz0, Nat.zero_mul])
   obtain ⟨rv, v', w', k1, k2, k3, k4, k5⟩ := run_append_str0 (P := P) (w := w) (ty := ty) (ty_slice ht) hu h1 hzero h4 h5 ab b (by omega)
   exact ⟨rv, v', w', by rw [hvx]; exact k1, k2, by rw [hz0, hzl, Nat.zero_add]; exact k3, k4, k5⟩
 obtain ⟨rv, v', w', hrun, hrv, hown', hgr, hbl⟩ := hrun
 obtain ⟨A1, c1, hvf⟩ := own_form hown
 obtain ⟨A2, c2, hvf'⟩ := own_form hown'
 have hzl : zs.length = (flat xs).length := by rw [hown.1, flat_length hw]
 have hb1 := blockOf_own hvf
 have hb2 := blockOf_own hvf'
 have hgr' : w.grownBy w' (blockOf v) := by rw [hb1]; exact hgr
 have hbl' : blockOf v' = blockOf v ∨ blockOf v' = some w.heap.size := by rw [hb1, hb2]; exact hbl
 let ys : List PV := (bytesOf b).map fun c => .int .u8 (c.toNat : Int)
 have hyl : ys.length = b.size := by simp [ys, bytesOf_length]
 have hfy : flat ys = ys := by
  show flat ((bytesOf b).map _) = (bytesOf b).map _
  generalize bytesOf b = l
  induction l with
  | nil => rfl
  | cons c l ih => simp only [List.map_cons, flat, List.flatMap_cons, PV.cells] at ih ⊢; rw [ih]; rfl
 have hstep := hs.regrow d (o' := .arr e 1 false (xs ++ ys)) (v := v) (v' := v') (w' := w') old hold hnone hgr' (run_drawn _ hrun) hbl'
  (s' := { s'.app (some d) ⟨[], .own d (s.next d), ((d, s.next d), some (.arr e 1 false (xs ++ ys))) :: U, [d]⟩ with env := s'.env }) rfl rfl
  (fun a m => by
   show look _ a m (s'.heap a m) = _
   simp only [look]
   rw [hnx, hlook])
  (fun a => by
   show s'.next a + cnt [d] a = _
   simp only [cnt, Nat.add_zero]
   split <;> simp_all)
  (fun M J' hJ' hmono => ⟨v', zs ++ Go.Lib.strCells b, hJ', by rw [List.length_append, hyl]; exact hown', by decide, fun x hx => by
    rcases List.mem_append.1 hx with hx | hx
    ·exact hw x hx
    ·simp only [ys, List.mem_map] at hx; obtain ⟨c, _, rfl⟩ := hx; rfl, fun c hc => by
    rw [flat_append] at hc
    rcases List.mem_append.1 hc with hc | hc
    ·exact ho c hc
    ·rw [hfy] at hc; simp only [ys, List.mem_map] at hc; obtain ⟨c, _, rfl⟩ := hc; rfl, fun k c u hc hu => by
    rw [flat_append] at hc
    by_cases hk : k < (flat xs).length
    ·rw [List.getElem?_append_left hk] at hc
     rw [List.getElem?_append_left (by omega)] at hu
     exact hmono _ _ _ (hr k c u hc hu)
    ·rw [List.getElem?_append_right (by omega)] at hc
     rw [List.getElem?_append_right (by omega), hzl] at hu
     rw [hfy] at hc
     simp only [ys, bytesOf, List.getElem?_map, Option.map_eq_some_iff] at hc
     simp only [Go.Lib.strCells, List.getElem?_map, Option.map_eq_some_iff] at hu
     obtain ⟨q, h1, rfl⟩ := hc
     obtain ⟨q', h2, rfl⟩ := hu
     rw [h1] at h2
     injection h2 with h2
     subst h2
     exact .int _ _ _⟩)
 unfold Oper.wp execOp
 simp only [resolve, invoke, builtin, Sem.run_bind, Sem.run_pure, Result.andThen_ok, List.map_toArray, List.map_cons, List.map_nil, hcy, hrun]
 rw [Oper.upon_value]
 have hrep : Rep w' (Mut { s'.app (some d) ⟨[], .own d (s.next d), ((d, s.next d), some (.arr e 1 false (xs ++ ys))) :: U, [d]⟩ with env := s'.env } (setJ J d (s'.next d) v')) (setJ J d (s'.next d) v') (.own d (s.next d)) rv := by
  rcases hrv with rfl | ⟨ab, rfl, rfl⟩
  ·subst hvf'
   exact .own _ _ _ _ _ _ (by rw [← hnx]; simp [setJ])
  ·exact .own0 _ _ _ _ (by rw [← hnx]; simp [setJ])
 refine ⟨_, hstep.put_of (s := s') (some d) (pv := .own d (s.next d)) (v := rv) hrep ?_ rfl ?_ ?_ rfl⟩
 ·rfl
 ·rfl
 ·rfl
theorem do_append_str {d : Nat} {t u e : TypeId} {x y : Operand} {ty : TypeId} {sz by_ : Nat} {z : List PV} {b : ByteArray} {p : PV} {l : List UInt8} {f : UInt8 → PV} {be bs : Nat} {U : List ((Nat × Nat) × Option AObj)} (hx : s.ev x = p) (hy : s.ev y = .str b)
  (ht : tyOf P t = some ⟨.slice e, sz, by_, z⟩) (he : tyOf P e = some ⟨.int .u8, 1, 1, [.int .u8 0]⟩) (hz : (P.info? e).bind (·.zero) = some (.int .u8 0)) (hu : P.underlying u = some .string) (hbs : s.base p = some (List.map f l, be, bs, U)) (hbe : p = .nil ∨ (be = e ∧ bs = 1)) (hf : ∀ c, f c = .int .u8 (c.toNat : Int))
  (hmax : (l ++ bytesOf b).length ≤ 140737488355328) :
  Does P N ops ⟨some d, .call ⟨.builtin .append, #[x, y], #[t, u]⟩, ty, pos, after, guard⟩ s ⟨[], .own d (s.next d), ((d, s.next d), some (.arr e 1 false (List.map f (l ++ bytesOf b)))) :: U, [d]⟩ := by
 have h := does_append_str (P := P) (N := N) (ops := ops) (pos := pos) (after := after) (guard := guard) (d := d) (ty := ty) hx hy ht he hz hu hbs hbe (by rw [List.length_map]; rw [List.length_append, bytesOf_length] at hmax; exact hmax)
 have e : List.map f l ++ ((bytesOf b).map fun c => PV.int .u8 (c.toNat : Int)) = List.map f (l ++ bytesOf b) := by rw [List.map_append, funext hf]
 rw [e] at h
 exact h
end Go.Proofs.YtbaibpjffcahiaaGreat.Ab
namespace Go.Proofs.YtbaibpjffcahiaaGreat.Ab
open Go Go.RowKit
set_option linter.unusedVariables false
set_option linter.unusedSimpArgs false
variable {P : Program} {N : Nat} {ops : Array Oper} {dst : Option Tmp} {type : TypeId} {pos : String} {after : Array Edge} {guard : Option (Nat × Bool)} {s : St}
def boxIn (s : St) : Nm → List (List PV) → Prop
 | [], [] => True
 | p :: ps, cs :: css => s.heap p.1 p.2 = some (.box cs) ∧ boxIn s ps css
 | _, _ => False
theorem boxIn_get {s : St} : ∀ {ps : Nm} {css : List (List PV)}, boxIn s ps css → ps.length = css.length ∧ ∀ (i : Nat) (p : Nat × Nat) (cs : List PV), ps[i]? = some p → css[i]? = some cs → s.heap p.1 p.2 = some (.box cs)
 | [], [], _ => ⟨rfl, fun i p cs h => by simp at h⟩
 | p :: ps, [], h => h.elim
 | [], c :: cs, h => h.elim
 | p :: ps, c :: css, ⟨h1, h2⟩ => by
  obtain ⟨h3, h4⟩ := boxIn_get h2
  refine ⟨by simp [h3], fun i q cs hq hc => ?_⟩
  cases i with
  | zero => simp at hq hc; subst hq hc; exact h1
  | succ i => simp at hq hc; exact h4 i q cs hq hc
def frzOk (s : St) : Nm → Prop
 | [] => True
 | p :: ps => (∃ e sz xs, s.heap p.1 p.2 = some (.arr e sz true xs)) ∧ frzOk s ps
theorem frzOk_get {s : St} : ∀ {l : Nm}, frzOk s l → ∀ p ∈ l, ∃ e sz xs, s.heap p.1 p.2 = some (.arr e sz true xs)
 | [], _, p, hp => by cases hp
 | q :: r, ⟨h1, h2⟩, p, hp => by
  rcases List.mem_cons.1 hp with rfl | hp
  ·exact h1
  ·exact frzOk_get h2 p hp
def rowsPl : List Row → Prop
 | [] => True
 | q :: r => (∀ c ∈ flat q.2.2, c.plain = true) ∧ rowsPl r
theorem rowsPl_get : ∀ {l : List Row}, rowsPl l → ∀ q ∈ l, ∀ c ∈ flat q.2.2, c.plain = true
 | [], _, q, hq => by cases hq
 | p :: r, ⟨h1, h2⟩, q, hq => by
  rcases List.mem_cons.1 hq with rfl | hq
  ·exact h1
  ·exact rowsPl_get h2 q hq
theorem plain_map {α : Type} {f : α → PV} {l : List α} (h : ∀ x, (f x).cells.all PV.plain = true) : ∀ c ∈ flat (List.map f l), c.plain = true := by
 intro c hc
 simp only [flat, List.mem_flatMap, List.mem_map] at hc
 obtain ⟨_, ⟨x, _, rfl⟩, hc⟩ := hc
 have := h x
 rw [List.all_eq_true] at this
 exact this c hc
def apartNm (L bn rn : Nm) : Bool := L.all fun p => bn.all (fun q => !(p.1 == q.1 && p.2 == q.2)) && rn.all fun q => !(p.1 == q.1 && p.2 == q.2)
theorem apartNm_spec {L bn rn : Nm} (h : apartNm L bn rn = true) : ∀ p ∈ L, p ∉ bn ∧ p ∉ rn := by
 simp only [apartNm, List.all_eq_true, Bool.and_eq_true, Bool.not_eq_true', Bool.and_eq_false_iff, beq_eq_false_iff_ne] at h
 intro p hp
 obtain ⟨h1, h2⟩ := h p hp
 exact ⟨fun hb => by rcases h1 p hb with h | h <;> exact h rfl, fun hb => by rcases h2 p hb with h | h <;> exact h rfl⟩
theorem do_callG {fo : Operand} {xs : Array Operand} {tys : Array TypeId} {f : FuncId} {caps args : List PV} {boxes boxes' boxes2 bcs : List (List PV)} {rows' rws : List Row} {r r' : PV} (bn rn L : Nm) (d0 : Nat) (fz : Bool)
  (hok : Ok P f args boxes rws r boxes' rows') (hf : s.ev fo = .fn f caps) (hent : Ent P f) (hbox : boxIn s bn bcs) (hrow : rowsOk s rn rws) (hnb : nodupB bn = true) (hnr : nodupB rn = true) (hap : apartNm L bn rn = true)
  (hargs : mapO (s.arg1 bn rn L) (xs.toList.map s.ev ++ caps) = some args) (hbx : mapO (fun cs => mapO (s.argC bn rn L) cs) bcs = some boxes) (hbl : boxes'.length = boxes.length)
  (hrb : mapO (fun cs => mapO (raiC bn d0 (s.next d0)) cs) boxes' = some boxes2) (hr : raiV bn d0 (s.next d0) r = some r')
  (hsafe : frzOk s L ∨ (r.plainV = true ∧ boxes'.all (fun cs => cs.all PV.plain) = true ∧ rowsPl rows')) :
  Does P N ops ⟨dst, .call ⟨.value fo, xs, tys⟩, type, pos, after, guard⟩ s ⟨L, r', rowU d0 (s.next d0) fz 0 rows' ++ (boxU bn boxes2 ++ deadU rn), List.replicate (rows'.length + 1) d0⟩ := by
 obtain ⟨b1, b2⟩ := boxIn_get hbox
 obtain ⟨r1, r2⟩ := rowsOk_get hrow
 refine does_call bn rn L bcs rws d0 fz hf hent ⟨nodup_b hnb, nodup_b hnr, b1, r1, b2, r2⟩ (apartNm_spec hap) hargs hbx hok hbl hrb hr ?_
 rcases hsafe with h | ⟨h1, h2, h3⟩
 ·exact .inl (frzOk_get h)
 ·refine .inr ⟨h1, fun cs hcs c hc => ?_, rowsPl_get h3⟩
  rw [List.all_eq_true] at h2
  have := h2 cs hcs
  rw [List.all_eq_true] at this
  exact this c hc
theorem boxesOk_cons {nb i : Nat} {names : Nm} {cs cs1 cs' : List PV} {r : List (List PV)} (h : s.heap 0 i = some (.box cs)) (h1 : mapO (s.retC nb names) cs = some cs1) (e : cs1 = cs') (hr : boxesOk s nb names (i + 1) r) : boxesOk s nb names i (cs' :: r) := ⟨⟨cs, h, e ▸ h1⟩, hr⟩
theorem ret_okB {rs : Array ResultVar} {r r' : PV} {boxes' : List (List PV)} {rows' : List Row} {e : Exit} (names : Nm) {pv : PV} (hpv : s.resPV P rs.toList = some pv) (hr : s.retV boxes'.length names pv = some r') (he : r' = r) (hrow : rowsOk s names rows') (hbox : boxesOk s boxes'.length names 0 boxes')
  (hnd : names.Nodup) (hex : e = .normal ∨ e = .ret) (hlt : rs.toList.all (resLt N) = true) : RetOk P N rs r boxes' rows' e s :=
 ret_ok names hpv (he ▸ hr) hrow hbox hnd hex hlt
theorem Ok.weak {f : FuncId} {args args' : List PV} {boxes boxes' : List (List PV)} {rows rows' : List Row} {r : PV} (h : Ok P f args boxes rows r boxes' rows') (hl : leL args' args) : Ok P f args' boxes rows r boxes' rows' := by
 intro w X J vals hB hvl hrep
 obtain ⟨h1, h2⟩ := leL_get hl
 refine h w X J vals hB (hvl.trans h1) fun i pv v hpv hv => ?_
 have hi : i < args'.length := by rw [h1]; exact (List.getElem?_eq_some_iff.1 hpv).1
 exact (h2 i _ pv (List.getElem?_eq_getElem hi) hpv).2 _ _ _ _ (hrep i _ v (List.getElem?_eq_getElem hi) hv)
theorem Does.weak {o : Oper} {L : List (Nat × Nat)} {v v' : PV} {U : List ((Nat × Nat) × Option AObj)} {M : List Nat} (h : Does P N ops o s ⟨L, v, U, M⟩) (hv : PVle v v') : Does P N ops o s ⟨L, v', U, M⟩ := by
 intro s' ha hlt w0 Mv J a w hs Q
 refine Oper.wp_mono ?_ (h s' ⟨ha.env, ha.rd, ha.up, ha.nx⟩ hlt w0 Mv J a w hs Q)
 rintro a' w' ⟨J', h'⟩
 refine ⟨J', ?_⟩
 have hm : ∀ g, Mut (s'.app o.dst ⟨L, v', U, M⟩) J' g = Mut (s'.app o.dst ⟨L, v, U, M⟩) J' g := fun g => rfl
 refine ⟨h'.size, h'.defers, fun t ht => ?_, h'.obj, h'.sep, h'.nxt, h'.frame, h'.mutb, h'.xlt, h'.sepX, h'.ext, h'.grow, h'.os, h'.tape, h'.output, h'.drawn⟩
 have h1 := h'.env t ht
 cases hd : o.dst with
 | none => rw [hd] at h1; exact h1
 | some d =>
  rw [hd] at h1
  by_cases e : t = d
  ·subst e
   simp only [St.app, St.put, upd, if_true] at h1 ⊢
   exact hv.2 _ _ _ _ h1
  ·simp only [St.app, St.put, upd, if_neg e] at h1 ⊢
   exact h1
def inI (k : IntKind) (n : Int) : Prop := k.min ≤ n ∧ n ≤ k.max
theorem wf_int {k : IntKind} {n : Int} (h : (Lit.int k n).wf = true) : inI k n := by simpa [Lit.wf, inI] using h
theorem shape_i {n : Nat} {t : TypeId} {k : IntKind} {cs : List PV} (h : Shape P n t cs) (ht : P.underlying t = some (.int k)) : ∃ z, cs = [.int k z] ∧ inI k z := by
 obtain ⟨z, h1, h2⟩ := shape_int h ht
 exact ⟨z, h1, wf_int h2⟩
theorem shape_b {n : Nat} {t : TypeId} {cs : List PV} (h : Shape P n t cs) (ht : P.underlying t = some .bool) : ∃ b, cs = [.bool b] ∧ True := by
 obtain ⟨z, h1⟩ := shape_bool h ht
 exact ⟨z, h1, trivial⟩
theorem shape_struct {n : Nat} {t : TypeId} {cs : List PV} {fs : Array Field} (h : Shape P n t cs) (ht : P.underlying t = some (.struct fs)) :
  cs.length = P.cellsOf t ∧ ∃ m, ∀ (i : Nat) (f : Field), fs.toList[i]? = some f → Shape P m f.type ((cs.drop f.offset).take (P.cellsOf f.type)) := by
 cases n with
 | zero => exact h.elim
 | succ n =>
  simp only [Shape, ht] at h
  exact ⟨h.1, n, fun i f hf => h.2 f (List.mem_of_getElem? hf)⟩
def tileEq (cs : List PV) : Nat → List (Nat × List PV) → Prop
 | _, [] => True
 | off, (k, ps) :: r => (cs.drop off).take k = ps ∧ tileEq cs (off + k) r
def tileSum : List (Nat × List PV) → Nat
 | [] => 0
 | (k, _) :: r => k + tileSum r
def tileCat : List (Nat × List PV) → List PV
 | [] => []
 | (_, ps) :: r => ps ++ tileCat r
theorem tile_eq {cs : List PV} : ∀ {l : List (Nat × List PV)} {off : Nat}, tileEq cs off l → cs.length = off + tileSum l → cs.drop off = tileCat l
 | [], off, _, hl => by simp only [tileSum, Nat.add_zero] at hl; simp [tileCat, ← hl]
 | (k, ps) :: r, off, ⟨h1, h2⟩, hl => by
  have := tile_eq h2 (by simp only [tileSum] at hl; omega)
  rw [tileCat, ← this, ← h1, ← List.drop_drop, List.take_append_drop]
theorem tile_all {cs : List PV} {l : List (Nat × List PV)} {n : Nat} (h : tileEq cs 0 l) (hn : cs.length = n) (hl : Nat.beq n (tileSum l) = true) : cs = tileCat l := by
 have := tile_eq h (by rw [hn, Nat.zero_add]; exact Nat.eq_of_beq_eq_true hl)
 simpa using this
end Go.Proofs.YtbaibpjffcahiaaGreat.Ab
namespace Go.Proofs.YtbaibpjffcahiaaGreat.Ab
open Go Go.RowKit
set_option linter.unusedVariables false
set_option linter.unusedSimpArgs false
variable {P : Program} {N : Nat} {ops : Array Oper} {dst : Option Tmp} {type : TypeId} {pos : String} {after : Array Edge} {guard : Option (Nat × Bool)} {s : St}
theorem cellsAt_box {d n off : Nat} {cs : List PV} (h : s.heap d n = some (.box cs)) : s.cellsAt (.ptr d n off) = some (cs.drop off, [(d, n)]) := by simp [St.cellsAt, h]
end Go.Proofs.YtbaibpjffcahiaaGreat.Ab
namespace Go.Proofs.YtbaibpjffcahiaaGreat.Ab
open Go Go.RowKit
set_option linter.unusedVariables false
set_option linter.unusedSimpArgs false
variable {P : Program} {N : Nat} {ops : Array Oper} {dst : Option Tmp} {type : TypeId} {pos : String} {after : Array Edge} {guard : Option (Nat × Bool)} {s : St}
theorem does_nilCheck {x : Operand} {p q : PV} (hx : s.ev x = p) (hq : p.plus 0 = some q) :
  Does P N ops ⟨dst, .nilCheck x, type, pos, after, guard⟩ s (pureFx p) :=
 does_pure p fun w M J ρ hr => by
  have h1 := hr x (by simp [Op.operands])
  rw [hx] at h1
  obtain ⟨a, ha, h2⟩ := rep_plus hq h1
  exact ⟨_, by simp [execOp, ha], ha ▸ h1⟩
def St.nilOwnC (s : St) (d n k D e sz : Nat) (cs : List PV) : St :=
 { env := s.env, heap := fun a m => if a = D ∧ m = s.next D then some (.arr e sz false []) else if a = d ∧ m = n then some (.box (cs.set k (.own D (s.next D)))) else s.heap a m, next := fun a => if a = D then s.next D + 1 else s.next a, X := s.X }
theorem reb_nilOwnC {d n k D e sz : Nat} {cs : List PV} (hb : s.heap d n = some (.box cs)) (hk : cs[k]? = some .nil) (hp : 0 < sz) : Reb N s (s.nilOwnC d n k D e sz cs) := by
 refine ⟨rfl, fun w0 Mv J a w hs => ?_⟩
 have hnew := hs.nxt D (s.next D) (Nat.le_refl _)
 have hne : ¬ (d = D ∧ n = s.next D) := by rintro ⟨rfl, rfl⟩; rw [hnew.1] at hb; cases hb
 let J' : Site := setJ J D (s.next D) (.slice none 0 0)
 have hJ : ∀ d n v, J d n = some v → J' d n = some v := by
  intro d n v hv
  simp only [J', setJ]
  split
  ·rename_i hc; obtain ⟨rfl, rfl⟩ := hc; rw [hnew.2] at hv; cases hv
  ·exact hv
 have hJn : J' D (s.next D) = some (.slice none 0 0) := by simp [J', setJ]
 have hJo : ∀ d n v, ¬ (d = D ∧ n = s.next D) → J' d n = some v → J d n = some v := fun d n v hc hv => by simpa [J', setJ, hc] using hv
 let s1 : St := s.nilOwnC d n k D e sz cs
 have hh1 : ∀ a m, s1.heap a m = if a = D ∧ m = s.next D then some (.arr e sz false []) else if a = d ∧ m = n then some (.box (cs.set k (.own D (s.next D)))) else s.heap a m := fun a m => rfl
 have hold : ∀ a m o, ¬ (a = D ∧ m = s.next D) → s1.heap a m = some o → ∃ o', s.heap a m = some o' ∧ (o.mut = true → o'.mut = true) := by
  intro a m o hc ho
  rw [hh1, if_neg hc] at ho
  split at ho
  ·rename_i hc2; obtain ⟨rfl, rfl⟩ := hc2; exact ⟨_, hb, fun _ => rfl⟩
  ·exact ⟨o, ho, id⟩
 have hM : ∀ b, OMut s1 J' b → OMut s J b := by
  rintro b ⟨a, m, o, v, h1, h2, h3, h4⟩
  by_cases hc : a = D ∧ m = s.next D
  ·obtain ⟨rfl, rfl⟩ := hc
   rw [hJn] at h3
   injection h3 with h3
   subst h3
   cases h4
  ·obtain ⟨o', h5, h6⟩ := hold a m o hc h1
   exact ⟨a, m, o', v, h5, h6 h2, hJo _ _ _ hc h3, h4⟩
 have hMM : ∀ b, b < w.heap.size → Mut s1 J' b → Mut s J b := fun b _ hm => hm.imp id (hM b)
 refine ⟨J', ?_⟩
 refine hs.update (row := none) (s' := s1) (World.grownBy.refl w none) (Nat.le_refl _) (by simp) hJ rfl rfl (fun b _ hm => hM b hm) (fun a m o h1 => ?_) (fun d1 n1 d2 n2 o1 o2 v1 v2 g k1 k2 k3 k4 k5 k6 => ?_) (fun a m hle => ?_) (fun a m o v g k1 k2 k3 => ?_)
 ·rw [hh1] at h1
  split at h1
  ·rename_i hc
   obtain ⟨rfl, rfl⟩ := hc
   injection h1 with h1
   subst h1
   exact .inr ⟨_, [], hJn, ⟨by simp, .inl ⟨rfl, rfl⟩⟩, hp, by simp, by simp [flat], by simp [flat]⟩
  ·split at h1
   ·rename_i hc2
    obtain ⟨rfl, rfl⟩ := hc2
    injection h1 with h1
    subst h1
    obtain ⟨g, cur, t, q1, q2, q3, q4, q5⟩ := hs.obj a m _ hb
    refine .inr ⟨g, cur, t, hJ _ _ _ q1, q2, by rw [List.length_set]; exact q3, fun c hc => ?_, fun i c v hc hv => ?_⟩
    ·rcases List.mem_or_eq_of_mem_set hc with hc | rfl
     ·exact q4 c hc
     ·rfl
    ·rw [List.getElem?_set] at hc
     by_cases e1 : k = i
     ·subst e1
      have hlt := (List.getElem?_eq_some_iff.1 hk).1
      rw [if_pos rfl, if_pos hlt] at hc
      injection hc with hc
      subst hc
      have hr := q5 k _ v hk hv
      cases hr
      exact .own _ _ _ _ _ _ hJn
     ·rw [if_neg e1] at hc
      exact (q5 i c v hc hv).mono (fun _ _ _ => rfl) hMM hJ
   ·exact .inl ⟨h1, by simp⟩
 ·by_cases c1 : d1 = D ∧ n1 = s.next D
  ·obtain ⟨rfl, rfl⟩ := c1
   rw [hJn] at k3
   injection k3 with k3
   subst k3
   cases k5
  ·by_cases c2 : d2 = D ∧ n2 = s.next D
   ·obtain ⟨rfl, rfl⟩ := c2
    rw [hJn] at k4
    injection k4 with k4
    subst k4
    cases k6
   ·obtain ⟨o1', h1, _⟩ := hold _ _ _ c1 k1
    obtain ⟨o2', h2, _⟩ := hold _ _ _ c2 k2
    exact hs.sep _ _ _ _ _ _ _ _ g h1 h2 (hJo _ _ _ c1 k3) (hJo _ _ _ c2 k4) k5 k6
 ·have hc : ¬ (a = D ∧ m = s.next D) := by
   rintro ⟨rfl, rfl⟩
   simp [s1, St.nilOwnC] at hle
   omega
  have hle0 : (if a = D then s.next D + 1 else s.next a) ≤ m := hle
  have hle' : s.next a ≤ m := by
   clear hle
   have hle := hle0
   split at hle
   ·rename_i e; subst e; omega
   ·exact hle
  have := hs.nxt a m hle'
  have hc2 : ¬ (a = d ∧ m = n) := by rintro ⟨rfl, rfl⟩; rw [this.1] at hb; cases hb
  exact ⟨by rw [hh1, if_neg hc, if_neg hc2]; exact this.1, by simp [J', setJ, hc, this.2]⟩
 ·by_cases c1 : a = D ∧ m = s.next D
  ·obtain ⟨rfl, rfl⟩ := c1
   rw [hJn] at k2
   injection k2 with k2
   subst k2
   cases k3
  ·obtain ⟨o', h1, _⟩ := hold _ _ _ c1 k1
   exact hs.sepX _ _ _ _ g h1 (hJo _ _ _ c1 k2) k3
theorem aw_nilOwnC {c : Code} {Q : Exit → St → Prop} (d n k D e sz : Nat) {cs : List PV} (hb : s.heap d n = some (.box cs)) (hk : cs[k]? = some .nil) (hp : 0 < sz) (h : AW P N c (s.nilOwnC d n k D e sz cs) Q) : AW P N c s Q := aw_reb (reb_nilOwnC hb hk hp) h
end Go.Proofs.YtbaibpjffcahiaaGreat.Ab
namespace Go.Proofs.YtbaibpjffcahiaaGreat.Ab
open Go Go.RowKit
set_option linter.unusedVariables false
set_option linter.unusedSimpArgs false
variable {P : Program} {N : Nat} {ops : Array Oper} {dst : Option Tmp} {type : TypeId} {pos : String} {after : Array Edge} {guard : Option (Nat × Bool)} {s : St}
theorem map_getE {α : Type} {f : α → PV} {l : List α} {i : Nat} {x : α} {p : PV} (e : f x = p) (h : l[i]? = some x) : (List.map f l)[i]? = some p := by simp [h, e]
theorem shape_structR {n : Nat} {t : TypeId} {cs : List PV} {fs : Array Field} (h : Shape P n t cs) (ht : P.underlying t = some (.struct fs)) :
  cs.length = P.cellsOf t ∧ ∃ m, m < n ∧ ∀ (i : Nat) (f : Field), fs.toList[i]? = some f → Shape P m f.type ((cs.drop f.offset).take (P.cellsOf f.type)) := by
 cases n with
 | zero => exact h.elim
 | succ n =>
  simp only [Shape, ht] at h
  exact ⟨h.1, n, Nat.lt_succ_self n, fun i f hf => h.2 f (List.mem_of_getElem? hf)⟩
theorem shape_rowsR {α : Type} {f : α → PV} {Q : α → Prop} {n : Nat} {t e : TypeId} {cs : List PV} (h : Shape P n t cs) (ht : P.underlying t = some (.slice e)) (hf : ∀ m, m < n → ∀ ps, Shape P m e ps → ∃ a, PV.mk (aggT P e) ps = f a ∧ Q a) :
  ∃ l : List α, cs = [.sl (P.cellsOf e) (l.map f)] ∧ l.length ≤ maxLen ∧ ∀ a ∈ l, Q a := by
 cases n with
 | zero => exact h.elim
 | succ n =>
  simp only [Shape, ht] at h
  obtain ⟨xs, rfl, hm, hx⟩ := h
  have : ∃ l : List α, xs = l.map f ∧ ∀ a ∈ l, Q a := by
   clear hm
   induction xs with
   | nil => exact ⟨[], rfl, by simp⟩
   | cons x xs ih =>
    obtain ⟨l, rfl, hq⟩ := ih fun y hy => hx y (List.mem_cons_of_mem _ hy)
    obtain ⟨ps, rfl, hs⟩ := hx x List.mem_cons_self
    obtain ⟨a, ha, hqa⟩ := hf n (Nat.lt_succ_self n) ps hs
    exact ⟨a :: l, by rw [ha]; rfl, by simpa using ⟨hqa, hq⟩⟩
  obtain ⟨l, rfl, hq⟩ := this
  exact ⟨l, rfl, by simpa using hm, hq⟩
end Go.Proofs.YtbaibpjffcahiaaGreat.Ab
namespace Go.Proofs.YtbaibpjffcahiaaGreat.Ab
open Go Go.RowKit
set_option linter.unusedVariables false
set_option linter.unusedSimpArgs false
variable {P : Program} {N : Nat} {ops : Array Oper} {dst : Option Tmp} {type : TypeId} {pos : String} {after : Array Edge} {guard : Option (Nat × Bool)} {s : St}
def zle : PV → PV → Bool
 | .nil, .sl _ [] => true
 | .nil, .nil => true
 | .bool a, .bool b => a == b
 | .int k a, .int l b => decide (k = l) && decide (a = b)
 | .str a, .str b => decide (a = b)
 | _, _ => false
def zlesB : List PV → List PV → Bool
 | [], [] => true
 | a :: r, b :: q => zle a b && zlesB r q
 | _, _ => false
end Go.Proofs.YtbaibpjffcahiaaGreat.Ab
namespace Go.Proofs.YtbaibpjffcahiaaGreat.Ab
open Go Go.RowKit
set_option linter.unusedVariables false
set_option linter.unusedSimpArgs false
variable {P : Program} {N : Nat} {ops : Array Oper} {s : St} {Q : Exit → St → Prop}
def AL (P : Program) (N : Nat) (ops : Array Oper) (l : List Oper) (s : St) (Q : Exit → St → Prop) : Prop :=
 ∀ w0 Mv J a w, Sim w0 Mv N J s a w → wpList P ops (fun e a' w' => ∃ s' J', Sim w0 Mv N J' s' a' w' ∧ s'.X = s.X ∧ Q e s') l a w
theorem al_nil (h : Q .normal s) : AL P N ops [] s Q := fun w0 Mv J a w hs => wpList_nil ⟨s, J, hs, rfl, h⟩
theorem al_cons {o : Oper} {l : List Oper} {x : Fx} (ha : Acts P N ops o s x) (hN : ∀ t ∈ o.looksAt ops, t < N) (h : AL P N ops l (s.app o.dst x) Q) : AL P N ops (o :: l) s Q := by
 intro w0 Mv J a w hs
 unfold wpList
 exact ha.op (Agree.refl _ _ _ _) hN hs fun J' a' w' h' => h w0 Mv J' a' w' h'
theorem al_bool {l : List Oper} (t : Nat) {c : Bool} (hb : s.env t = .bool c) (h1 : c = true → AL P N ops l (s.put (some t) (.bool true)) Q) (h2 : c = false → AL P N ops l (s.put (some t) (.bool false)) Q) : AL P N ops l s Q := by
 cases c with
 | true => have := h1 rfl; rwa [s.put_self hb] at this
 | false => have := h2 rfl; rwa [s.put_self hb] at this
theorem aw_regL {id : Nat} {l : List Oper} (h : AL P N l.toArray l s Q) : AW P N (.region id l.toArray false) s Q :=
 fun w0 Mv J a w hs => wp_region_lit (h w0 Mv J a w hs)
theorem al_consD {o : Oper} {l : List Oper} {x : Fx} {d : Option Tmp} (hd : o.dst = d) (ha : Acts P N ops o s x) (hN : ∀ t ∈ o.looksAt ops, t < N) (h : AL P N ops l (s.app d x) Q) : AL P N ops (o :: l) s Q := al_cons ha hN (hd ▸ h)
theorem al_consP {o : Oper} {l : List Oper} {v : PV} {d : Option Tmp} (hd : o.dst = d) (ha : Acts P N ops o s (pureFx v)) (hN : ∀ t ∈ o.looksAt ops, t < N) (h : AL P N ops l (s.put d v) Q) : AL P N ops (o :: l) s Q :=
 al_consD hd ha hN (by rw [app_pure]; exact h)
theorem pairs_insert {b : Nat → Nat → Bool} {i : Nat} {y : Fx} (hy : y.quiet) : ∀ {A B : List (Nat × Fx)}, pairsFx b (A ++ B) → pairsFx b (A ++ (i, y) :: B)
 | [], B, h => ⟨fun q _ => .inr (fxApart_quiet (.inl hy)), h⟩
 | (j, x) :: A, B, h => ⟨fun q hq => by
   rcases List.mem_append.1 hq with hq | hq
   ·exact h.1 q (List.mem_append_left _ hq)
   ·rcases List.mem_cons.1 hq with rfl | hq
    ·exact .inr (fxApart_quiet (.inr hy))
    ·exact h.1 q (List.mem_append_right _ hq), pairs_insert hy h.2⟩
theorem ao_consD {b : Option (Nat → Nat → Bool)} {i : Nat} {fx : List (Nat × Fx)} {o : Oper} {l : List Oper} {x : Fx} {d : Option Tmp} (hd : o.dst = d) (ha : Acts P N ops o s x) (hN : ∀ t ∈ o.looksAt ops, t < N) (h : AO P N ops b (i + 1) (fx ++ [(i, x)]) l (s.app d x) Q) :
  AO P N ops b i fx (o :: l) s Q := ao_cons ha hN (hd ▸ h)
theorem ao_consP {b : Option (Nat → Nat → Bool)} {i : Nat} {fx : List (Nat × Fx)} {o : Oper} {l : List Oper} {v : PV} {d : Option Tmp} (hd : o.dst = d) (ha : Acts P N ops o s (pureFx v)) (hN : ∀ t ∈ o.looksAt ops, t < N) (h : AO P N ops b (i + 1) fx l (s.put d v) Q) :
  AO P N ops b i fx (o :: l) s Q := by
 subst hd
 rw [← app_pure] at h
 obtain ⟨xs, s', h1, h2, h3⟩ := h
 exact ⟨pureFx v :: xs, s', .cons ha hN h1, fun w hw => pairs_insert ⟨rfl, rfl, rfl⟩ (h2 w hw), h3⟩
theorem alP (d : Option Tmp) {o : Oper} {l : List Oper} {v : PV} (hd : o.dst = d) (hg : guardOk ops o s = some true) (h : Does P N ops o s (pureFx v)) (hN : ∀ t ∈ o.looksAt ops, t < N) (k : AL P N ops l (s.put d v) Q) : AL P N ops (o :: l) s Q := al_consP hd (acts_of hg h) hN k
theorem alD (d : Option Tmp) {o : Oper} {l : List Oper} {x : Fx} (hd : o.dst = d) (hg : guardOk ops o s = some true) (h : Does P N ops o s x) (hN : ∀ t ∈ o.looksAt ops, t < N) (k : AL P N ops l (s.app d x) Q) : AL P N ops (o :: l) s Q := al_consD hd (acts_of hg h) hN k
theorem alS (d : Option Tmp) {o : Oper} {l : List Oper} (hd : o.dst = d) (hg : guardOk ops o s = some false) (hN : ∀ t ∈ o.looksAt ops, t < N) (k : AL P N ops l (s.put d .skip) Q) : AL P N ops (o :: l) s Q := al_consP hd (acts_skip hg) hN k
theorem alR (d : Option Tmp) {o : Oper} {l : List Oper} {L : List (Nat × Nat)} {v : PV} (hd : o.dst = d) (hg : guardOk ops o s = some true) (h : Does P N ops o s ⟨L, v, [], []⟩) (hN : ∀ t ∈ o.looksAt ops, t < N) (k : AL P N ops l (s.put d v) Q) : AL P N ops (o :: l) s Q :=
 al_consD hd (acts_of hg h) hN (by rw [app_read]; exact k)
theorem Does.fx {o : Oper} {x y : Fx} (h : Does P N ops o s x) (e : x = y) : Does P N ops o s y := e ▸ h
section
variable {b : Option (Nat → Nat → Bool)} {i : Nat} {fx : List (Nat × Fx)} {o : Oper} {l : List Oper}
theorem aoP (d : Option Tmp) {v : PV} (hd : o.dst = d) (hg : guardOk ops o s = some true) (h : Does P N ops o s (pureFx v)) (hN : ∀ t ∈ o.looksAt ops, t < N) (k : AO P N ops b (i + 1) fx l (s.put d v) Q) : AO P N ops b i fx (o :: l) s Q := ao_consP hd (acts_of hg h) hN k
theorem aoD (d : Option Tmp) {x : Fx} (hd : o.dst = d) (hg : guardOk ops o s = some true) (h : Does P N ops o s x) (hN : ∀ t ∈ o.looksAt ops, t < N) (k : AO P N ops b (i + 1) (fx ++ [(i, x)]) l (s.app d x) Q) : AO P N ops b i fx (o :: l) s Q := ao_consD hd (acts_of hg h) hN k
theorem aoR (d : Option Tmp) {L : List (Nat × Nat)} {v : PV} (hd : o.dst = d) (hg : guardOk ops o s = some true) (h : Does P N ops o s ⟨L, v, [], []⟩) (hN : ∀ t ∈ o.looksAt ops, t < N) (k : AO P N ops b (i + 1) (fx ++ [(i, ⟨L, v, [], []⟩)]) l (s.put d v) Q) : AO P N ops b i fx (o :: l) s Q :=
 ao_consD hd (acts_of hg h) hN (by rw [app_read]; exact k)
theorem aoS (d : Option Tmp) (hd : o.dst = d) (hg : guardOk ops o s = some false) (hN : ∀ t ∈ o.looksAt ops, t < N) (k : AO P N ops b (i + 1) fx l (s.put d .skip) Q) : AO P N ops b i fx (o :: l) s Q := ao_consP hd (acts_skip hg) hN k
end
end Go.Proofs.YtbaibpjffcahiaaGreat.Ab
namespace Go.Proofs.YtbaibpjffcahiaaGreat.Ab
open Go Go.RowKit
set_option linter.unusedVariables false
set_option linter.unusedSimpArgs false
variable {P : Program} {N : Nat} {ops : Array Oper} {dst : Option Tmp} {type : TypeId} {pos : String} {after : Array Edge} {guard : Option (Nat × Bool)} {s : St}
theorem loadPV_arr {α : Type} {f : α → PV} {ti : TyI} {l : List α} {pre post : List PV} {i off : Nat} {x : α} (ha : ti.d.agg = false) (hp : pre.length = off) (h : l[i]? = some x) : loadPV ti ((pre ++ (List.map f l ++ post)).drop (off + i * 1)) = some (f x) := by
 have hi := (List.getElem?_eq_some_iff.1 h).1
 simp only [loadPV, ha, Bool.false_eq_true, if_false]
 rw [List.getElem?_drop, ← hp, List.getElem?_append_right (by omega), List.getElem?_append_left (by rw [List.length_map]; omega), List.getElem?_map, show pre.length + i * 1 + 0 - pre.length = i by omega, h]
 rfl
theorem map_getD {α : Type} {f : α → PV} {z : α} {L : List α} : List.map f L = (List.range L.length).map (fun j => f (L.getD j z)) := by
 apply List.ext_getElem
 ·simp
 ·intro k h1 h2
  simp only [List.length_map] at h1
  simp [List.getD_eq_getElem?_getD, List.getElem?_eq_getElem h1]
theorem mid_get {β : Type} (pre X post : List β) (k : Nat) : (pre ++ (X ++ post))[k]? = if k < pre.length then pre[k]? else if k < pre.length + X.length then X[k - pre.length]? else post[k - pre.length - X.length]? := by
 by_cases h : k < pre.length
 ·rw [if_pos h, List.getElem?_append_left h]
 ·rw [if_neg h, List.getElem?_append_right (by omega)]
  by_cases h2 : k < pre.length + X.length
  ·rw [if_pos h2, List.getElem?_append_left (by omega)]
  ·rw [if_neg h2, List.getElem?_append_right (by omega)]
theorem do_storeY {α : Type} {f : α → PV} {t : TypeId} {p x : Operand} {d n i off ln : Nat} {l L : List α} {pre post cs cs' : List PV} {y a z : α} {ti : TyI} (hp : s.ev p = .ptr d n (off + i * 1)) (hx : s.ev x = f a) (hb : s.heap d n = some (.box cs)) (ht : tyOf P t = some ti)
  (hcs : cs = pre ++ (List.map f l ++ post)) (h1 : (f a).cells = [f a]) (ho : (f a).one = true) (hs : ti.size = 1) (hi : l[i]? = some y) (hL : some (List.set l i a) = some L) (hcs' : pre.length = off ∧ l.length = ln ∧ cs' = pre ++ ((List.range ln).map (fun j => f (L.getD j z)) ++ post)) :
  Does P N ops ⟨none, .store t p x, type, pos, after, guard⟩ s ⟨[], .skip, [((d, n), some (.box cs'))], []⟩ := by
 obtain ⟨hpo, hln, hc2⟩ := hcs'
 have hlt := (List.getElem?_eq_some_iff.1 hi).1
 have hLe : List.set l i a = L := Option.some.inj hL
 have hLl : L.length = ln := by rw [← hLe, List.length_set, hln]
 have hlen : cs.length = off + (l.length + post.length) := by rw [hcs, List.length_append, List.length_append, List.length_map, hpo]
 have h := does_store (P := P) (N := N) (ops := ops) (type := type) (pos := pos) (after := after) (guard := guard) hp hx hb ht (by rw [h1]; simpa using ho) (by rw [h1, hs]; rfl) (by rw [hs, hlen]; omega)
 have e : splice cs (off + i * 1) (f a).cells = cs' := by
  rw [hc2, ← hLl, ← map_getD, ← hLe, h1, splice]
  apply List.ext_getElem?
  intro k
  rw [splice_get (by simp only [List.length_singleton]; omega), List.length_singleton]
  rw [mid_get, hcs, mid_get, List.length_map, List.length_map, List.length_set, hpo]
  by_cases e : k = off + i
  ·subst e
   rw [if_pos (by omega), if_neg (by omega), if_pos (by omega), List.getElem?_map, List.getElem?_set, show off + i - (off + i * 1) = 0 by omega, show off + i - off = i by omega]
   simp [hlt]
  ·rw [if_neg (by omega)]
   by_cases e1 : k < off
   ·rw [if_pos e1, if_pos e1]
   ·rw [if_neg e1, if_neg e1]
    by_cases e2 : k < off + l.length
    ·rw [if_pos e2, if_pos e2, List.getElem?_map, List.getElem?_map, List.getElem?_set_ne (by omega)]
    ·rw [if_neg e2, if_neg e2]
 rw [e] at h
 exact h
end Go.Proofs.YtbaibpjffcahiaaGreat.Ab
namespace Go.Proofs.YtbaibpjffcahiaaGreat.Ab
open Go Go.RowKit
set_option linter.unusedVariables false
set_option linter.unusedSimpArgs false
variable {P : Program} {N : Nat} {ops : Array Oper} {s : St} {Q : Exit → St → Prop}
universe u
theorem W_ {α : Sort u} {a b : α} (h : a = b := by conv => lhs; whnf) : a = b := h
theorem R_ {α : Sort u} {a b : α} (h : a = b := by exact rfl) : a = b := h
theorem D_ {p : Prop} [Decidable p] (h : p := by decide) : p := h
theorem pP (d : Nat) {o : Oper} {l : List Oper} {v : PV} (h : Does P N ops o s (pureFx v)) (k : AL P N ops l (s.put (some d) v) Q) (hd : o.dst = some d := by exact rfl) (hg : guardOk ops o s = some true := by exact rfl) (hN : ∀ z0 ∈ o.looksAt ops, z0 < N := by decide) : AL P N ops (o :: l) s Q := alP (some d) hd hg h hN k
theorem pD (d : Nat) {o : Oper} {l : List Oper} {x : Fx} (h : Does P N ops o s x) (k : AL P N ops l (s.app (some d) x) Q) (hd : o.dst = some d := by exact rfl) (hg : guardOk ops o s = some true := by exact rfl) (hN : ∀ z0 ∈ o.looksAt ops, z0 < N := by decide) : AL P N ops (o :: l) s Q := alD (some d) hd hg h hN k
theorem pX (d : Nat) {o : Oper} {l : List Oper} {L : List (Nat × Nat)} {v : PV} (h : Does P N ops o s ⟨L, v, [], []⟩) (k : AL P N ops l (s.put (some d) v) Q) (hd : o.dst = some d := by exact rfl) (hg : guardOk ops o s = some true := by exact rfl) (hN : ∀ z0 ∈ o.looksAt ops, z0 < N := by decide) : AL P N ops (o :: l) s Q := alR (some d) hd hg h hN k
theorem pS (d : Nat) {o : Oper} {l : List Oper} (k : AL P N ops l (s.put (some d) .skip) Q) (hd : o.dst = some d := by exact rfl) (hg : guardOk ops o s = some false := by exact rfl) (hN : ∀ z0 ∈ o.looksAt ops, z0 < N := by decide) : AL P N ops (o :: l) s Q := alS (some d) hd hg hN k
theorem sr {id : Nat} {l : List Oper} {y : Code} (h : ∀ K : St → Prop, (∀ s', AW P N y s' Q → K s') → AL P N l.toArray l s (thenA K Q)) : AW P N (.seq (.region id l.toArray false) y) s Q := aw_seq_k fun K hK => aw_regL (h K hK)
theorem en {A B : St → Prop} (hK : ∀ s', B s' → A s') (h : B s) (e : A s = Q .normal s := by exact rfl) : AL P N ops [] s Q := al_nil (e ▸ hK s h)
theorem ec {nm nn : Nm} {t : Nat} {v v' : PV} {r : List (Nat × PV)} (hr : envOk s nm nn r) (h : ren1 s nm nn (s.env t) = some v := by conv => lhs; whnf) (e : v = v' := by exact rfl) : envOk s nm nn ((t, v') :: r) := envOk_cons h e hr
section
variable {type : TypeId} {pos : String} {after : Array Edge} {guard : Option (Nat × Bool)} {l : List Oper} {x : Operand}
theorem pl (d : Nat) {t : TypeId} {x : Operand} {p : PV} {cs : List PV} {L : List (Nat × Nat)} {ti : TyI} (v : PV) (ht : tyOf P t = some ti) (k : AL P N ops l (s.put (some d) v) Q) (hx : s.ev x = p := by conv => lhs; whnf) (hc : s.cellsAt p = some (cs, L) := by conv => lhs; whnf) (hv : loadPV ti cs = some v := by exact rfl) (hg : guardOk ops ⟨some d, .load t x, type, pos, after, guard⟩ s = some true := by exact rfl) (hN : ∀ z0 ∈ (⟨some d, .load t x, type, pos, after, guard⟩ : Oper).looksAt ops, z0 < N := by decide) : AL P N ops (⟨some d, .load t x, type, pos, after, guard⟩ :: l) s Q := alR (some d) rfl hg (does_load hx hc ht hv) hN k
end
section
variable {b : Option (Nat → Nat → Bool)} {i : Nat} {fx : List (Nat × Fx)} {o : Oper} {l : List Oper}
theorem qP (d : Nat) {v : PV} (h : Does P N ops o s (pureFx v)) (k : AO P N ops b (i + 1) fx l (s.put (some d) v) Q) (hd : o.dst = some d := by exact rfl) (hg : guardOk ops o s = some true := by exact rfl) (hN : ∀ z0 ∈ o.looksAt ops, z0 < N := by decide) : AO P N ops b i fx (o :: l) s Q := aoP (some d) hd hg h hN k
theorem qD (d : Nat) {x : Fx} (h : Does P N ops o s x) (k : AO P N ops b (i + 1) (fx ++ [(i, x)]) l (s.app (some d) x) Q) (hd : o.dst = some d := by exact rfl) (hg : guardOk ops o s = some true := by exact rfl) (hN : ∀ z0 ∈ o.looksAt ops, z0 < N := by decide) : AO P N ops b i fx (o :: l) s Q := aoD (some d) hd hg h hN k
theorem qR (d : Nat) {L : List (Nat × Nat)} {v : PV} (h : Does P N ops o s ⟨L, v, [], []⟩) (k : AO P N ops b (i + 1) (fx ++ [(i, ⟨L, v, [], []⟩)]) l (s.put (some d) v) Q) (hd : o.dst = some d := by exact rfl) (hg : guardOk ops o s = some true := by exact rfl) (hN : ∀ z0 ∈ o.looksAt ops, z0 < N := by decide) : AO P N ops b i fx (o :: l) s Q := aoR (some d) hd hg h hN k
theorem qS (d : Nat) (k : AO P N ops b (i + 1) fx l (s.put (some d) .skip) Q) (hd : o.dst = some d := by exact rfl) (hg : guardOk ops o s = some false := by exact rfl) (hN : ∀ z0 ∈ o.looksAt ops, z0 < N := by decide) : AO P N ops b i fx (o :: l) s Q := aoS (some d) hd hg hN k
end
end Go.Proofs.YtbaibpjffcahiaaGreat.Ab
