/- More operations: a row frozen by what is done with it, strings out of bytes, a string's bytes appended, calls that are handed boxes and rows. -/
import Derived.Test.YtejimiedoibkcaaAbAuto
import Derived.Lib.AppendStr
import Derived.Laws.BytesString
namespace Go.Proofs.Ytejimiedoibkcaa.Ab
open Go Go.RowKit
set_option linter.unusedVariables false
set_option linter.unusedSimpArgs false
variable {P : Program} {N : Nat} {ops : Array Oper} {dst : Option Tmp} {type : TypeId} {pos : String} {after : Array Edge} {guard : Option (Nat × Bool)} {s : St}

theorem own_lt {α : Type} {f : α → PV} {l : List α} {i : Int} {x : α} (h : l[i.toNat]? = some x) : i < ((List.map f l).length : Int) := by
  have := (List.getElem?_eq_some_iff.1 h).1
  rw [List.length_map]; omega
theorem part_0 {α : Type} {f : α → PV} (l : List α) : ((List.map f l).take (List.map f l).length).drop 0 = List.map f l := by rw [List.take_length, List.drop_zero]
theorem part_l {α : Type} {f : α → PV} (l : List α) (i : Nat) : ((List.map f l).take (List.map f l).length).drop i = List.map f (List.drop i l) := by rw [List.take_length, List.map_drop]
theorem part_h {α : Type} {f : α → PV} (l : List α) (k : Nat) : ((List.map f l).take k).drop 0 = List.map f (List.take k l) := by rw [List.drop_zero, List.map_take]
theorem u8_wrap (x : Int) : 0 ≤ IntKind.u8.wrap x ∧ IntKind.u8.wrap x < 256 := by
  simp only [IntKind.wrap, IntKind.bits, IntKind.signed]
  simp; omega
theorem u8_bits (op : BinOp) (x y : Int) : 0 ≤ bits op .u8 x y ∧ bits op .u8 x y < 256 := by
  unfold bits
  split <;> exact u8_wrap _
theorem fit_nil {α : Type} {l : List α} {m : Nat} (h : l.length ≤ m) : (([] : List α) ++ l).length ≤ m := h

/-- What an operation does when a row was marked; it is marked by it. -/
theorem does_frz {o : Oper} {d n e sz : Nat} {fz : Bool} {xs : List PV} {L : List (Nat × Nat)} {v : PV} {U : List ((Nat × Nat) × Option AObj)} {M : List Nat} (hb : s.heap d n = some (.arr e sz fz xs))
    (h : Does P N ops o (s.setH d n (some (.arr e sz true xs))) ⟨L, v, U, M⟩) : Does P N ops o s ⟨L, v, U ++ [((d, n), some (.arr e sz true xs))], M⟩ := by
  intro s' ha hlt w0 Mv J a w hs Q
  have hb' : s'.heap d n = some (.arr e sz fz xs) := (ha.up ((d, n), some (.arr e sz true xs)) (by simp)).trans hb
  have hag : Agree ops o ⟨L, v, U, M⟩ (s.setH d n (some (.arr e sz true xs))) (s'.setH d n (some (.arr e sz true xs))) := by
    refine ⟨ha.env, fun p hp => ?_, fun p hp => ?_, ha.nx⟩
    · simp only [St.setH]; split
      · rfl
      · exact ha.rd p hp
    · simp only [St.setH]; split
      · rfl
      · exact ha.up p (List.mem_append_left _ hp)
  have := h _ hag hlt w0 Mv J a w (hs.freeze hb') Q
  have he : (s'.setH d n (some (.arr e sz true xs))).app o.dst ⟨L, v, U, M⟩ = s'.app o.dst ⟨L, v, U ++ [((d, n), some (.arr e sz true xs))], M⟩ := by
    have h1 : ∀ a m, look U a m ((s'.setH d n (some (.arr e sz true xs))).heap a m) = look (U ++ [((d, n), some (.arr e sz true xs))]) a m (s'.heap a m) := by
      intro a m
      rw [look_append]
      congr 1
    cases o.dst <;> simp only [St.app, h1] <;> rfl
  rw [he] at this
  exact this

/-! ### strings and bytes -/
def strOf (l : List UInt8) : ByteArray := ⟨l.toArray⟩
def bytesOf (s : ByteArray) : List UInt8 := s.data.toList
theorem strOf_bytesOf (s : ByteArray) : strOf (bytesOf s) = s := by cases s; simp [strOf, bytesOf]
theorem bytesOf_strOf (l : List UInt8) : bytesOf (strOf l) = l := by simp [strOf, bytesOf]
theorem bytesOf_length (s : ByteArray) : (bytesOf s).length = s.size := by simp [bytesOf]
theorem fold_push : ∀ (l : List UInt8) (s : ByteArray), (l.map fun c => (c.toNat : Int)).foldl (fun r n => r.push (UInt8.ofNat n.toNat)) s = ⟨s.data ++ l.toArray⟩
  | [], s => by simp
  | c :: l, s => by
    simp only [List.map_cons, List.foldl_cons]
    rw [fold_push l]
    simp [ByteArray.push]
theorem does_bytes_str {t u e : TypeId} {x : Operand} {p : PV} {l : List UInt8} {sz : Nat} {f : UInt8 → PV} {L : List (Nat × Nat)} (hx : s.ev x = p) (hsr : s.src p = some (List.map f l, sz, L)) (hsz : sz ≤ 1) (ht : P.underlying t = some (.slice e)) (he : P.underlying e = some (.int .u8)) (hu : P.underlying u = some .string)
    (hf : ∀ c, f c = .int .u8 (c.toNat : Int)) : Does P N ops ⟨dst, .convert t u x, type, pos, after, guard⟩ s ⟨L, .str (strOf l), [], []⟩ :=
  does_read _ _ fun w0 Mv J s' a w hs hL hr => by
    have h3 := hr x (by simp [Op.operands])
    rw [hx] at h3
    obtain ⟨A, c, hv, hsrc⟩ := src_rep hs (src_agree hsr hL) h3
    refine ⟨.string (strOf l), 0, ?_, .str _ _⟩
    have hfl : flat (List.map f l) = l.map fun c => .int .u8 (c.toNat : Int) := by
      clear hsr hv hsrc
      induction l with
      | nil => rfl
      | cons c l ih => simp only [List.map_cons, flat, List.flatMap_cons, hf, PV.cells] at ih ⊢; rw [ih]; rfl
    simp only [execOp, hv, Sem.run_bind]
    rw [run_convert_bytes_string w t u e A _ c ht he hu]
    rcases hsrc with ⟨rfl, hn⟩ | ⟨ad, us, rfl, hul, _, _, hcell, hrep⟩
    · have : l = [] := by simpa using hn
      subst this
      simp [Conv.bytesToString, Sem.run_pure]
      exact ⟨rfl, rfl⟩
    · have hus : us = (l.map fun c => (c.toNat : Int)).map (Value.int .u8) := by
        apply List.ext_getElem?
        intro i
        by_cases hi : i < l.length
        · have h1 : (flat (List.map f l))[i]? = some (.int .u8 ((l[i].toNat : Nat) : Int)) := by rw [hfl]; simp [hi]
          have hil : i < us.length := by rw [hul, hfl]; simpa using hi
          have := hrep i _ _ h1 (List.getElem?_eq_getElem hil)
          rw [List.getElem?_eq_getElem hil]
          generalize us[i] = y at this
          cases this
          simp [hi]
        · rw [List.getElem?_eq_none (by rw [hul, hfl]; simpa using hi), List.getElem?_eq_none (by simpa using hi)]
      have hlen : (List.map f l).length = us.length := by rw [hul, hfl]; simp
      have hload := run_loadCells_list (P := P) (w := w) ad us hcell
      rw [hlen]
      rw [run_bytesToString w ad us.length c (l.map fun c => (c.toNat : Int)) (by rw [hload, hus]), fold_push]
      simp [strOf, World.drewN]

theorem run_append_str {w : World} {t u ty e : TypeId} {i : TypeInfo} (ht : P.underlying t = some (.slice e)) (hu : P.underlying u = some .string) (hi : P.info? e = some i) (hz : i.zero = some (.int .u8 0)) (hsize : i.size = 1) (hby : i.bytes = 1)
    (v : Value) (n : Nat) (xs : List Value) (hown : w.ownsRow 0 e 1 v n xs) (b : ByteArray) (hb : n + b.size ≤ 140737488355328) :
    ∃ v' w', (Builtin.append_ #[t, u] ty #[v, .string b]).run P w = .ok v' w' ∧ w'.ownsRow 0 e 1 v' (n + b.size) (xs ++ Go.Lib.strCells b) ∧ w.grownBy w' v.ownBlock ∧ (v'.ownBlock = v.ownBlock ∨ v'.ownBlock = some w.heap.size) := by
  obtain ⟨v', w', h1, h2, h3, h4⟩ := Go.Lib.run_append_own_string (P := P) w 0 t u ty e i ht hu hi hz hsize hby v n xs hown b (by simp only [maxLen]; omega) hb (Nat.zero_le _)
  refine ⟨v', w', h1, h2, h3, ?_⟩
  rcases hown.2 with ⟨rfl, rfl⟩ | ⟨g, cap, cur, rfl, hbg, hg, hnc, hcm, hcs, htake⟩
  · by_cases hm : b.size = 0
    · have := h4.2 ⟨rfl, hm⟩; subst this; exact .inl rfl
    · have hr := run_append_nil_string (P := P) w t u ty e i (.int .u8 0) ht hu hi hz b (by omega) (by omega) (by rw [hby]; omega)
      rw [h1] at hr
      injection hr with e1 e2
      subst e1
      exact .inr rfl
  · by_cases hroom : n + b.size ≤ cap
    · have hcs' : cur.size = cap := by simpa using hcs
      have hr := Go.Lib.run_append_room_string (P := P) w t u ty e i ht hu hi hsize g n cap cur hg b hroom (by omega)
      rw [h1] at hr
      injection hr with e1 e2
      subst e1
      exact .inl rfl
    · have hxl : xs.length = n := by simpa using hown.1
      have holds : ∀ j u, xs[j]? = some u → w.cell? ((⟨g, 0, none⟩ : Addr).add j) = some u := hown.cells (g := g) rfl
      have hr := Go.Lib.run_append_grow_string (P := P) w t u ty e i (.int .u8 0) ht hu hi hz ⟨g, 0, none⟩ n cap xs (by rw [hsize]; simpa using hxl) holds b (by omega) (by omega) (by rw [hby]; exact growslice_fits (by omega) (by omega))
      rw [h1] at hr
      injection hr with e1 e2
      subst e1
      exact .inr rfl

theorem run_append_str0 {w : World} {t u ty e : TypeId} {i : TypeInfo} (ht : P.underlying t = some (.slice e)) (hu : P.underlying u = some .string) (hi : P.info? e = some i) (hz : i.zero = some (.int .u8 0)) (hsize : i.size = 1) (hby : i.bytes = 1)
    (ab : Addr) (b : ByteArray) (hb : b.size ≤ 140737488355328) :
    ∃ rv v' w', (Builtin.append_ #[t, u] ty #[.slice (some ab) 0 0, .string b]).run P w = .ok rv w' ∧ (rv = v' ∨ ∃ ab, rv = .slice (some ab) 0 0 ∧ v' = .slice none 0 0) ∧ w'.ownsRow 0 e 1 v' b.size (Go.Lib.strCells b) ∧ w.grownBy w' none ∧ (v'.ownBlock = none ∨ v'.ownBlock = some w.heap.size) := by
  by_cases hm : b.size = 0
  · have hn : Go.Lib.strCells b = [] := List.eq_nil_of_length_eq_zero (by rw [Go.Lib.strCells_length]; exact hm)
    refine ⟨_, .slice none 0 0, w, ?_, .inr ⟨ab, rfl, rfl⟩, by rw [hm, hn]; exact World.ownsRow_nil w 0 e 1, World.grownBy.refl w _, .inl rfl⟩
    have hf := Go.Lib.run_firstCells_string (P := P) w 1 b
    rw [hm] at hf
    simp [Builtin.append_, run_underlying ht, run_underlying hu, sizeOf, typeInfo, hi, hsize, Builtin.lenOf, hm, hf, hn, storeCells]
  · obtain ⟨v', w', h1, h2, h3, h4⟩ := run_append_str (P := P) (ty := ty) ht hu hi hz hsize hby (.slice none 0 0) 0 [] (World.ownsRow_nil w 0 e 1) b (by omega)
    have hr := run_append_nil_string (P := P) w t u ty e i (.int .u8 0) ht hu hi hz b (by omega) (by omega) (by rw [hby]; omega)
    have hg := Go.Lib.run_append_grow_string (P := P) w t u ty e i (.int .u8 0) ht hu hi hz ab 0 0 [] (by simp) (by simp) b (by omega) (by omega) (by rw [hby]; exact growslice_fits (by omega) (by omega))
    have e1 : (b.data.map fun b => Value.int .u8 b.toNat) = (Go.Lib.strCells b).toArray := by
      apply Array.ext'
      simp [Go.Lib.strCells]
    simp only [Nat.zero_add, List.nil_append, Array.empty_append] at hg h2
    rw [e1, h1] at hr
    rw [← hr] at hg
    refine ⟨v', v', w', hg, .inl rfl, h2, h3, h4⟩
theorem does_append_str {d : Nat} {t u e : TypeId} {x y : Operand} {ty : TypeId} {sz by_ : Nat} {z : List PV} {b : ByteArray} {p : PV} {xs : List PV} {be bs : Nat} {U : List ((Nat × Nat) × Option AObj)} (hx : s.ev x = p) (hy : s.ev y = .str b)
    (ht : tyOf P t = some ⟨.slice e, sz, by_, z⟩) (he : tyOf P e = some ⟨.int .u8, 1, 1, [.int .u8 0]⟩) (hz : (P.info? e).bind (·.zero) = some (.int .u8 0)) (hu : P.underlying u = some .string) (hbs : s.base p = some (xs, be, bs, U)) (hbe : p = .nil ∨ (be = e ∧ bs = 1)) (hmax : xs.length + b.size ≤ 140737488355328) :
    Does P N ops ⟨some d, .call ⟨.builtin .append, #[x, y], #[t, u]⟩, ty, pos, after, guard⟩ s ⟨[], .own d (s.next d), ((d, s.next d), some (.arr e 1 false (xs ++ (bytesOf b).map fun c => .int .u8 (c.toNat : Int)))) :: U, [d]⟩ := by
  intro s' ha hlt w0 Mv J a w hs Q
  have hnx := ha.nx d List.mem_cons_self
  have hrx := rep_ev hs (x := x) fun t ht => hlt t (looks_op (by subst ht; simp [Op.operands, Call.operands]))
  have hry := rep_ev hs (x := y) fun t ht => hlt t (looks_op (by subst ht; simp [Op.operands, Call.operands]))
  rw [ev_agree ha (by simp [Op.operands, Call.operands]), hx] at hrx
  rw [ev_agree ha (by simp [Op.operands, Call.operands]), hy] at hry
  obtain ⟨i, dd, h1, h2, h3, h4, h5, h6⟩ := tyOf_spec he
  dsimp only at h3 h4 h5 h6
  have hzero : i.zero = some (.int .u8 0) := by rw [h1] at hz; exact hz
  generalize hcy : a.eval y = cy at hry
  cases hry
  have hbase : ∃ v old zs, (a.eval x = v ∨ ∃ ab, a.eval x = .slice (some ab) 0 0 ∧ v = .slice none 0 0) ∧ w.ownsRow 0 e 1 v xs.length zs ∧ (∀ x ∈ xs, x.cells.length = 1) ∧ (∀ c ∈ flat xs, c.one = true) ∧ (∀ (k : Nat) (c : PV) (y : Value), (flat xs)[k]? = some c → zs[k]? = some y → Rep w (Mut s' J) noSite c y) ∧
      (∀ d n, old = some (d, n) → ∃ o, s'.heap d n = some o ∧ o.mut = true ∧ J d n = some v) ∧ (old = none → blockOf v = none) ∧ (∀ a m o, look U a m o = if old = some (a, m) then none else o) := by
    unfold St.base at hbs
    split at hbs
    · injection hbs with hbs; injection hbs with e1 e2; injection e2 with e2 e3; injection e3 with e3 e4; subst e1 e2 e3 e4
      generalize hcx : a.eval x = cx at hrx
      cases hrx
      refine ⟨_, none, [], .inl rfl, World.ownsRow_nil _ _ _ _, ?_, ?_, ?_, ?_, fun _ => rfl, ?_⟩ <;> simp [flat, look]
    · rename_i dn nn
      split at hbs
      · rename_i e' sz' xs' hb
        injection hbs with hbs; injection hbs with e1 e2; injection e2 with e2 e3; injection e3 with e3 e4; subst e1 e2 e3 e4
        rcases hbe with hbe | ⟨rfl, rfl⟩
        · cases hbe
        have hb' : s'.heap dn nn = some (.arr e' 1 false xs') := (ha.up ((dn, nn), none) (by simp)).trans hb
        obtain ⟨u, zs, hJ, hown, hp0, hw, ho, hr⟩ := hs.obj dn nn _ hb'
        have hu : a.eval x = u ∨ ∃ ab, a.eval x = .slice (some ab) 0 0 ∧ u = .slice none 0 0 := own_val hrx hJ
        refine ⟨u, some (dn, nn), zs, hu, hown, hw, ho, hr, ?_, by simp, ?_⟩
        · intro d' n' e
          injection e with e
          injection e with e1 e2
          subst e1 e2
          exact ⟨_, hb', rfl, hJ⟩
        · intro a' m' o'
          simp only [look, Option.some.injEq, Prod.mk.injEq]
          by_cases hc : a' = dn ∧ m' = nn
          · rw [if_pos hc, if_pos ⟨hc.1.symm, hc.2.symm⟩]
          · rw [if_neg hc, if_neg (fun h => hc ⟨h.1.symm, h.2.symm⟩)]
      · cases hbs
    · cases hbs
  obtain ⟨v, old, zs, hvx, hown, hw, ho, hr, hold, hnone, hlook⟩ := hbase
  have hrun : ∃ rv v' w', (Builtin.append_ #[t, u] ty #[a.eval x, .string b]).run P w = .ok rv w' ∧ (rv = v' ∨ ∃ ab, rv = .slice (some ab) 0 0 ∧ v' = .slice none 0 0) ∧ w'.ownsRow 0 e 1 v' (xs.length + b.size) (zs ++ Go.Lib.strCells b) ∧ w.grownBy w' v.ownBlock ∧ (v'.ownBlock = v.ownBlock ∨ v'.ownBlock = some w.heap.size) := by
    rcases hvx with hvx | ⟨ab, hvx, rfl⟩
    · obtain ⟨v', w', k1, k2, k3, k4⟩ := run_append_str (P := P) (ty := ty) (ty_slice ht) hu h1 hzero h4 h5 v xs.length zs hown b hmax
      exact ⟨v', v', w', by rw [hvx]; exact k1, .inl rfl, k2, k3, k4⟩
    · have hz0 : xs.length = 0 := nil_own hown
      have hzl : zs = [] := List.eq_nil_of_length_eq_zero (by rw [hown.1, hz0, Nat.zero_mul])
      obtain ⟨rv, v', w', k1, k2, k3, k4, k5⟩ := run_append_str0 (P := P) (w := w) (ty := ty) (ty_slice ht) hu h1 hzero h4 h5 ab b (by omega)
      exact ⟨rv, v', w', by rw [hvx]; exact k1, k2, by rw [hz0, hzl, Nat.zero_add]; exact k3, k4, k5⟩
  obtain ⟨rv, v', w', hrun, hrv, hown', hgr, hbl⟩ := hrun
  obtain ⟨A1, c1, hvf⟩ := own_form hown
  obtain ⟨A2, c2, hvf'⟩ := own_form hown'
  have hzl : zs.length = (flat xs).length := by rw [hown.1, flat_length hw]
  have hb1 := blockOf_own hvf
  have hb2 := blockOf_own hvf'
  have hgr' : w.grownBy w' (blockOf v) := by rw [hb1]; exact hgr
  have hbl' : blockOf v' = blockOf v ∨ blockOf v' = some w.heap.size := by rw [hb1, hb2]; exact hbl
  let ys : List PV := (bytesOf b).map fun c => .int .u8 (c.toNat : Int)
  have hyl : ys.length = b.size := by simp [ys, bytesOf_length]
  have hfy : flat ys = ys := by
    show flat ((bytesOf b).map _) = (bytesOf b).map _
    generalize bytesOf b = l
    induction l with
    | nil => rfl
    | cons c l ih => simp only [List.map_cons, flat, List.flatMap_cons, PV.cells] at ih ⊢; rw [ih]; rfl
  have hstep := hs.regrow d (o' := .arr e 1 false (xs ++ ys)) (v := v) (v' := v') (w' := w') old hold hnone hgr' (run_drawn _ hrun) hbl'
    (s' := { s'.app (some d) ⟨[], .own d (s.next d), ((d, s.next d), some (.arr e 1 false (xs ++ ys))) :: U, [d]⟩ with env := s'.env }) rfl rfl
    (fun a m => by
      show look _ a m (s'.heap a m) = _
      simp only [look]
      rw [hnx, hlook])
    (fun a => by
      show s'.next a + cnt [d] a = _
      simp only [cnt, Nat.add_zero]
      split <;> simp_all)
    (fun M J' hJ' hmono => ⟨v', zs ++ Go.Lib.strCells b, hJ', by rw [List.length_append, hyl]; exact hown', by decide, fun x hx => by
        rcases List.mem_append.1 hx with hx | hx
        · exact hw x hx
        · simp only [ys, List.mem_map] at hx; obtain ⟨c, _, rfl⟩ := hx; rfl, fun c hc => by
        rw [flat_append] at hc
        rcases List.mem_append.1 hc with hc | hc
        · exact ho c hc
        · rw [hfy] at hc; simp only [ys, List.mem_map] at hc; obtain ⟨c, _, rfl⟩ := hc; rfl, fun k c u hc hu => by
        rw [flat_append] at hc
        by_cases hk : k < (flat xs).length
        · rw [List.getElem?_append_left hk] at hc
          rw [List.getElem?_append_left (by omega)] at hu
          exact hmono _ _ _ (hr k c u hc hu)
        · rw [List.getElem?_append_right (by omega)] at hc
          rw [List.getElem?_append_right (by omega), hzl] at hu
          rw [hfy] at hc
          simp only [ys, bytesOf, List.getElem?_map, Option.map_eq_some_iff] at hc
          simp only [Go.Lib.strCells, List.getElem?_map, Option.map_eq_some_iff] at hu
          obtain ⟨q, h1, rfl⟩ := hc
          obtain ⟨q', h2, rfl⟩ := hu
          rw [h1] at h2
          injection h2 with h2
          subst h2
          exact .int _ _ _⟩)
  unfold Oper.wp execOp
  simp only [resolve, invoke, builtin, Sem.run_bind, Sem.run_pure, Result.andThen_ok, List.map_toArray, List.map_cons, List.map_nil, hcy, hrun]
  rw [Oper.upon_value]
  have hrep : Rep w' (Mut { s'.app (some d) ⟨[], .own d (s.next d), ((d, s.next d), some (.arr e 1 false (xs ++ ys))) :: U, [d]⟩ with env := s'.env } (setJ J d (s'.next d) v')) (setJ J d (s'.next d) v') (.own d (s.next d)) rv := by
    rcases hrv with rfl | ⟨ab, rfl, rfl⟩
    · subst hvf'
      exact .own _ _ _ _ _ _ (by rw [← hnx]; simp [setJ])
    · exact .own0 _ _ _ _ (by rw [← hnx]; simp [setJ])
  refine ⟨_, hstep.put_of (s := s') (some d) (pv := .own d (s.next d)) (v := rv) hrep ?_ rfl ?_ ?_ rfl⟩
  · rfl
  · rfl
  · rfl
theorem do_append_str {d : Nat} {t u e : TypeId} {x y : Operand} {ty : TypeId} {sz by_ : Nat} {z : List PV} {b : ByteArray} {p : PV} {l : List UInt8} {f : UInt8 → PV} {be bs : Nat} {U : List ((Nat × Nat) × Option AObj)} (hx : s.ev x = p) (hy : s.ev y = .str b)
    (ht : tyOf P t = some ⟨.slice e, sz, by_, z⟩) (he : tyOf P e = some ⟨.int .u8, 1, 1, [.int .u8 0]⟩) (hz : (P.info? e).bind (·.zero) = some (.int .u8 0)) (hu : P.underlying u = some .string) (hbs : s.base p = some (List.map f l, be, bs, U)) (hbe : p = .nil ∨ (be = e ∧ bs = 1)) (hf : ∀ c, f c = .int .u8 (c.toNat : Int))
    (hmax : (l ++ bytesOf b).length ≤ 140737488355328) :
    Does P N ops ⟨some d, .call ⟨.builtin .append, #[x, y], #[t, u]⟩, ty, pos, after, guard⟩ s ⟨[], .own d (s.next d), ((d, s.next d), some (.arr e 1 false (List.map f (l ++ bytesOf b)))) :: U, [d]⟩ := by
  have h := does_append_str (P := P) (N := N) (ops := ops) (pos := pos) (after := after) (guard := guard) (d := d) (ty := ty) hx hy ht he hz hu hbs hbe (by rw [List.length_map]; rw [List.length_append, bytesOf_length] at hmax; exact hmax)
  have e : List.map f l ++ ((bytesOf b).map fun c => PV.int .u8 (c.toNat : Int)) = List.map f (l ++ bytesOf b) := by rw [List.map_append, funext hf]
  rw [e] at h
  exact h
end Go.Proofs.Ytejimiedoibkcaa.Ab
