import Derived.Test.YtmompdklolomfaaAbOps4
import Derived.ArgAppend
import Derived.Laws.BytesArg
import Derived.Lib.AppendStr
namespace Go.Proofs.Ytmompdklolomfaa.Ab
open Go Go.RowKit
set_option linter.unusedVariables false
set_option linter.unusedSimpArgs false
variable {P : Program} {N : Nat} {ops : Array Oper} {s : St} {dst : Option Tmp} {type : TypeId} {pos : String} {after : Array Edge} {guard : Option (Nat × Bool)}
theorem Sim.regrow {w0 : World} {Mv : Nat → Prop} {J : Site} {a : Act} {w w' : World} (h : Sim w0 Mv N J s a w) (dd : Nat) {o' : AObj} {v v' : Value} (old : Option (Nat × Nat))
  (hold : ∀ d n, old = some (d, n) → ∃ o, s.heap d n = some o ∧ o.mut = true ∧ J d n = some v) (hnone : old = none → blockOf v = none) (hw : w.grownBy w' (blockOf v)) (hd : w.drawn ≤ w'.drawn) (hb : blockOf v' = blockOf v ∨ blockOf v' = some w.heap.size)
  {s' : St} (he : s'.env = s.env) (hX : s'.X = s.X) (hh : ∀ a m, s'.heap a m = if a = dd ∧ m = s.next dd then some o' else if old = some (a, m) then none else s.heap a m) (hn : ∀ a, s'.next a = if a = dd then s.next dd + 1 else s.next a)
  (hok : ∀ M J', J' dd (s.next dd) = some v' → (∀ J1 pv u, Rep w (Mut s J) J1 pv u → Rep w' M J1 pv u) → ObjOk w' M J' dd (s.next dd) o') : Sim w0 Mv N (setJ J dd (s.next dd) v') s' a w' := by
 have hnew := h.nxt dd (s.next dd) (Nat.le_refl _)
 have hJ : ∀ d' n' u, J d' n' = some u → setJ J dd (s.next dd) v' d' n' = some u := by
  intro d' n' u hu
  unfold setJ
  split
  ·rename_i hc
   obtain ⟨rfl, rfl⟩ := hc
   rw [hnew.2] at hu; cases hu
  ·exact hu
 have hJo : ∀ d' n' u, ¬ (d' = dd ∧ n' = s.next dd) → setJ J dd (s.next dd) v' d' n' = some u → J d' n' = some u := by
  intro d' n' u hc hu
  simpa [setJ, hc] using hu
 have hself : setJ J dd (s.next dd) v' dd (s.next dd) = some v' := by simp [setJ]
 have hmut : ∀ g, blockOf v = some g → OMut s J g := by
  intro g hg
  cases ho : old with
  | none => rw [hnone ho] at hg; cases hg
  | some p =>
   obtain ⟨o, h1, h2, h3⟩ := hold p.1 p.2 ho
   exact ⟨p.1, p.2, o, v, h1, h2, h3, hg⟩
 have hblt : ∀ g, blockOf v = some g → g < w.heap.size := fun g hg => h.omut_lt (hmut g hg)
 have hM : ∀ b, b < w.heap.size → OMut s' (setJ J dd (s.next dd) v') b → OMut s J b := by
  rintro b hb' ⟨d', n', o1, v1, h1, h2, h3, h4⟩
  rw [hh] at h1
  by_cases hc : d' = dd ∧ n' = s.next dd
  ·obtain ⟨rfl, rfl⟩ := hc
   rw [hself] at h3
   injection h3 with h3
   subst h3
   rcases hb with hb | hb
   ·exact hmut b (hb ▸ h4)
   ·rw [hb] at h4; injection h4 with h4; omega
  ·rw [if_neg hc] at h1
   split at h1
   ·cases h1
   ·exact ⟨d', n', o1, v1, h1, h2, hJo _ _ _ hc h3, h4⟩
 have hsepold : ∀ d' n' o1 v1 g, s.heap d' n' = some o1 → old ≠ some (d', n') → J d' n' = some v1 → blockOf v1 = some g → blockOf v ≠ some g := by
  intro d' n' o1 v1 g h1 hne h2 h3 h4
  cases ho : old with
  | none => rw [hnone ho] at h4; cases h4
  | some p =>
   obtain ⟨o, h5, h6, h7⟩ := hold p.1 p.2 ho
   obtain ⟨rfl, rfl⟩ := h.sep _ _ _ _ _ _ _ _ g h1 h5 h2 h7 h3 h4
   exact hne ho
 have hM' : ∀ b, b < w.heap.size → Mut s' (setJ J dd (s.next dd) v') b → Mut s J b := fun b hlt hm => by
  rcases hm with hm | hm
  ·exact .inl (hX ▸ hm)
  ·exact .inr (hM b hlt hm)
 have hwb : ∀ b, b < w.heap.size → ¬ Mut s J b → w'.heap[b]? = w.heap[b]? := fun b hlt hnm => hw.block b hlt (fun e => hnm (.inr (hmut b e.symm)))
 refine h.update hw hd (fun g hg => hmut g hg) hJ he hX hM (fun d' n' o1 h1 => ?_) ?_ (fun d' n' hle => ?_) (fun d' n' o1 v1 g h1 h2 h3 hx => ?_)
 ·rw [hh] at h1
  by_cases hc : d' = dd ∧ n' = s.next dd
  ·obtain ⟨rfl, rfl⟩ := hc
   simp only [and_self, if_true, Option.some.injEq] at h1
   subst h1
   exact .inr (hok _ _ hself fun J1 pv u hr => hr.mono hwb hM' (fun _ _ _ h => h))
  ·rw [if_neg hc] at h1
   split at h1
   ·cases h1
   ·rename_i hne
    exact .inl ⟨h1, fun v1 g hv1 hg1 heq => hsepold _ _ _ _ _ h1 hne hv1 hg1 heq⟩
 ·have hnewold : ∀ d2 n2 o2 v2 g, s'.heap d2 n2 = some o2 → ¬ (d2 = dd ∧ n2 = s.next dd) → setJ J dd (s.next dd) v' d2 n2 = some v2 → blockOf v' = some g → blockOf v2 = some g → False := by
   intro d2 n2 o2 v2 g h2 hc h4 h5 h6
   rw [hh, if_neg hc] at h2
   split at h2
   ·cases h2
   ·rename_i hne
    have hj := hJo _ _ _ hc h4
    rcases hb with hb | hb
    ·exact hsepold _ _ _ _ g h2 hne hj h6 (hb ▸ h5)
    ·rw [hb] at h5
     injection h5 with h5
     obtain ⟨u', hu', hlt⟩ := (h.obj _ _ _ h2).blk
     rw [hj] at hu'
     injection hu' with e
     subst e
     have := hlt g h6
     omega
  intro d1 n1 d2 n2 o1 o2 v1 v2 g h1 h2 h3 h4 h5 h6
  by_cases hc1 : d1 = dd ∧ n1 = s.next dd <;> by_cases hc2 : d2 = dd ∧ n2 = s.next dd
  ·exact ⟨hc1.1.trans hc2.1.symm, hc1.2.trans hc2.2.symm⟩
  ·obtain ⟨rfl, rfl⟩ := hc1
   rw [hself] at h3
   injection h3 with h3
   subst h3
   exact (hnewold _ _ _ _ g h2 hc2 h4 h5 h6).elim
  ·obtain ⟨rfl, rfl⟩ := hc2
   rw [hself] at h4
   injection h4 with h4
   subst h4
   exact (hnewold _ _ _ _ g h1 hc1 h3 h6 h5).elim
  ·rw [hh, if_neg hc1] at h1
   rw [hh, if_neg hc2] at h2
   split at h1
   ·cases h1
   ·split at h2
    ·cases h2
    ·exact h.sep _ _ _ _ _ _ _ _ g h1 h2 (hJo _ _ _ hc1 h3) (hJo _ _ _ hc2 h4) h5 h6
 ·rw [hn] at hle
  have hc : ¬ (d' = dd ∧ n' = s.next dd) := by
   rintro ⟨rfl, rfl⟩
   simp at hle
   omega
  have hle' : s.next d' ≤ n' := by
   split at hle
   ·rename_i e; subst e; omega
   ·exact hle
  have := h.nxt d' n' hle'
  refine ⟨?_, by simp [setJ, hc, this.2]⟩
  rw [hh, if_neg hc]
  split
  ·rfl
  ·exact this.1
 ·by_cases hc : d' = dd ∧ n' = s.next dd
  ·obtain ⟨rfl, rfl⟩ := hc
   rw [hself] at h2
   injection h2 with h2
   subst h2
   rcases hb with hb | hb
   ·cases ho : old with
    | none => rw [hb, hnone ho] at h3; cases h3
    | some p =>
     obtain ⟨o, h5, h6, h7⟩ := hold p.1 p.2 ho
     exact h.sepX _ _ _ _ g h5 h7 (hb ▸ h3) hx
   ·rw [hb] at h3
    injection h3 with h3
    have := h.xlt g hx
    omega
  ·rw [hh, if_neg hc] at h1
   split at h1
   ·cases h1
   ·exact h.sepX _ _ _ _ g h1 (hJo _ _ _ hc h2) h3 hx
def St.base (s : St) : PV → Option (List PV × Nat × Nat × List ((Nat × Nat) × Option AObj))
 | .nil => some ([], 0, 0, [])
 | .own d n => match s.heap d n with | some (.arr e sz false xs) => some (xs, e, sz, [((d, n), none)]) | _ => none
 | _ => none
def St.src (s : St) : PV → Option (List PV × Nat × List (Nat × Nat))
 | .nil => some ([], 0, [])
 | .sl sz xs => some (xs, sz, [])
 | .own d n => match s.heap d n with | some (.arr e sz fz xs) => some (xs, sz, [(d, n)]) | _ => none
 | _ => none
theorem src_rep {w0 : World} {Mv : Nat → Prop} {J : Site} {a : Act} {w : World} (h : Sim w0 Mv N J s a w) {p : PV} {ys : List PV} {sz : Nat} {L : List (Nat × Nat)} (hp : s.src p = some (ys, sz, L)) {v : Value} (hv : Rep w (Mut s J) J p v) :
  ∃ (A : Option Addr) (c : Nat), v = .slice A ys.length c ∧ ((A = none ∧ ys = []) ∨ ∃ (ad : Addr) (us : List Value), A = some ad ∧ us.length = (flat ys).length ∧ (ys = [] ∨ (0 < sz ∧ ∀ x ∈ ys, x.cells.length = sz)) ∧ (∀ c ∈ flat ys, c.one = true) ∧
   (∀ (j : Nat) (u : Value), us[j]? = some u → w.cell? (ad.add j) = some u) ∧ ∀ (k : Nat) (c : PV) (u : Value), (flat ys)[k]? = some c → us[k]? = some u → Rep w (Mut s J) noSite c u) := by
 unfold St.src at hp
 split at hp
 ·injection hp with hp; injection hp with hp; subst hp
  cases hv
  exact ⟨none, 0, rfl, .inl ⟨rfl, rfl⟩⟩
 ·rename_i sz0 xs0
  injection hp with hp; injection hp with hp hsz; injection hsz with hsz; subst hp hsz
  cases hv with
  | sl0 => exact ⟨none, _, rfl, .inl ⟨rfl, rfl⟩⟩
  | sl _ _ _ ad cap g h1 h2 h3 h4 h5 h6 h7 =>
   refine ⟨some ad, cap, rfl, .inr ⟨ad, (List.range (flat xs0).length).map g, rfl, by simp, .inr ⟨h1, h2⟩, h3, fun j u hu => ?_, fun k c u hc hu => ?_⟩⟩
   ·rw [List.getElem?_map, Option.map_eq_some_iff] at hu
    obtain ⟨k, hk, rfl⟩ := hu
    rw [List.getElem?_eq_some_iff] at hk
    obtain ⟨hl, hk⟩ := hk
    simp at hl hk
    subst hk
    exact h6 _ _ (List.getElem?_eq_getElem hl)
   ·have hl := (List.getElem?_eq_some_iff.1 hc).1
    simp [hl] at hu
    subst hu
    exact h7 k c hc
 ·rename_i d n
  split at hp
  ·rename_i e sz' fz xs hb
   injection hp with hp; injection hp with hp hsz; injection hsz with hsz; subst hp hsz
   obtain ⟨u, ys', hJ, hown, hp0, hw, ho, hr⟩ := h.obj d n _ hb
   cases hv with
   | own0 _ _ _ ab hJ' =>
    rw [hJ] at hJ'
    injection hJ' with hu
    subst hu
    have hx : xs = [] := List.eq_nil_of_length_eq_zero (nil_own hown)
    subst hx
    exact ⟨some ab, 0, rfl, .inr ⟨ab, [], rfl, by simp [flat], .inl rfl, by simp [flat], by simp, by simp [flat]⟩⟩
   | own _ _ _ A len cap hJ' =>
    rw [hJ] at hJ'
    injection hJ' with hu
    subst hu
    rcases hown.2 with ⟨he, h0⟩ | ⟨g, cap', cur, he, _, hh, _⟩
    ·injection he with e1 e2 e3
     subst e1 e2 e3
     have : xs = [] := List.eq_nil_of_length_eq_zero h0
     subst this
     exact ⟨none, 0, rfl, .inl ⟨rfl, rfl⟩⟩
    ·injection he with e1 e2 e3
     subst e1 e2 e3
     exact ⟨_, _, rfl, .inr ⟨_, ys', rfl, by rw [hown.1, flat_length hw], .inr ⟨hp0, hw⟩, ho, hown.cells (g := g) rfl, hr⟩⟩
  ·cases hp
 ·cases hp
theorem src_agree {s s' : St} {p : PV} {r : List PV × Nat × List (Nat × Nat)} (hp : s.src p = some r) (h : ∀ q ∈ r.2.2, s'.heap q.1 q.2 = s.heap q.1 q.2) : s'.src p = some r := by
 unfold St.src at hp ⊢
 split at hp
 ·exact hp
 ·exact hp
 ·rename_i d n
  split at hp
  ·rename_i e sz' fz xs hb
   injection hp with hp
   subst hp
   rw [h (d, n) List.mem_cons_self, hb]
  ·cases hp
 ·cases hp
theorem run_append_none {w : World} {t ty e : TypeId} {ei : TyI} (ht : P.underlying t = some (.slice e)) (he : tyOf P e = some ei) (A : Option Addr) (n c c' : Nat) (hc : n ≤ c) : (Builtin.append_ #[t, t] ty #[.slice A n c, .slice none 0 c']).run P w = .ok (.slice A n c) w := by
 cases A <;> simp [Builtin.append_, run_underlying ht, run_size he, Builtin.lenOf, Builtin.firstCells, hc, storeCells]
theorem run_append_empty {w : World} {t ty e : TypeId} {ei : TyI} (ht : P.underlying t = some (.slice e)) (he : tyOf P e = some ei) (a b : Addr) (c : Nat) : (Builtin.append_ #[t, t] ty #[.slice (some a) 0 0, .slice (some b) 0 c]).run P w = .ok (.slice (some a) 0 0) w := by
 simp [Builtin.append_, run_underlying ht, run_size he, Builtin.lenOf, Builtin.firstCells, loadCells, loadCellsFrom, storeCells]
theorem does_append {d : Nat} {t e : TypeId} {x y : Operand} {ty : TypeId} {sz by_ : Nat} {z : List PV} {ei : TyI} {p q : PV} {xs ys : List PV} {be bs ysz : Nat} {U : List ((Nat × Nat) × Option AObj)} {L : List (Nat × Nat)} (hx : s.ev x = p) (hy : s.ev y = q)
  (ht : tyOf P t = some ⟨.slice e, sz, by_, z⟩) (he : tyOf P e = some ei) (hz : ei.zero.length = ei.size) (hz0 : ei.zero ≠ []) (hbs : s.base p = some (xs, be, bs, U)) (hbe : p = .nil ∨ (be = e ∧ bs = ei.size)) (hsr : s.src q = some (ys, ysz, L)) (hys : ys = [] ∨ ysz = ei.size)
  (hbytes : (xs.length + ys.length) * ei.bytes ≤ 140737488355328) (hmax : xs.length + ys.length ≤ 140737488355328) :
  Does P N ops ⟨some d, .call ⟨.builtin .append, #[x, y], #[t, t]⟩, ty, pos, after, guard⟩ s ⟨L, .own d (s.next d), ((d, s.next d), some (.arr e ei.size false (xs ++ ys))) :: U, [d]⟩ := by
 intro s' ha hlt w0 Mv J a w hs Q
 have hnx := ha.nx d List.mem_cons_self
 have hrx := rep_ev hs (x := x) fun t ht => hlt t (looks_op (by subst ht; simp [Op.operands, Call.operands]))
 have hry := rep_ev hs (x := y) fun t ht => hlt t (looks_op (by subst ht; simp [Op.operands, Call.operands]))
 rw [ev_agree ha (by simp [Op.operands, Call.operands]), hx] at hrx
 rw [ev_agree ha (by simp [Op.operands, Call.operands]), hy] at hry
 obtain ⟨i, dd, h1, h2, h3, h4, h5, h6⟩ := tyOf_spec he
 cases hzv : i.zero with
 | none => rw [hzv] at h6; exact absurd h6 hz0
 | some zv =>
 rw [hzv] at h6
 dsimp only at h6
 have hzs : zv.cells.size = ei.size := by rw [← hz, h6]; simp
 have hsp : 0 < ei.size := by rw [← hz]; exact List.length_pos_iff.2 hz0
 obtain ⟨A, c, hv, hsrc⟩ := src_rep hs (src_agree hsr ha.rd) hry
 have hbase : ∃ v old zs, (a.eval x = v ∨ ∃ ab, a.eval x = .slice (some ab) 0 0 ∧ v = .slice none 0 0) ∧ w.ownsRow 0 e ei.size v xs.length zs ∧ (∀ x ∈ xs, x.cells.length = ei.size) ∧ (∀ c ∈ flat xs, c.one = true) ∧ (∀ (k : Nat) (c : PV) (y : Value), (flat xs)[k]? = some c → zs[k]? = some y → Rep w (Mut s' J) noSite c y) ∧
   (∀ d n, old = some (d, n) → ∃ o, s'.heap d n = some o ∧ o.mut = true ∧ J d n = some v) ∧ (old = none → blockOf v = none) ∧ (∀ a m o, look U a m o = if old = some (a, m) then none else o) := by
  unfold St.base at hbs
  split at hbs
  ·injection hbs with hbs; injection hbs with e1 e2; injection e2 with e2 e3; injection e3 with e3 e4; subst e1 e2 e3 e4
   generalize hcx : a.eval x = cx at hrx
   cases hrx
   refine ⟨_, none, [], .inl rfl, World.ownsRow_nil _ _ _ _, ?_, ?_, ?_, ?_, fun _ => rfl, ?_⟩ <;> simp [flat, look]
  ·rename_i dn nn
   split at hbs
   ·rename_i e' sz' xs' hb
    injection hbs with hbs; injection hbs with e1 e2; injection e2 with e2 e3; injection e3 with e3 e4; subst e1 e2 e3 e4
    rcases hbe with hbe | ⟨rfl, rfl⟩
    ·cases hbe
    have hb' : s'.heap dn nn = some (.arr e' ei.size false xs') := (ha.up ((dn, nn), none) (by simp)).trans hb
    obtain ⟨u, zs, hJ, hown, hp0, hw, ho, hr⟩ := hs.obj dn nn _ hb'
    have hu : a.eval x = u ∨ ∃ ab, a.eval x = .slice (some ab) 0 0 ∧ u = .slice none 0 0 := own_val hrx hJ
    refine ⟨u, some (dn, nn), zs, hu, hown, hw, ho, hr, ?_, by simp, ?_⟩
    ·intro d' n' e
     injection e with e
     injection e with e1 e2
     subst e1 e2
     exact ⟨_, hb', rfl, hJ⟩
    ·intro a' m' o'
     simp only [look, Option.some.injEq, Prod.mk.injEq]
     by_cases hc : a' = dn ∧ m' = nn
     ·rw [if_pos hc, if_pos ⟨hc.1.symm, hc.2.symm⟩]
     ·rw [if_neg hc, if_neg (fun h => hc ⟨h.1.symm, h.2.symm⟩)]
   ·cases hbs
  ·cases hbs
 obtain ⟨v, old, zs, hvx, hown, hw, ho, hr, hold, hnone, hlook⟩ := hbase
 have hrun : ∃ rv v' w' news, (Builtin.append_ #[t, t] ty #[a.eval x, .slice A ys.length c]).run P w = .ok rv w' ∧ (rv = v' ∨ ∃ ab, rv = .slice (some ab) 0 0 ∧ v' = .slice none 0 0) ∧ w'.ownsRow 0 e ei.size v' (xs.length + ys.length) (zs ++ news) ∧ w.grownBy w' v.ownBlock ∧ (v'.ownBlock = v.ownBlock ∨ v'.ownBlock = some w.heap.size) ∧
   (∀ x ∈ ys, x.cells.length = ei.size) ∧ (∀ c ∈ flat ys, c.one = true) ∧ news.length = (flat ys).length ∧ ∀ (k : Nat) (c : PV) (u : Value), (flat ys)[k]? = some c → news[k]? = some u → Rep w (Mut s' J) noSite c u := by
  rcases hsrc with ⟨rfl, rfl⟩ | ⟨ad, us, rfl, hul, hwy, hoy, hcell, hry'⟩
  ·rcases hvx with hvx | ⟨ab, hvx, rfl⟩
   case inr =>
    rw [hvx]
    exact ⟨_, .slice none 0 0, w, [], run_append_none (ty_slice ht) he _ _ _ _ (Nat.le_refl _), .inr ⟨ab, rfl, rfl⟩, by simpa using hown, World.grownBy.refl w _, .inl rfl, by simp, by simp [flat], by simp [flat], by simp [flat]⟩
   rw [hvx]
   obtain ⟨A', c', rfl⟩ := own_form hown
   have hle : xs.length ≤ c' := by
    rcases hown.2 with ⟨e1, h0⟩ | ⟨g, cap, cur, e1, _, _, hle, _⟩
    ·omega
    ·injection e1 with _ _ e3; omega
   refine ⟨_, _, w, [], run_append_none (ty_slice ht) he _ _ _ _ hle, .inl rfl, by simpa using hown, World.grownBy.refl w _, .inl rfl, by simp, by simp [flat], by simp [flat], by simp [flat]⟩
  ·have hwy' : ∀ x ∈ ys, x.cells.length = ei.size := by
    rcases hwy with h | ⟨_, h⟩
    ·subst h; simp
    ·rcases hys with h' | h'
     ·subst h'; simp
     ·rw [h'] at h; exact h
   have hone : ∀ u ∈ us, u.oneCell' = true := by
    intro u hu
    obtain ⟨k, hk⟩ := List.getElem?_of_mem hu
    have hlt' : k < (flat ys).length := by rw [← hul]; exact (List.getElem?_eq_some_iff.1 hk).1
    exact (hry' k _ u (List.getElem?_eq_getElem hlt') hk).oneCell (hoy _ (List.getElem_mem hlt'))
   rcases hvx with hvx | ⟨ab, hvx, rfl⟩
   case inr =>
    rw [hvx]
    have hz : xs.length = 0 := nil_own hown
    have hzl : zs = [] := List.eq_nil_of_length_eq_zero (by rw [hown.1, hz, Nat.zero_mul])
    subst hzl
    by_cases hy0 : ys.length = 0
    ·have hys0 : ys = [] := List.eq_nil_of_length_eq_zero hy0
     subst hys0
     exact ⟨_, .slice none 0 0, w, [], run_append_empty (ty_slice ht) he _ _ _, .inr ⟨ab, rfl, rfl⟩, by simpa using hown, World.grownBy.refl w _, .inl rfl, by simp, by simp [flat], by simp [flat], by simp [flat]⟩
    ·obtain ⟨v', w', e1, e2, e3⟩ := run_append_arg_grows (P := P) w t ty e i zv ei.size ei.bytes (ty_slice ht) h1 hzv h4 h5 hzs hsp ab 0 0 [] (by simp) (by simp) ad ys.length c us (by rw [hul, flat_length hwy']) hcell (by omega) (by simp only [maxLen]; omega) (by rw [Nat.zero_add]; rw [hz, Nat.zero_add] at hbytes; exact hbytes)
     rw [Nat.zero_add] at e2
     have hbl : v'.ownBlock = some w.heap.size := by
      have hr := run_append_grow (P := P) w t ty e i zv (ty_slice ht) h1 hzv ab 0 0 [] (by simp) (by simp) ad ys.length c us (by rw [hul, flat_length hwy', h4]) hcell (by omega) (by omega) (growslice_fits (by omega) (by rw [Nat.zero_add, h5]; rw [hz, Nat.zero_add] at hbytes; exact hbytes))
      rw [e1] at hr
      injection hr with hr _
      subst hr
      rfl
     exact ⟨v', v', w', us, e1, .inl rfl, by rw [hz, Nat.zero_add]; exact ⟨e2.1, e2.2.imp id fun ⟨g, cap, cur, k1, k2, k3⟩ => ⟨g, cap, cur, k1, Nat.zero_le _, k3⟩⟩, e3, .inr hbl, hwy', hoy, hul, hry'⟩
   rw [hvx]
   obtain ⟨v', w', e1, e2, e3, _, e5⟩ := run_append_own_at (P := P) w 0 t ty e i zv ei.size ei.bytes (ty_slice ht) h1 hzv h4 h5 hzs hsp v xs.length zs hown ad ys.length c us (by rw [hul, flat_length hwy']) hcell hone (by simp only [maxLen]; omega) hbytes (Nat.zero_le _)
   exact ⟨v', v', w', us, e1, .inl rfl, e2, e3, e5, hwy', hoy, hul, hry'⟩
 obtain ⟨rv, v', w', news, hrun, hrv, hown', hgr, hbl, hwy, hoy, hnl, hry'⟩ := hrun
 obtain ⟨A1, c1, hvf⟩ := own_form hown
 obtain ⟨A2, c2, hvf'⟩ := own_form hown'
 have hzl : zs.length = (flat xs).length := by rw [hown.1, flat_length hw]
 have hb1 := blockOf_own hvf
 have hb2 := blockOf_own hvf'
 have hgr' : w.grownBy w' (blockOf v) := by rw [hb1]; exact hgr
 have hbl' : blockOf v' = blockOf v ∨ blockOf v' = some w.heap.size := by rw [hb1, hb2]; exact hbl
 have hstep := hs.regrow d (o' := .arr e ei.size false (xs ++ ys)) (v := v) (v' := v') (w' := w') old hold hnone hgr' (run_drawn _ hrun) hbl'
  (s' := { s'.app (some d) ⟨L, .own d (s.next d), ((d, s.next d), some (.arr e ei.size false (xs ++ ys))) :: U, [d]⟩ with env := s'.env }) rfl rfl
  (fun a m => by
   show look _ a m (s'.heap a m) = _
   simp only [look]
   rw [hnx, hlook])
  (fun a => by
   show s'.next a + cnt [d] a = _
   simp only [cnt, Nat.add_zero]
   split <;> simp_all)
  (fun M J' hJ' hmono => ⟨v', zs ++ news, hJ', by rw [List.length_append]; exact hown', hsp, fun x hx => by
    rcases List.mem_append.1 hx with hx | hx
    ·exact hw x hx
    ·exact hwy x hx, fun c hc => by
    rw [flat_append] at hc
    rcases List.mem_append.1 hc with hc | hc
    ·exact ho c hc
    ·exact hoy c hc, fun k c u hc hu => by
    rw [flat_append] at hc
    by_cases hk : k < (flat xs).length
    ·rw [List.getElem?_append_left hk] at hc
     rw [List.getElem?_append_left (by omega)] at hu
     exact hmono _ _ _ (hr k c u hc hu)
    ·rw [List.getElem?_append_right (by omega)] at hc
     rw [List.getElem?_append_right (by omega), hzl] at hu
     exact hmono _ _ _ (hry' _ c u hc hu)⟩)
 unfold Oper.wp execOp
 simp only [resolve, invoke, builtin, Sem.run_bind, Sem.run_pure, Result.andThen_ok, List.map_toArray, List.map_cons, List.map_nil, hv, hrun]
 rw [Oper.upon_value]
 have hrep : Rep w' (Mut { s'.app (some d) ⟨L, .own d (s.next d), ((d, s.next d), some (.arr e ei.size false (xs ++ ys))) :: U, [d]⟩ with env := s'.env } (setJ J d (s'.next d) v')) (setJ J d (s'.next d) v') (.own d (s.next d)) rv := by
  rcases hrv with rfl | ⟨ab, rfl, rfl⟩
  ·subst hvf'
   exact .own _ _ _ _ _ _ (by rw [← hnx]; simp [setJ])
  ·exact .own0 _ _ _ _ (by rw [← hnx]; simp [setJ])
 refine ⟨_, hstep.put_of (s := s') (some d) (pv := .own d (s.next d)) (v := rv) hrep ?_ rfl ?_ ?_ rfl⟩
 ·rfl
 ·rfl
 ·rfl
end Go.Proofs.Ytmompdklolomfaa.Ab
