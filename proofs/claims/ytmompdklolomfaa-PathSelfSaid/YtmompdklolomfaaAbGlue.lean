import Derived.Test.YtmompdklolomfaaAbOps6
import Derived.KernelRfl
namespace Go.Proofs.Ytmompdklolomfaa.Ab
open Go Go.RowKit
set_option linter.unusedVariables false
set_option linter.unusedSimpArgs false
variable {P : Program} {N : Nat} {ops : Array Oper} {s : St} {dst : Option Tmp} {type : TypeId} {pos : String} {after : Array Edge} {guard : Option (Nat × Bool)}
theorem Does.cast {o : Oper} {v v' : PV} {L : List (Nat × Nat)} {U : List ((Nat × Nat) × Option AObj)} {M : List Nat} (h : Does P N ops o s ⟨L, v, U, M⟩) (e : v = v') : Does P N ops o s ⟨L, v', U, M⟩ := e ▸ h
theorem Does.castp {o : Oper} {v v' : PV} (h : Does P N ops o s (pureFx v)) (e : v = v') : Does P N ops o s (pureFx v') := e ▸ h
theorem envOk_nil {nm nn : Nm} : envOk s nm nn [] := trivial
theorem envOk_cons {nm nn : Nm} {t : Nat} {v v' : PV} {r : List (Nat × PV)} (h : ren1 s nm nn (s.env t) = some v) (e : v = v') (hr : envOk s nm nn r) : envOk s nm nn ((t, v') :: r) := ⟨e ▸ h, hr⟩
theorem objOk_nil {nm nn : Nm} : objOk s nm nn [] [] := trivial
theorem objOk_cons {nm nn ps : Nm} {p q : Nat × Nat} {o o1 o2 : AObj} {r : List ((Nat × Nat) × AObj)} (h : s.heap p.1 p.2 = some o) (h1 : renO s nm nn o = some o1) (e : o1 = o2) (h0 : q.1 = 0 → p = q) (hr : objOk s nm nn ps r) : objOk s nm nn (p :: ps) ((q, o2) :: r) :=
 ⟨⟨o, h, e ▸ h1⟩, h0, hr⟩
theorem ret_ok1 {rs : Array ResultVar} {r r' : PV} {e : Exit} {pv : PV} (hpv : s.resPV P rs.toList = some pv) (hr : s.retV 0 [] pv = some r') (he : r' = r) (hex : e = .normal ∨ e = .ret) (hlt : rs.toList.all (resLt N) = true) : RetOk P N rs r [] [] e s :=
 ret_ok [] hpv (he ▸ hr) trivial trivial List.nodup_nil hex hlt
theorem ret_okR {rs : Array ResultVar} {r r' : PV} {rows' : List Row} {e : Exit} (names : Nm) {pv : PV} (hpv : s.resPV P rs.toList = some pv) (hr : s.retV 0 names pv = some r') (he : r' = r) (hrow : rowsOk s names rows') (hnd : names.Nodup) (hex : e = .normal ∨ e = .ret) (hlt : rs.toList.all (resLt N) = true) : RetOk P N rs r [] rows' e s :=
 ret_ok names hpv (he ▸ hr) hrow trivial hnd hex hlt
theorem rowsOk_cons {p : Nat × Nat} {ps : Nm} {e sz : Nat} {xs ys : List PV} {qs : List Row} (h : s.heap p.1 p.2 = some (.arr e sz false xs)) (he : xs = ys) (hr : rowsOk s ps qs) : rowsOk s (p :: ps) ((e, sz, ys) :: qs) := ⟨he ▸ h, hr⟩
theorem do_append {d : Nat} {t e : TypeId} {x y : Operand} {ty : TypeId} {sz by_ : Nat} {z : List PV} {ei : TyI} {p q : PV} {xs ys v : List PV} {be bs ysz : Nat} {U : List ((Nat × Nat) × Option AObj)} {L : List (Nat × Nat)} (hx : s.ev x = p) (hy : s.ev y = q)
  (ht : tyOf P t = some ⟨.slice e, sz, by_, z⟩) (he : tyOf P e = some ei) (hz : ei.zero.length = ei.size) (hz0 : ei.zero.isEmpty = false) (hbs : s.base p = some (xs, be, bs, U)) (hbe : p = .nil ∨ (be = e ∧ bs = ei.size)) (hsr : s.src q = some (ys, ysz, L)) (hys : ys = [] ∨ ysz = ei.size)
  (hv : xs ++ ys = v) (hbytes : v.length * ei.bytes ≤ 140737488355328 ∧ v.length ≤ 140737488355328) :
  Does P N ops ⟨some d, .call ⟨.builtin .append, #[x, y], #[t, t]⟩, ty, pos, after, guard⟩ s ⟨L, .own d (s.next d), ((d, s.next d), some (.arr e ei.size false v)) :: U, [d]⟩ := by
 subst hv
 rw [List.length_append] at hbytes
 exact does_append hx hy ht he hz (by intro h; rw [h] at hz0; cases hz0) hbs hbe hsr hys hbytes.1 hbytes.2
theorem do_buildSlice {d : Nat} {t e : TypeId} {len : Nat} {ps : Array (Nat × Operand)} {sz by_ : Nat} {z : List PV} {ei : TyI} {xs : List PV} {ps' : List (Nat × PV)} {L : List (Nat × Nat)} (ht : tyOf P t = some ⟨.slice e, sz, by_, z⟩) (he : tyOf P e = some ei)
  (hz : ei.zero.isEmpty = false) (hzl : Nat.beq ei.zero.length ei.size = true) (hlen : Nat.beq xs.length len = true) (hw : xs.all (fun x => Nat.beq x.cells.length ei.size) = true) (h24 : Nat.ble (len * ei.size) 16777216 = true) (hlow : s.lowP (evParts s ps.toList) = some (ps', L)) (ho : (flat xs).all PV.one = true)
  (hf : fillPV (fun i => some (i * ei.size, ei.size)) ((List.replicate len ei.zero).flatten) ps' = some (flat xs)) :
  Does P N ops ⟨some d, .buildSlice t len ps, type, pos, after, guard⟩ s ⟨L, .own d (s.next d), [((d, s.next d), some (.arr e ei.size false xs))], [d]⟩ :=
 does_buildSlice ht he (by intro h; rw [h] at hz; cases hz) (Nat.eq_of_beq_eq_true hzl) (Nat.eq_of_beq_eq_true hlen) (fun x hx => by rw [List.all_eq_true] at hw; exact Nat.eq_of_beq_eq_true (hw x hx)) (Nat.le_of_ble_eq_true h24) hlow (all_one ho) hf
def fxB (x y : Fx) : Bool :=
 (x.U.all fun p => (y.L.all fun q => !(p.1 == q)) && (y.U.all fun q => !(p.1 == q.1))) && (y.U.all fun p => x.L.all fun q => !(p.1 == q)) && (x.N.all fun d => y.N.all fun d' => !(d == d'))
theorem fxB_spec {x y : Fx} (h : fxB x y = true) : fxApart x y := by
 simp only [fxB, Bool.and_eq_true, List.all_eq_true, Bool.not_eq_true', beq_eq_false_iff_ne] at h
 obtain ⟨⟨h1, h2⟩, h3⟩ := h
 exact ⟨fun p hp => (h1 p hp).1, fun p hp => (h1 p hp).2, h2, fun d hd hd' => h3 d hd d hd' rfl⟩
def pairsB (b : Nat → Nat → Bool) : List (Nat × Fx) → Bool
 | [] => true
 | (i, x) :: r => (r.all fun q => fxB x q.2 || b i q.1) && pairsB b r
theorem pairsB_spec {b : Nat → Nat → Bool} : ∀ {fx : List (Nat × Fx)}, pairsB b fx = true → pairsFx b fx
 | [], _ => trivial
 | (i, x) :: r, h => by
  simp only [pairsB, Bool.and_eq_true, List.all_eq_true, Bool.or_eq_true] at h
  exact ⟨fun q hq => (h.1 q hq).symm.imp id fxB_spec, pairsB_spec h.2⟩
theorem pairs_b {fx : List (Nat × Fx)} {b : Nat → Nat → Bool} (h : pairsB b fx = true) : ∀ w, some b = some w → pairsFx w fx := pairs_some (pairsB_spec h)
def nodupB : Nm → Bool
 | [] => true
 | p :: r => r.all (fun q => !(p.1 == q.1 && p.2 == q.2)) && nodupB r
theorem nodup_b : ∀ {l : Nm}, nodupB l = true → l.Nodup
 | [], _ => List.nodup_nil
 | p :: r, h => by
  simp only [nodupB, Bool.and_eq_true, List.all_eq_true, Bool.not_eq_true', Bool.and_eq_false_iff, beq_eq_false_iff_ne] at h
  refine List.nodup_cons.2 ⟨fun hp => ?_, nodup_b h.2⟩
  rcases h.1 p hp with h | h <;> exact h rfl
theorem ao_nil_d {Q : Exit → St → Prop} {bb : Nat → Nat → Bool} {i : Nat} {fx : List (Nat × Fx)} (hp : pairsB bb fx = true) (h : Q .normal s) : AO P N ops (some bb) i fx [] s Q := ao_nil (pairs_b hp) h
def St.nilOwn (s : St) (t e sz : Nat) : St :=
 { env := upd s.env t (.own t (s.next t)), heap := fun a m => if a = t ∧ m = s.next t then some (.arr e sz false []) else s.heap a m, next := fun a => if a = t then s.next t + 1 else s.next a, X := s.X }
theorem reb_nilOwn {t e sz : Nat} (h : s.env t = .nil) (ht : t < N) (hp : 0 < sz) : Reb N s (s.nilOwn t e sz) := by
 refine ⟨rfl, fun w0 Mv J a w hs => ?_⟩
 have hnew := hs.nxt t (s.next t) (Nat.le_refl _)
 let J' : Site := setJ J t (s.next t) (.slice none 0 0)
 have hJ : ∀ d n v, J d n = some v → J' d n = some v := by
  intro d n v hv
  simp only [J', setJ]
  split
  ·rename_i hc; obtain ⟨rfl, rfl⟩ := hc; rw [hnew.2] at hv; cases hv
  ·exact hv
 have hJn : J' t (s.next t) = some (.slice none 0 0) := by simp [J', setJ]
 have hJo : ∀ d n v, ¬ (d = t ∧ n = s.next t) → J' d n = some v → J d n = some v := fun d n v hc hv => by simpa [J', setJ, hc] using hv
 let s1 : St := { s.nilOwn t e sz with env := s.env }
 have hh1 : ∀ a m, s1.heap a m = if a = t ∧ m = s.next t then some (.arr e sz false []) else s.heap a m := fun a m => rfl
 have hM : ∀ b, OMut s1 J' b → OMut s J b := by
  rintro b ⟨d, n, o, v, h1, h2, h3, h4⟩
  rw [hh1] at h1
  split at h1
  ·rename_i hc
   obtain ⟨rfl, rfl⟩ := hc
   rw [hJn] at h3
   injection h3 with h3
   subst h3
   cases h4
  ·rename_i hc
   exact ⟨d, n, o, v, h1, h2, hJo _ _ _ hc h3, h4⟩
 have h1 : Sim w0 Mv N J' s1 a w := by
  refine hs.update (row := none) (World.grownBy.refl w none) (Nat.le_refl _) (by simp) hJ rfl rfl (fun b _ hm => hM b hm) (fun d n o h1 => ?_) (fun d1 n1 d2 n2 o1 o2 v1 v2 g k1 k2 k3 k4 k5 k6 => ?_) (fun d n hle => ?_) (fun d n o v g k1 k2 k3 => ?_)
  ·rw [hh1] at h1
   split at h1
   ·rename_i hc
    obtain ⟨rfl, rfl⟩ := hc
    injection h1 with h1
    subst h1
    exact .inr ⟨_, [], hJn, ⟨by simp, .inl ⟨rfl, rfl⟩⟩, hp, by simp, by simp [flat], by simp [flat]⟩
   ·exact .inl ⟨h1, by simp⟩
  ·rw [hh1] at k1 k2
   by_cases c1 : d1 = t ∧ n1 = s.next t
   ·obtain ⟨rfl, rfl⟩ := c1
    rw [hJn] at k3
    injection k3 with k3
    subst k3
    cases k5
   ·by_cases c2 : d2 = t ∧ n2 = s.next t
    ·obtain ⟨rfl, rfl⟩ := c2
     rw [hJn] at k4
     injection k4 with k4
     subst k4
     cases k6
    ·rw [if_neg c1] at k1
     rw [if_neg c2] at k2
     exact hs.sep _ _ _ _ _ _ _ _ g k1 k2 (hJo _ _ _ c1 k3) (hJo _ _ _ c2 k4) k5 k6
  ·have hc : ¬ (d = t ∧ n = s.next t) := by
    rintro ⟨rfl, rfl⟩
    simp [s1, St.nilOwn] at hle
    omega
   have hle0 : (if d = t then s.next t + 1 else s.next d) ≤ n := hle
   have hle' : s.next d ≤ n := by
    clear hle
    have hle := hle0
    split at hle
    ·rename_i e; subst e; omega
    ·exact hle
   have := hs.nxt d n hle'
   exact ⟨by rw [hh1, if_neg hc]; exact this.1, by simp [J', setJ, hc, this.2]⟩
  ·rw [hh1] at k1
   by_cases c1 : d = t ∧ n = s.next t
   ·obtain ⟨rfl, rfl⟩ := c1
    rw [hJn] at k2
    injection k2 with k2
    subst k2
    cases k3
   ·rw [if_neg c1] at k1
    exact hs.sepX _ _ _ _ g k1 (hJo _ _ _ c1 k2) k3
 have hv := hs.env t ht
 rw [h] at hv
 have hval : a.tmps.getD t Go.undef = .slice none 0 0 := by
  generalize a.tmps.getD t Go.undef = u at hv
  cases hv
  rfl
 have h2 := h1.put_of (s := s) (s'' := s.nilOwn t e sz) (some t) (pv := .own t (s.next t)) (v := .slice none 0 0) (.own _ _ _ _ _ _ hJn) rfl rfl rfl rfl rfl
 have hat : a.put (some t) (.slice none 0 0) = a := by
  have hs' : t < a.tmps.size := by rw [hs.size]; exact ht
  cases a
  simp only [Act.put]
  dsimp only at hval hs'
  congr 1
  apply Array.ext_getElem?
  intro i
  rw [Array.getElem?_setIfInBounds]
  split
  ·rename_i e
   subst e
   rw [Array.getD_eq_getD_getElem?, Array.getElem?_eq_getElem hs', Option.getD_some] at hval
   rw [Array.getElem?_eq_getElem hs', hval]
  ·rfl
 rw [hat] at h2
 exact ⟨J', h2⟩
theorem aw_nilOwn {c : Code} {Q : Exit → St → Prop} (t e sz : Nat) (h : s.env t = .nil) (ht : t < N) (hp : 0 < sz) (k : AW P N c (s.nilOwn t e sz) Q) : AW P N c s Q := aw_reb (reb_nilOwn h ht hp) k
theorem cellsAt_eptr {s : St} {d n e sz i off : Nat} {fz : Bool} {xs : List PV} {x : PV} (h : s.heap d n = some (.arr e sz fz xs)) (hx : xs[i]? = some x) : s.cellsAt (.eptr d n sz i off) = some (x.cells.drop off, [(d, n)]) := by
 simp [St.cellsAt, h, hx]
def bytesPV (b : List UInt8) : List PV := b.map fun c => .int .u8 (c.toNat : Int)
end Go.Proofs.Ytmompdklolomfaa.Ab
