/- Calls that are handed boxes and rows; a nil handed for a row; what is handed back. -/
import Derived.Test.YtejimiedoibkcaaAbOps8
namespace Go.Proofs.Ytejimiedoibkcaa.Ab
open Go Go.RowKit
set_option linter.unusedVariables false
set_option linter.unusedSimpArgs false
variable {P : Program} {N : Nat} {ops : Array Oper} {dst : Option Tmp} {type : TypeId} {pos : String} {after : Array Edge} {guard : Option (Nat × Bool)} {s : St}

def boxIn (s : St) : Nm → List (List PV) → Prop
  | [], [] => True
  | p :: ps, cs :: css => s.heap p.1 p.2 = some (.box cs) ∧ boxIn s ps css
  | _, _ => False
theorem boxIn_get {s : St} : ∀ {ps : Nm} {css : List (List PV)}, boxIn s ps css → ps.length = css.length ∧ ∀ (i : Nat) (p : Nat × Nat) (cs : List PV), ps[i]? = some p → css[i]? = some cs → s.heap p.1 p.2 = some (.box cs)
  | [], [], _ => ⟨rfl, fun i p cs h => by simp at h⟩
  | p :: ps, [], h => h.elim
  | [], c :: cs, h => h.elim
  | p :: ps, c :: css, ⟨h1, h2⟩ => by
    obtain ⟨h3, h4⟩ := boxIn_get h2
    refine ⟨by simp [h3], fun i q cs hq hc => ?_⟩
    cases i with
    | zero => simp at hq hc; subst hq hc; exact h1
    | succ i => simp at hq hc; exact h4 i q cs hq hc
def frzOk (s : St) : Nm → Prop
  | [] => True
  | p :: ps => (∃ e sz xs, s.heap p.1 p.2 = some (.arr e sz true xs)) ∧ frzOk s ps
theorem frzOk_get {s : St} : ∀ {l : Nm}, frzOk s l → ∀ p ∈ l, ∃ e sz xs, s.heap p.1 p.2 = some (.arr e sz true xs)
  | [], _, p, hp => by cases hp
  | q :: r, ⟨h1, h2⟩, p, hp => by
    rcases List.mem_cons.1 hp with rfl | hp
    · exact h1
    · exact frzOk_get h2 p hp
def rowsPl : List Row → Prop
  | [] => True
  | q :: r => (∀ c ∈ flat q.2.2, c.plain = true) ∧ rowsPl r
theorem rowsPl_get : ∀ {l : List Row}, rowsPl l → ∀ q ∈ l, ∀ c ∈ flat q.2.2, c.plain = true
  | [], _, q, hq => by cases hq
  | p :: r, ⟨h1, h2⟩, q, hq => by
    rcases List.mem_cons.1 hq with rfl | hq
    · exact h1
    · exact rowsPl_get h2 q hq
theorem plain_map {α : Type} {f : α → PV} {l : List α} (h : ∀ x, (f x).cells.all PV.plain = true) : ∀ c ∈ flat (List.map f l), c.plain = true := by
  intro c hc
  simp only [flat, List.mem_flatMap, List.mem_map] at hc
  obtain ⟨_, ⟨x, _, rfl⟩, hc⟩ := hc
  have := h x
  rw [List.all_eq_true] at this
  exact this c hc
def apartNm (L bn rn : Nm) : Bool := L.all fun p => bn.all (fun q => !(p.1 == q.1 && p.2 == q.2)) && rn.all fun q => !(p.1 == q.1 && p.2 == q.2)
theorem apartNm_spec {L bn rn : Nm} (h : apartNm L bn rn = true) : ∀ p ∈ L, p ∉ bn ∧ p ∉ rn := by
  simp only [apartNm, List.all_eq_true, Bool.and_eq_true, Bool.not_eq_true', Bool.and_eq_false_iff, beq_eq_false_iff_ne] at h
  intro p hp
  obtain ⟨h1, h2⟩ := h p hp
  exact ⟨fun hb => by rcases h1 p hb with h | h <;> exact h rfl, fun hb => by rcases h2 p hb with h | h <;> exact h rfl⟩
/-- A call, in full. -/
theorem do_callG {fo : Operand} {xs : Array Operand} {tys : Array TypeId} {f : FuncId} {caps args : List PV} {boxes boxes' boxes2 bcs : List (List PV)} {rows' rws : List Row} {r r' : PV} (bn rn L : Nm) (d0 : Nat) (fz : Bool)
    (hok : Ok P f args boxes rws r boxes' rows') (hf : s.ev fo = .fn f caps) (hent : Ent P f) (hbox : boxIn s bn bcs) (hrow : rowsOk s rn rws) (hnb : nodupB bn = true) (hnr : nodupB rn = true) (hap : apartNm L bn rn = true)
    (hargs : mapO (s.arg1 bn rn L) (xs.toList.map s.ev ++ caps) = some args) (hbx : mapO (fun cs => mapO (s.argC bn rn L) cs) bcs = some boxes) (hbl : boxes'.length = boxes.length)
    (hrb : mapO (fun cs => mapO (raiC bn d0 (s.next d0)) cs) boxes' = some boxes2) (hr : raiV bn d0 (s.next d0) r = some r')
    (hsafe : frzOk s L ∨ (r.plainV = true ∧ boxes'.all (fun cs => cs.all PV.plain) = true ∧ rowsPl rows')) :
    Does P N ops ⟨dst, .call ⟨.value fo, xs, tys⟩, type, pos, after, guard⟩ s ⟨L, r', rowU d0 (s.next d0) fz 0 rows' ++ (boxU bn boxes2 ++ deadU rn), List.replicate (rows'.length + 1) d0⟩ := by
  obtain ⟨b1, b2⟩ := boxIn_get hbox
  obtain ⟨r1, r2⟩ := rowsOk_get hrow
  refine does_call bn rn L bcs rws d0 fz hf hent ⟨nodup_b hnb, nodup_b hnr, b1, r1, b2, r2⟩ (apartNm_spec hap) hargs hbx hok hbl hrb hr ?_
  rcases hsafe with h | ⟨h1, h2, h3⟩
  · exact .inl (frzOk_get h)
  · refine .inr ⟨h1, fun cs hcs c hc => ?_, rowsPl_get h3⟩
    rw [List.all_eq_true] at h2
    have := h2 cs hcs
    rw [List.all_eq_true] at this
    exact this c hc

theorem boxesOk_cons {nb i : Nat} {names : Nm} {cs cs1 cs' : List PV} {r : List (List PV)} (h : s.heap 0 i = some (.box cs)) (h1 : mapO (s.retC nb names) cs = some cs1) (e : cs1 = cs') (hr : boxesOk s nb names (i + 1) r) : boxesOk s nb names i (cs' :: r) := ⟨⟨cs, h, e ▸ h1⟩, hr⟩
/-- rows and boxes handed back -/
theorem ret_okB {rs : Array ResultVar} {r r' : PV} {boxes' : List (List PV)} {rows' : List Row} {e : Exit} (names : Nm) {pv : PV} (hpv : s.resPV P rs.toList = some pv) (hr : s.retV boxes'.length names pv = some r') (he : r' = r) (hrow : rowsOk s names rows') (hbox : boxesOk s boxes'.length names 0 boxes')
    (hnd : names.Nodup) (hex : e = .normal ∨ e = .ret) (hlt : rs.toList.all (resLt N) = true) : RetOk P N rs r boxes' rows' e s :=
  ret_ok names hpv (he ▸ hr) hrow hbox hnd hex hlt

/-! ### a nil handed for a row -/
theorem Ok.nilRow {f : FuncId} {args args' : List PV} {e sz : Nat} {r : PV} {rows' : List Row} (h : Ok P f args [] [(e, sz, [])] r [] rows') (hp : 0 < sz) (hl : args'.length = args.length)
    (hle : ∀ (i : Nat) (p p' : PV), args[i]? = some p → args'[i]? = some p' → (p = .own 1 0 ∧ p' = .nil) ∨ p = p') : Ok P f args' [] [] r [] rows' := by
  intro w X J vals hB hvl hrep
  let J1 : Site := fun d n => if d = 1 ∧ n = 0 then some (.slice none 0 0) else J d n
  have h10 : J 1 0 = none := hB.nxt 1 0 (by simp [bst])
  have hJ : ∀ d n v, J d n = some v → J1 d n = some v := fun d n v hv => by
    simp only [J1]; split
    · rename_i hc; obtain ⟨rfl, rfl⟩ := hc; rw [h10] at hv; cases hv
    · exact hv
  have hheap : ∀ {d n o}, (bst [] [(e, sz, [])] 1 X).heap d n = some o → d = 1 ∧ n = 0 ∧ o = .arr e sz false [] := by
    intro d n o ho
    rcases bst_heap (by decide) ho with ⟨_, cs, hc, _⟩ | ⟨hd, q, hq, rfl⟩
    · simp at hc
    · cases n with
      | zero => simp at hq; subst hq; exact ⟨hd, rfl, rfl⟩
      | succ n => simp at hq
  have hom : ∀ g, ¬ OMut (bst [] [(e, sz, [])] 1 X) J1 g := by
    rintro g ⟨d, n, o, v, h1, h2, h3, h4⟩
    obtain ⟨rfl, rfl, rfl⟩ := hheap h1
    simp only [J1, and_self, if_true, Option.some.injEq] at h3
    subst h3
    cases h4
  have hM : ∀ g, Mut (bst [] [(e, sz, [])] 1 X) J1 g → Mut (bst [] [] 1 X) J g := fun g hg => by
    rcases hg with hg | hg
    · exact .inl hg
    · exact absurd hg (hom g)
  have hB1 : Bord w (bst [] [(e, sz, [])] 1 X) J1 := by
    refine ⟨fun d n o ho => ?_, fun d n d' n' o o' v v' g h1 h2 h3 h4 h5 h6 => ?_, fun d n hle' => ?_, fun d n o v g h1 h2 h3 => ?_, hB.xlt⟩
    · obtain ⟨rfl, rfl, rfl⟩ := hheap ho
      exact ⟨.slice none 0 0, [], by simp [J1], World.ownsRow_nil _ _ _ _, hp, by simp, by simp [flat], by simp [flat]⟩
    · obtain ⟨rfl, rfl, rfl⟩ := hheap h1
      simp only [J1, and_self, if_true, Option.some.injEq] at h3
      subst h3
      cases h5
    · simp only [J1]
      split
      · rename_i hc
        obtain ⟨rfl, rfl⟩ := hc
        simp [bst] at hle'
      · refine hB.nxt d n ?_
        simp only [bst] at hle' ⊢
        split at hle'
        · simp
        · split at hle' <;> simp_all
    · obtain ⟨rfl, rfl, rfl⟩ := hheap h1
      simp only [J1, and_self, if_true, Option.some.injEq] at h2
      subst h2
      cases h3
  refine (h w X J1 vals hB1 (hvl.trans hl) fun i pv v hpv hv => ?_).mono fun en w' ⟨v, J', e1, e2, e3, e4, e5⟩ => ⟨v, J', e1, e2, fun n hn => by simp at hn, e4, ?_⟩
  · have hi : i < args'.length := by rw [hl]; exact (List.getElem?_eq_some_iff.1 hpv).1
    have hr := hrep i _ v (List.getElem?_eq_getElem hi) hv
    rcases hle i pv _ hpv (List.getElem?_eq_getElem hi) with ⟨rfl, e⟩ | e
    · rw [e] at hr
      cases hr
      exact .own _ _ _ _ _ _ (by simp [J1])
    · rw [← e] at hr
      exact hr.mono (fun _ _ _ => rfl) (fun g _ hg => hM g hg) hJ
  · exact ⟨fun b hb hn => e5.block b hb (hom b), fun g hg hlt => absurd (e5.own g hg hlt) (hom g), e5.size, e5.os, e5.tape, e5.output, e5.drawn⟩
theorem nil_le0 {rest : List PV} : ∀ (i : Nat) (p p' : PV), (PV.own 1 0 :: rest)[i]? = some p → (PV.nil :: rest)[i]? = some p' → (p = .own 1 0 ∧ p' = .nil) ∨ p = p' := by
  intro i p p' h1 h2
  cases i with
  | zero => simp at h1 h2; subst h1 h2; exact .inl ⟨rfl, rfl⟩
  | succ i => simp at h1 h2; rw [h1] at h2; injection h2 with h2; exact .inr h2
theorem Ok.nilRow0 {f : FuncId} {rest : List PV} {e sz : Nat} {r : PV} {rows' : List Row} (h : Ok P f (.own 1 0 :: rest) [] [(e, sz, [])] r [] rows') (hp : Nat.blt 0 sz = true := by rfl) : Ok P f (.nil :: rest) [] [] r [] rows' :=
  h.nilRow (by simpa [Nat.blt_eq] using hp) (by simp) nil_le0
/-- a nil handed for a row that is only read -/
theorem Ok.weak {f : FuncId} {args args' : List PV} {boxes boxes' : List (List PV)} {rows rows' : List Row} {r : PV} (h : Ok P f args boxes rows r boxes' rows') (hl : leL args' args) : Ok P f args' boxes rows r boxes' rows' := by
  intro w X J vals hB hvl hrep
  obtain ⟨h1, h2⟩ := leL_get hl
  refine h w X J vals hB (hvl.trans h1) fun i pv v hpv hv => ?_
  have hi : i < args'.length := by rw [h1]; exact (List.getElem?_eq_some_iff.1 hpv).1
  exact (h2 i _ pv (List.getElem?_eq_getElem hi) hpv).2 _ _ _ _ (hrep i _ v (List.getElem?_eq_getElem hi) hv)
/-- What is yielded, told as less. -/
theorem Does.weak {o : Oper} {L : List (Nat × Nat)} {v v' : PV} {U : List ((Nat × Nat) × Option AObj)} {M : List Nat} (h : Does P N ops o s ⟨L, v, U, M⟩) (hv : PVle v v') : Does P N ops o s ⟨L, v', U, M⟩ := by
  intro s' ha hlt w0 Mv J a w hs Q
  refine Oper.wp_mono ?_ (h s' ⟨ha.env, ha.rd, ha.up, ha.nx⟩ hlt w0 Mv J a w hs Q)
  rintro a' w' ⟨J', h'⟩
  refine ⟨J', ?_⟩
  have hm : ∀ g, Mut (s'.app o.dst ⟨L, v', U, M⟩) J' g = Mut (s'.app o.dst ⟨L, v, U, M⟩) J' g := fun g => rfl
  refine ⟨h'.size, h'.defers, fun t ht => ?_, h'.obj, h'.sep, h'.nxt, h'.frame, h'.mutb, h'.xlt, h'.sepX, h'.ext, h'.grow, h'.os, h'.tape, h'.output, h'.drawn⟩
  have h1 := h'.env t ht
  cases hd : o.dst with
  | none => rw [hd] at h1; exact h1
  | some d =>
    rw [hd] at h1
    by_cases e : t = d
    · subst e
      simp only [St.app, St.put, upd, if_true] at h1 ⊢
      exact hv.2 _ _ _ _ h1
    · simp only [St.app, St.put, upd, if_neg e] at h1 ⊢
      exact h1

/-! ### what a law is handed, typed -/
def inI (k : IntKind) (n : Int) : Prop := k.min ≤ n ∧ n ≤ k.max
theorem inI64 {n : Int} (h : inI .i64 n) : -9223372036854775808 ≤ n ∧ n ≤ 9223372036854775807 := by simpa [inI, IntKind.min, IntKind.max, IntKind.signed, IntKind.bits] using h
theorem inU64 {n : Int} (h : inI .u64 n) : 0 ≤ n ∧ n ≤ 18446744073709551615 := by simpa [inI, IntKind.min, IntKind.max, IntKind.signed, IntKind.bits] using h
theorem inU32 {n : Int} (h : inI .u32 n) : 0 ≤ n ∧ n ≤ 4294967295 := by simpa [inI, IntKind.min, IntKind.max, IntKind.signed, IntKind.bits] using h
theorem inU8 {n : Int} (h : inI .u8 n) : 0 ≤ n ∧ n ≤ 255 := by simpa [inI, IntKind.min, IntKind.max, IntKind.signed, IntKind.bits] using h
theorem wf_int {k : IntKind} {n : Int} (h : (Lit.int k n).wf = true) : inI k n := by simpa [Lit.wf, inI] using h
theorem shape_i {n : Nat} {t : TypeId} {k : IntKind} {cs : List PV} (h : Shape P n t cs) (ht : P.underlying t = some (.int k)) : ∃ z, cs = [.int k z] ∧ inI k z := by
  obtain ⟨z, h1, h2⟩ := shape_int h ht
  exact ⟨z, h1, wf_int h2⟩
theorem shape_b {n : Nat} {t : TypeId} {cs : List PV} (h : Shape P n t cs) (ht : P.underlying t = some .bool) : ∃ b, cs = [.bool b] ∧ True := by
  obtain ⟨z, h1⟩ := shape_bool h ht
  exact ⟨z, h1, trivial⟩
theorem shape_struct {n : Nat} {t : TypeId} {cs : List PV} {fs : Array Field} (h : Shape P n t cs) (ht : P.underlying t = some (.struct fs)) :
    cs.length = P.cellsOf t ∧ ∃ m, ∀ (i : Nat) (f : Field), fs.toList[i]? = some f → Shape P m f.type ((cs.drop f.offset).take (P.cellsOf f.type)) := by
  cases n with
  | zero => exact h.elim
  | succ n =>
    simp only [Shape, ht] at h
    exact ⟨h.1, n, fun i f hf => h.2 f (List.mem_of_getElem? hf)⟩
def tileEq (cs : List PV) : Nat → List (Nat × List PV) → Prop
  | _, [] => True
  | off, (k, ps) :: r => (cs.drop off).take k = ps ∧ tileEq cs (off + k) r
def tileSum : List (Nat × List PV) → Nat
  | [] => 0
  | (k, _) :: r => k + tileSum r
def tileCat : List (Nat × List PV) → List PV
  | [] => []
  | (_, ps) :: r => ps ++ tileCat r
theorem tile_eq {cs : List PV} : ∀ {l : List (Nat × List PV)} {off : Nat}, tileEq cs off l → cs.length = off + tileSum l → cs.drop off = tileCat l
  | [], off, _, hl => by simp only [tileSum, Nat.add_zero] at hl; simp [tileCat, ← hl]
  | (k, ps) :: r, off, ⟨h1, h2⟩, hl => by
    have := tile_eq h2 (by simp only [tileSum] at hl; omega)
    rw [tileCat, ← this, ← h1, ← List.drop_drop, List.take_append_drop]
theorem tile_all {cs : List PV} {l : List (Nat × List PV)} {n : Nat} (h : tileEq cs 0 l) (hn : cs.length = n) (hl : Nat.beq n (tileSum l) = true) : cs = tileCat l := by
  have := tile_eq h (by rw [hn, Nat.zero_add]; exact Nat.eq_of_beq_eq_true hl)
  simpa using this
end Go.Proofs.Ytejimiedoibkcaa.Ab
