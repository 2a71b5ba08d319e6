/- What readings tell, further: flat structs, and rows of what is known. -/
import Derived.Test.YtejimiedoibkcaaAbOps7
namespace Go.Proofs.Ytejimiedoibkcaa.Ab
open Go Go.RowKit
set_option linter.unusedVariables false
set_option linter.unusedSimpArgs false
variable {P : Program} {N : Nat} {s : St}

def KC : List Kd → List PV → Prop
  | [], cs => cs = []
  | .b :: K, cs => ∃ b r, cs = .bool b :: r ∧ KC K r
  | .i k :: K, cs => ∃ n r, cs = .int k n :: r ∧ (Lit.int k n).wf = true ∧ KC K r
  | .s :: K, cs => ∃ s r, cs = .str s :: r ∧ s.size ≤ maxLen ∧ KC K r
theorem KC_append : ∀ {K L : List Kd} {cs ds : List PV}, KC K cs → KC L ds → KC (K ++ L) (cs ++ ds)
  | [], L, cs, ds, h, h' => by cases h; exact h'
  | .b :: K, L, cs, ds, h, h' => by obtain ⟨b, r, rfl, h⟩ := h; exact ⟨b, _, rfl, KC_append h h'⟩
  | .i k :: K, L, cs, ds, h, h' => by obtain ⟨b, r, rfl, hw, h⟩ := h; exact ⟨b, _, rfl, hw, KC_append h h'⟩
  | .s :: K, L, cs, ds, h, h' => by obtain ⟨b, r, rfl, hw, h⟩ := h; exact ⟨b, _, rfl, hw, KC_append h h'⟩
theorem KC_len : ∀ {K : List Kd} {cs : List PV}, KC K cs → cs.length = K.length
  | [], cs, h => by cases h; rfl
  | .b :: K, cs, h => by obtain ⟨b, r, rfl, h⟩ := h; simp [KC_len h]
  | .i k :: K, cs, h => by obtain ⟨b, r, rfl, _, h⟩ := h; simp [KC_len h]
  | .s :: K, cs, h => by obtain ⟨b, r, rfl, _, h⟩ := h; simp [KC_len h]
theorem flatF_len {m : Nat} : ∀ (fs : List Field) (off : Nat) (K : List Kd) (total : Nat), flatF P (flatK P m) fs off = some K → tileB P off fs total = true → total = off + K.length
  | [], off, K, total, h, ht => by
    unfold flatF at h
    injection h with h
    subst h
    have : off = total := Nat.eq_of_beq_eq_true ht
    simp [this]
  | f :: fs, off, K, total, h, ht => by
    unfold flatF at h
    split at h
    · split at h
      · rename_i K1 hK1
        split at h
        · rename_i hl1
          split at h
          · rename_i L hL
            injection h with h
            subst h
            simp only [tileB, Bool.and_eq_true] at ht
            rw [← hl1.2] at ht
            have := flatF_len fs _ L total hL ht.2
            simp; omega
          · cases h
        · cases h
      · cases h
    · cases h
/-- a flat type's cells, by their kinds ('hS', 'hm': the closed facts of the row) -/
theorem shape_flat {S : List TypeId} (hS : closedT P S = true) : ∀ (m : Nat) (n : Nat) (t : TypeId) (K : List Kd) (cs : List PV), flatK P m t = some K → t ∈ S → Shape P n t cs → KC K cs := by
  intro m
  induction m with
  | zero => intro n t K cs h; simp [flatK] at h
  | succ m ih =>
    intro n t K cs h ht hs
    cases n with
    | zero => exact hs.elim
    | succ n =>
      have hc := closed_mem hS ht
      unfold flatK at h
      split at h
      · rename_i hu; injection h with h; subst h
        simp only [Shape, hu] at hs
        obtain ⟨b, rfl⟩ := hs
        exact ⟨b, [], rfl, rfl⟩
      · rename_i hu; injection h with h; subst h
        simp only [Shape, hu] at hs
        obtain ⟨b, rfl, hw⟩ := hs
        exact ⟨b, [], rfl, hw, rfl⟩
      · rename_i hu; injection h with h; subst h
        simp only [Shape, hu] at hs
        obtain ⟨b, rfl, hw⟩ := hs
        exact ⟨b, [], rfl, hw, rfl⟩
      · rename_i fs hu
        split at h
        · cases h
        · rw [hu] at hc
          simp only [Bool.and_eq_true, List.all_eq_true] at hc
          simp only [Shape, hu] at hs
          have hl := flatF_len fs.toList 0 K _ h hc.2
          have hmem : ∀ f ∈ fs.toList, f.type ∈ S := fun f hf => by have := hc.1 f hf; simpa using this
          have key : ∀ (gs : List Field) (off : Nat) (L : List Kd), (∀ g ∈ gs, g ∈ fs.toList) → flatF P (flatK P m) gs off = some L → cs.length = off + L.length → (∀ f ∈ gs, Shape P n f.type ((cs.drop f.offset).take (P.cellsOf f.type))) → KC L (cs.drop off) := by
            intro gs
            induction gs with
            | nil =>
              intro off L _ h hl _
              unfold flatF at h
              injection h with h
              subst h
              show cs.drop off = []
              exact List.eq_nil_of_length_eq_zero (by simp; simp at hl; omega)
            | cons f gs ihg =>
              intro off L hin h hl hs
              unfold flatF at h
              split at h
              · rename_i hcc
                split at h
                · rename_i K1 hK1
                  split at h
                  · rename_i hl1
                    split at h
                    · rename_i L1 hL
                      injection h with h
                      subst h
                      have h1 := ih n f.type K1 _ hK1 (hmem f (hin f List.mem_cons_self)) (hs f List.mem_cons_self)
                      rw [hcc.2, ← hl1.2] at h1
                      have h2 := ihg (off + K1.length) L1 (fun g hg => hin g (List.mem_cons_of_mem _ hg)) hL (by simp at hl; omega) fun g hg => hs g (List.mem_cons_of_mem _ hg)
                      have := KC_append h1 h2
                      rwa [← List.drop_drop, List.take_append_drop] at this
                    · cases h
                  · cases h
                · cases h
              · cases h
          have := key fs.toList 0 K (fun _ h => h) h (by rw [hs.1]; exact hl) hs.2
          simpa using this
      · cases h
theorem shape_rows {α : Type} {f : α → PV} {Q : α → Prop} {n : Nat} {t e : TypeId} {cs : List PV} (h : Shape P n t cs) (ht : P.underlying t = some (.slice e)) (hf : ∀ m ps, Shape P m e ps → ∃ a, PV.mk (aggT P e) ps = f a ∧ Q a) :
    ∃ l : List α, cs = [.sl (P.cellsOf e) (l.map f)] ∧ l.length ≤ maxLen ∧ ∀ a ∈ l, Q a := by
  cases n with
  | zero => exact h.elim
  | succ n =>
    simp only [Shape, ht] at h
    obtain ⟨xs, rfl, hm, hx⟩ := h
    have : ∃ l : List α, xs = l.map f ∧ ∀ a ∈ l, Q a := by
      clear hm
      induction xs with
      | nil => exact ⟨[], rfl, by simp⟩
      | cons x xs ih =>
        obtain ⟨l, rfl, hq⟩ := ih fun y hy => hx y (List.mem_cons_of_mem _ hy)
        obtain ⟨ps, rfl, hs⟩ := hx x List.mem_cons_self
        obtain ⟨a, ha, hqa⟩ := hf n ps hs
        exact ⟨a :: l, by rw [ha]; rfl, by simpa using ⟨hqa, hq⟩⟩
    obtain ⟨l, rfl, hq⟩ := this
    exact ⟨l, rfl, by simpa using hm, hq⟩
theorem Ok.nil0 {f : FuncId} {sz : Nat} {rest : List PV} {boxes boxes' : List (List PV)} {rows rows' : List Row} {r : PV} (h : Ok P f (.sl sz [] :: rest) boxes rows r boxes' rows') : Ok P f (.nil :: rest) boxes rows r boxes' rows' :=
  h.of_le rfl fun i p q h1 h2 => by
    cases i with
    | zero => simp at h1 h2; subst h1 h2; exact nil_le sz
    | succ i => simp only [List.getElem?_cons_succ] at h1 h2; rw [h1] at h2; injection h2 with h2; subst h2; exact fun _ _ _ _ h => h
/-- a nil row, told as an empty one that is only read -/
theorem reb_nilSl {t sz : Nat} (h : s.env t = .nil) (ht : t < N) : Reb N s { s with env := upd s.env t (.sl sz []) } := by
  refine ⟨rfl, fun w0 Mv J a w hs => ⟨J, ?_⟩⟩
  have hv := hs.env t ht
  rw [h] at hv
  refine ⟨hs.size, hs.defers, fun t' ht' => ?_, hs.obj, hs.sep, hs.nxt, hs.frame, hs.mutb, hs.xlt, hs.sepX, hs.ext, hs.grow, hs.os, hs.tape, hs.output, hs.drawn⟩
  by_cases e : t' = t
  · subst e
    simp only [upd, if_true]
    exact nil_le sz _ _ _ _ hv
  · simp only [upd, if_neg e]
    exact hs.env t' ht'
theorem aw_nilSl {c : Code} {Q : Exit → St → Prop} (t sz : Nat) (h : s.env t = .nil) (ht : t < N) (k : AW P N c { s with env := upd s.env t (.sl sz []) } Q) : AW P N c s Q := aw_reb (reb_nilSl h ht) k
theorem do_build_struct {ops : Array Oper} {dst : Option Tmp} {type : TypeId} {pos : String} {after : Array Edge} {guard : Option (Nat × Bool)} {t : TypeId} {ps : Array (Nat × Operand)} {fs : List (Nat × TypeId)} {sz by_ : Nat} {z cs : List PV} (ht : tyOf P t = some ⟨.struct fs, sz, by_, z⟩) (hz : z.isEmpty = false) (tis : List TyI) (htis : fs.map (fun f => tyOf P f.2) = tis.map some)
    (ho : (evParts s ps.toList).all (fun p => p.2.cells.all PV.one) = true) (hf : fillPV (fun i => (((fs.zip tis).map fun q => (q.1.1, q.2.size))[i]?)) z (evParts s ps.toList) = some cs) :
    Does P N ops ⟨dst, .build t ps, type, pos, after, guard⟩ s (pureFx (.agg cs)) :=
  does_build_struct ht (by intro h; rw [h] at hz; cases hz) tis htis (fun p hp => by rw [List.all_eq_true] at ho; exact all_one (ho p hp)) hf
end Go.Proofs.Ytejimiedoibkcaa.Ab
