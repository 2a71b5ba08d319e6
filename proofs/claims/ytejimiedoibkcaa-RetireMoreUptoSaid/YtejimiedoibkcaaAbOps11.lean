/- More operations: the check that a pointer is none of none. -/
import Derived.Test.YtejimiedoibkcaaAbOps10
namespace Go.Proofs.Ytejimiedoibkcaa.Ab
open Go Go.RowKit
set_option linter.unusedVariables false
set_option linter.unusedSimpArgs false
variable {P : Program} {N : Nat} {ops : Array Oper} {dst : Option Tmp} {type : TypeId} {pos : String} {after : Array Edge} {guard : Option (Nat × Bool)} {s : St}
theorem does_nilCheck {x : Operand} {p q : PV} (hx : s.ev x = p) (hq : p.plus 0 = some q) :
    Does P N ops ⟨dst, .nilCheck x, type, pos, after, guard⟩ s (pureFx p) :=
  does_pure p fun w M J ρ hr => by
    have h1 := hr x (by simp [Op.operands])
    rw [hx] at h1
    obtain ⟨a, ha, h2⟩ := rep_plus hq h1
    exact ⟨_, by simp [execOp, ha], ha ▸ h1⟩
/-- A nil row in a box of ours, told as an empty row of ours. -/
def St.nilOwnC (s : St) (d n k D e sz : Nat) (cs : List PV) : St :=
  { env := s.env, heap := fun a m => if a = D ∧ m = s.next D then some (.arr e sz false []) else if a = d ∧ m = n then some (.box (cs.set k (.own D (s.next D)))) else s.heap a m, next := fun a => if a = D then s.next D + 1 else s.next a, X := s.X }
theorem reb_nilOwnC {d n k D e sz : Nat} {cs : List PV} (hb : s.heap d n = some (.box cs)) (hk : cs[k]? = some .nil) (hp : 0 < sz) : Reb N s (s.nilOwnC d n k D e sz cs) := by
  refine ⟨rfl, fun w0 Mv J a w hs => ?_⟩
  have hnew := hs.nxt D (s.next D) (Nat.le_refl _)
  have hne : ¬ (d = D ∧ n = s.next D) := by rintro ⟨rfl, rfl⟩; rw [hnew.1] at hb; cases hb
  let J' : Site := setJ J D (s.next D) (.slice none 0 0)
  have hJ : ∀ d n v, J d n = some v → J' d n = some v := by
    intro d n v hv
    simp only [J', setJ]
    split
    · rename_i hc; obtain ⟨rfl, rfl⟩ := hc; rw [hnew.2] at hv; cases hv
    · exact hv
  have hJn : J' D (s.next D) = some (.slice none 0 0) := by simp [J', setJ]
  have hJo : ∀ d n v, ¬ (d = D ∧ n = s.next D) → J' d n = some v → J d n = some v := fun d n v hc hv => by simpa [J', setJ, hc] using hv
  let s1 : St := s.nilOwnC d n k D e sz cs
  have hh1 : ∀ a m, s1.heap a m = if a = D ∧ m = s.next D then some (.arr e sz false []) else if a = d ∧ m = n then some (.box (cs.set k (.own D (s.next D)))) else s.heap a m := fun a m => rfl
  -- what was there, of an object that is not the new one
  have hold : ∀ a m o, ¬ (a = D ∧ m = s.next D) → s1.heap a m = some o → ∃ o', s.heap a m = some o' ∧ (o.mut = true → o'.mut = true) := by
    intro a m o hc ho
    rw [hh1, if_neg hc] at ho
    split at ho
    · rename_i hc2; obtain ⟨rfl, rfl⟩ := hc2; exact ⟨_, hb, fun _ => rfl⟩
    · exact ⟨o, ho, id⟩
  have hM : ∀ b, OMut s1 J' b → OMut s J b := by
    rintro b ⟨a, m, o, v, h1, h2, h3, h4⟩
    by_cases hc : a = D ∧ m = s.next D
    · obtain ⟨rfl, rfl⟩ := hc
      rw [hJn] at h3
      injection h3 with h3
      subst h3
      cases h4
    · obtain ⟨o', h5, h6⟩ := hold a m o hc h1
      exact ⟨a, m, o', v, h5, h6 h2, hJo _ _ _ hc h3, h4⟩
  have hMM : ∀ b, b < w.heap.size → Mut s1 J' b → Mut s J b := fun b _ hm => hm.imp id (hM b)
  refine ⟨J', ?_⟩
  refine hs.update (row := none) (s' := s1) (World.grownBy.refl w none) (Nat.le_refl _) (by simp) hJ rfl rfl (fun b _ hm => hM b hm) (fun a m o h1 => ?_) (fun d1 n1 d2 n2 o1 o2 v1 v2 g k1 k2 k3 k4 k5 k6 => ?_) (fun a m hle => ?_) (fun a m o v g k1 k2 k3 => ?_)
  · rw [hh1] at h1
    split at h1
    · rename_i hc
      obtain ⟨rfl, rfl⟩ := hc
      injection h1 with h1
      subst h1
      exact .inr ⟨_, [], hJn, ⟨by simp, .inl ⟨rfl, rfl⟩⟩, hp, by simp, by simp [flat], by simp [flat]⟩
    · split at h1
      · rename_i hc2
        obtain ⟨rfl, rfl⟩ := hc2
        injection h1 with h1
        subst h1
        obtain ⟨g, cur, t, q1, q2, q3, q4, q5⟩ := hs.obj a m _ hb
        refine .inr ⟨g, cur, t, hJ _ _ _ q1, q2, by rw [List.length_set]; exact q3, fun c hc => ?_, fun i c v hc hv => ?_⟩
        · rcases List.mem_or_eq_of_mem_set hc with hc | rfl
          · exact q4 c hc
          · rfl
        · rw [List.getElem?_set] at hc
          by_cases e1 : k = i
          · subst e1
            have hlt := (List.getElem?_eq_some_iff.1 hk).1
            rw [if_pos rfl, if_pos hlt] at hc
            injection hc with hc
            subst hc
            have hr := q5 k _ v hk hv
            cases hr
            exact .own _ _ _ _ _ _ hJn
          · rw [if_neg e1] at hc
            exact (q5 i c v hc hv).mono (fun _ _ _ => rfl) hMM hJ
      · exact .inl ⟨h1, by simp⟩
  · by_cases c1 : d1 = D ∧ n1 = s.next D
    · obtain ⟨rfl, rfl⟩ := c1
      rw [hJn] at k3
      injection k3 with k3
      subst k3
      cases k5
    · by_cases c2 : d2 = D ∧ n2 = s.next D
      · obtain ⟨rfl, rfl⟩ := c2
        rw [hJn] at k4
        injection k4 with k4
        subst k4
        cases k6
      · obtain ⟨o1', h1, _⟩ := hold _ _ _ c1 k1
        obtain ⟨o2', h2, _⟩ := hold _ _ _ c2 k2
        exact hs.sep _ _ _ _ _ _ _ _ g h1 h2 (hJo _ _ _ c1 k3) (hJo _ _ _ c2 k4) k5 k6
  · have hc : ¬ (a = D ∧ m = s.next D) := by
      rintro ⟨rfl, rfl⟩
      simp [s1, St.nilOwnC] at hle
      omega
    have hle0 : (if a = D then s.next D + 1 else s.next a) ≤ m := hle
    have hle' : s.next a ≤ m := by
      clear hle
      have hle := hle0
      split at hle
      · rename_i e; subst e; omega
      · exact hle
    have := hs.nxt a m hle'
    have hc2 : ¬ (a = d ∧ m = n) := by rintro ⟨rfl, rfl⟩; rw [this.1] at hb; cases hb
    exact ⟨by rw [hh1, if_neg hc, if_neg hc2]; exact this.1, by simp [J', setJ, hc, this.2]⟩
  · by_cases c1 : a = D ∧ m = s.next D
    · obtain ⟨rfl, rfl⟩ := c1
      rw [hJn] at k2
      injection k2 with k2
      subst k2
      cases k3
    · obtain ⟨o', h1, _⟩ := hold _ _ _ c1 k1
      exact hs.sepX _ _ _ _ g h1 (hJo _ _ _ c1 k2) k3
theorem aw_nilOwnC {c : Code} {Q : Exit → St → Prop} (d n k D e sz : Nat) {cs : List PV} (hb : s.heap d n = some (.box cs)) (hk : cs[k]? = some .nil) (hp : 0 < sz) (h : AW P N c (s.nilOwnC d n k D e sz cs) Q) : AW P N c s Q := aw_reb (reb_nilOwnC hb hk hp) h
end Go.Proofs.Ytejimiedoibkcaa.Ab
