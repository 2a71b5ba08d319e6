import Derived.Test.YtbaibpjffcahiaaGreatAbCore
namespace Go.Proofs.YtbaibpjffcahiaaGreat.Ab
open Go Go.RowKit
set_option linter.unusedVariables false
set_option linter.unusedSimpArgs false
theorem exc_bind {ε α β : Type} {x : Except ε α} {f : α → Except ε β} {r : β} (h : (x >>= f) = .ok r) : ∃ a, x = .ok a ∧ f a = .ok r := by
 cases x with
 | error e => cases h
 | ok a => exact ⟨a, rfl, h⟩
theorem viewStore_drawn {p : Program} {w : World} {at_ : Addr} {u : TypeId} {k : Addr} {v : Value} {b : Bool} {r : World × List Addr} (h : w.viewStore p at_ u k v b = .ok r) : r.1.drawn = w.drawn := by
 unfold World.viewStore at h
 simp only [] at h
 split at h
 ·obtain ⟨_, h0, _⟩ := exc_bind h
  cases h0
 ·obtain ⟨⟨c, e, fr, first, like, cells⟩, _, h⟩ := exc_bind h
  simp only [] at h
  split at h
  ·split at h
   ·obtain ⟨_, h0, _⟩ := exc_bind h
    cases h0
   ·obtain ⟨_, _, h⟩ := exc_bind h
    injection h with h
    rw [← h]
  ·cases h
theorem farStore_drawn {p : Program} {w : World} {a : Addr} {v : Value} {b : Bool} {r : World × List Addr} (h : w.farStore p a v b = .ok r) : r.1.drawn = w.drawn := by
 unfold World.farStore at h
 split at h
 ·split at h
  ·rename_i r' h2
   injection h with h
   rw [← h]; exact viewStore_drawn h2
  ·cases h
 ·cases h
theorem ask_drawn {α : Type} : ∀ (x : Ask α) (w : World), w.drawn ≤ (w.ask x).2.drawn
 | .done a, w => Nat.le_refl _
 | .ask what range k, w => by
  unfold World.ask
  dsimp only
  split
  ·exact ask_drawn _ _
  ·exact Nat.le_trans (Nat.le_succ w.drawn) (ask_drawn (k ((Question.extern what range).cut (w.tape w.drawn (.extern what range)))) { w with drawn := w.drawn + 1 })
theorem sys_drawn (w : World) (c : Sys) : w.drawn ≤ (w.sys c).2.drawn := by
 unfold World.sys
 split
 ·exact Nat.le_refl _
 ·rename_i h
  have := ask_drawn (Kernel.perform c w.os) w
  rw [h] at this
  exact this
theorem run_drawn {α : Type} {P : Program} : ∀ (x : Sem α) {w w' : World} {v : α}, x.run P w = .ok v w' → w.drawn ≤ w'.drawn
 | .pure a, w, w', v, h => by
  unfold Sem.run at h; injection h with _ h; rw [h]; exact Nat.le_refl _
 | .load m a k, w, w', v, h => by
  unfold Sem.run at h
  split at h
  ·exact run_drawn _ h
  ·split at h
   ·exact run_drawn _ h
   ·cases h
 | .store m a x k, w, w', v, h => by
  cases x with
  | agg _ => unfold Sem.run at h; cases h
  | tuple _ => unfold Sem.run at h; cases h
  | _ =>
   unfold Sem.run at h
   split at h
   ·split at h
    ·cases h
    ·have := run_drawn _ h
     exact this
   ·split at h
    ·rename_i w1 _ h2
     have := farStore_drawn h2
     exact this ▸ run_drawn _ h
    ·cases h
 | .new o k, w, w', v, h => by
  unfold Sem.run at h
  have := run_drawn _ h
  exact this
 | .shape r k, w, w', v, h => by unfold Sem.run at h; exact run_drawn _ h
 | .freeze a n k, w, w', v, h => by
  unfold Sem.run at h
  have := run_drawn _ h
  have e : (w.freeze a n).drawn = w.drawn := by unfold World.freeze; split <;> rfl
  rwa [e] at this
 | .frozen a k, w, w', v, h => by unfold Sem.run at h; exact run_drawn _ h
 | .getObj r k, w, w', v, h => by
  unfold Sem.run at h
  split at h
  ·cases h
  ·exact run_drawn _ h
  ·cases h
 | .setObj r o k, w, w', v, h => by
  unfold Sem.run at h
  split at h
  ·cases h
  ·have := run_drawn _ h
   exact this
  ·cases h
 | .choose q k, w, w', v, h => by
  unfold Sem.run at h
  split at h
  ·exact run_drawn _ h
  ·exact Nat.le_trans (Nat.le_succ w.drawn) (run_drawn (k (q.cut (w.tape w.drawn q))) h)
 | .sys c k, w, w', v, h => by unfold Sem.run at h; exact Nat.le_trans (sys_drawn w c) (run_drawn _ h)
 | .program k, w, w', v, h => by unfold Sem.run at h; exact run_drawn _ h
 | .mark m k, w, w', v, h => by unfold Sem.run at h; exact run_drawn _ h
 | .halt hh, w, w', v, h => by unfold Sem.run at h; cases h
end Go.Proofs.YtbaibpjffcahiaaGreat.Ab
