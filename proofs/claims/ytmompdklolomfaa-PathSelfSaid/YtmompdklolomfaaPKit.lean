/- Lemmas for the pure side: numbers as naturals, bits, strings, loops. -/
import Derived.Test.YtmompdklolomfaaAbOps14
namespace Go.Proofs.Ytmompdklolomfaa.Ab
open Go Go.RowKit
set_option linter.unusedVariables false
set_option linter.unusedSimpArgs false
theorem toList_str (l : List UInt8) : ByteArray.toList (strOf l) = l := by rw [ByteArray.toList_eq]; rfl
theorem toList_inj {a b : ByteArray} (h : a.toList = b.toList) : a = b := by
 rw [ByteArray.toList_eq, ByteArray.toList_eq] at h
 cases a; cases b; simp_all
theorem str_beq (a b : ByteArray) : (a.toList == b.toList) = decide (a = b) := by
 by_cases h : a = b
 ·subst h; simp
 ·simp only [h, decide_false, beq_eq_false_iff_ne]; exact fun e => h (toList_inj e)
theorem strOf_inj {a b : List UInt8} : strOf a = strOf b ↔ a = b := ⟨fun h => by rw [← bytesOf_strOf a, h, bytesOf_strOf], fun h => by rw [h]⟩
theorem bind_inl {σ τ ρ : Type} (x : σ) (f : σ → Option ρ) (g : τ → Option ρ) : Option.bind (some (Sum.inl x)) (Sum.elim f g) = f x := rfl
theorem bind_inr {σ τ ρ : Type} (x : τ) (f : σ → Option ρ) (g : τ → Option ρ) : Option.bind (some (Sum.inr x)) (Sum.elim f g) = g x := rfl
theorem dec_t {p : Prop} [Decidable p] (h : p) : decide p = true := by simpa using h
theorem dec_f {p : Prop} [Decidable p] (h : ¬ p) : decide p = false := by simpa using h
theorem ite_t {α : Type} {c : Bool} {a b : α} (h : c = true) : (if c = true then a else b) = a := if_pos h
theorem ite_f {α : Type} {c : Bool} {a b : α} (h : c = false) : (if c = true then a else b) = b := if_neg (by rw [h]; decide)
theorem ite_tt {α : Type} {a b : α} : (if true = true then a else b) = a := rfl
theorem ite_ff {α : Type} {a b : α} : (if false = true then a else b) = b := rfl
theorem loop_l {σ ρ : Type} {body : σ → Option (σ ⊕ ρ)} {n : Nat} {s s' : σ} (h : body s = some (.inl s')) : loopN body (n + 1) s = loopN body n s' := by simp only [loopN, h]
theorem loop_r {σ ρ : Type} {body : σ → Option (σ ⊕ ρ)} {n : Nat} {s : σ} {r : ρ} (h : body s = some (.inr r)) : loopN body (n + 1) s = some r := by simp only [loopN, h]
theorem loop_val {σ ρ : Type} {body : σ → Option (σ ⊕ ρ)} (I : Nat → σ → ρ → Prop) (step : ∀ n s r, I n s r → (∃ s' m, body s = some (.inl s') ∧ m < n ∧ I m s' r) ∨ body s = some (.inr r)) :
  ∀ N n s r, I n s r → n < N → loopN body N s = some r
 | 0, n, s, r, _, h => absurd h (Nat.not_lt_zero _)
 | N + 1, n, s, r, hi, h => by
  rcases step n s r hi with ⟨s', m, h1, h2, h3⟩ | h1
  ·rw [loop_l h1]; exact loop_val I step N m s' r h3 (by omega)
  ·exact loop_r h1
theorem loop_fu {σ ρ : Type} {body : σ → Option (σ ⊕ ρ)} (I : Nat → σ → ρ → Prop) (step : ∀ n s r, I n s r → (∃ s' m, body s = some (.inl s') ∧ m < n ∧ I m s' r) ∨ body s = some (.inr r)) {n : Nat} {s : σ} {r : ρ} (h : I n s r) (hn : n < 1208925819614629174706176) :
  loopN body Fu s = some r := loop_val I step Fu n s r h hn
theorem loop_list {α σ ρ : Type} {body : σ → Option (σ ⊕ ρ)} {l : List α} (st : Nat → ρ → σ → Prop) (hn : l.length < 1208925819614629174706175)
  (step : ∀ k (hk : k < l.length) r s, st k r s → (∃ s', body s = some (.inl s') ∧ st (k + 1) r s') ∨ body s = some (.inr r)) (last : ∀ r s, st l.length r s → body s = some (.inr r)) {s : σ} {r : ρ} (h : st 0 r s) : loopN body Fu s = some r := by
 refine loop_fu (fun n s r => ∃ k, k ≤ l.length ∧ n = l.length - k ∧ st k r s) (fun n s r ⟨k, hk, hn, h⟩ => ?_) ⟨0, Nat.zero_le _, rfl, h⟩ (by omega)
 by_cases e : k = l.length
 ·subst e; exact .inr (last r s h)
 ·rcases step k (by omega) r s h with ⟨s', h1, h2⟩ | h1
  ·exact .inl ⟨s', l.length - (k + 1), h1, by omega, k + 1, by omega, rfl, h2⟩
  ·exact .inr h1
theorem loop_write {α σ ρ : Type} {body : σ → Option (σ ⊕ ρ)} {l : List α} (bad : α → Bool) (st : Nat → σ) (fin out : ρ) (hn : l.length < 1208925819614629174706175)
  (step : ∀ k (hk : k < l.length), (∀ x ∈ l.take k, bad x = false) → bad l[k] = false → body (st k) = some (.inl (st (k + 1))))
  (stepb : ∀ k (hk : k < l.length), (∀ x ∈ l.take k, bad x = false) → bad l[k] = true → body (st k) = some (.inr out))
  (last : (∀ x ∈ l, bad x = false) → body (st l.length) = some (.inr fin)) : loopN body Fu (st 0) = some (if l.any bad then out else fin) := by
 refine loop_list (l := l) (fun k r s => s = st k ∧ (∀ x ∈ l.take k, bad x = false) ∧ r = if l.any bad then out else fin) hn ?_ ?_ ⟨rfl, by simp, rfl⟩
 ·rintro k hk r s ⟨rfl, hb, rfl⟩
  cases h : bad l[k] with
  | true =>
   have : l.any bad = true := List.any_eq_true.2 ⟨l[k], List.getElem_mem hk, h⟩
   rw [this]
   exact .inr (stepb k hk hb h)
  | false =>
   refine .inl ⟨st (k + 1), step k hk hb h, rfl, fun x hx => ?_, rfl⟩
   rw [List.take_succ_eq_append_getElem hk] at hx
   rcases List.mem_append.1 hx with hx | hx
   ·exact hb x hx
   ·rw [List.mem_singleton.1 hx]; exact h
 ·rintro r s ⟨rfl, hb, rfl⟩
  rw [List.take_length] at hb
  have : l.any bad = false := by simpa using hb
  rw [this]
  exact last hb
theorem wrap_in {k : IntKind} {n : Int} (h : inI k n) : k.wrap n = n := by
 cases k <;> simp [inI, IntKind.min, IntKind.max, IntKind.wrap, IntKind.bits, IntKind.signed] at h ⊢ <;> (try split) <;> omega
theorem w64 {n : Int} (h0 : -9223372036854775808 ≤ n) (h1 : n < 9223372036854775808) : IntKind.i64.wrap n = n := wrap_i64 n h0 h1
theorem wu64 {n : Int} (h0 : 0 ≤ n) (h1 : n < 18446744073709551616) : IntKind.u64.wrap n = n := by
 obtain ⟨m, rfl⟩ := Int.eq_ofNat_of_zero_le h0
 exact wrap_u64 m (by omega)
theorem wu32 {n : Int} (h0 : 0 ≤ n) (h1 : n < 4294967296) : IntKind.u32.wrap n = n := by
 obtain ⟨m, rfl⟩ := Int.eq_ofNat_of_zero_le h0
 exact wrap_u32 m (by omega)
theorem bits_or_u64 (a b : Nat) (ha : a < 18446744073709551616) (hb : b < 18446744073709551616) : bits .or .u64 (a : Int) (b : Int) = ((a ||| b : Nat) : Int) := by
 show IntKind.u64.wrap (((BitVec.ofInt 64 (a : Int)) ||| (BitVec.ofInt 64 (b : Int))).toNat : Int) = _
 rw [BitVec.ofInt_natCast, BitVec.ofInt_natCast, BitVec.toNat_or, BitVec.toNat_ofNat, BitVec.toNat_ofNat, Nat.mod_eq_of_lt ha, Nat.mod_eq_of_lt hb]
 exact wrap_u64 _ (Nat.or_lt_two_pow (n := 64) ha hb)
theorem bits_and_u64 (a b : Nat) (ha : a < 18446744073709551616) (hb : b < 18446744073709551616) : bits .and .u64 (a : Int) (b : Int) = ((a &&& b : Nat) : Int) := by
 show IntKind.u64.wrap (((BitVec.ofInt 64 (a : Int)) &&& (BitVec.ofInt 64 (b : Int))).toNat : Int) = _
 rw [BitVec.ofInt_natCast, BitVec.ofInt_natCast, BitVec.toNat_and, BitVec.toNat_ofNat, BitVec.toNat_ofNat, Nat.mod_eq_of_lt ha, Nat.mod_eq_of_lt hb]
 exact wrap_u64 _ (Nat.lt_of_le_of_lt Nat.and_le_left ha)
theorem shr_nat (n k : Nat) (hk : k ≤ 64) : Int.fdiv (n : Int) (2 ^ (min (Int.toNat (k : Int)) (IntKind.bits .u64))) = ((n / 2 ^ k : Nat) : Int) := by
 rw [show min (Int.toNat (k : Int)) (IntKind.bits .u64) = k by simp [IntKind.bits]; omega, Int.fdiv_eq_ediv_of_nonneg _ (Int.le_of_lt (Int.pow_pos (by decide)))]
 simp
theorem shr7 (n : Nat) : Int.fdiv (n : Int) (2 ^ (min (Int.toNat 7) (IntKind.bits .u64))) = ((n / 128 : Nat) : Int) := shr_nat n 7 (by decide)
theorem u8_nat (n : Nat) (h : n < 256) : u8 (n : Int) = UInt8.ofNat n := rfl
theorem u8_wrap_nat (n : Nat) : u8 (IntKind.u8.wrap (n : Int)) = UInt8.ofNat n := by
 apply UInt8.toNat_inj.1
 have h : IntKind.u8.wrap (n : Int) = ((n % 256 : Nat) : Int) := by simp [IntKind.wrap, IntKind.bits, IntKind.signed]
 rw [h]
 simp [u8]
 omega
theorem u8_toNat (c : UInt8) : u8 (c.toNat : Int) = c := by simp [u8]
theorem all_u8 {p : UInt8 → Prop} (h : ∀ n : Fin 256, p (UInt8.ofNat n.val)) (c : UInt8) : p c := by
 have := h ⟨c.toNat, c.toNat_lt⟩
 simpa using this
theorem gd_some' {α : Type} {p : Prop} [Decidable p] {x : Option α} {r : α} (h : p) (k : x = some r) : gd p x = some r := by rw [gd_pos h]; exact k
theorem loop_has {α : Type} {body : Int → Option (Int ⊕ Int)} (p : α → Bool) (l : List α) (hl : l.length ≤ 1000000000)
  (h : ∀ (k : Nat) (hk : k < l.length), body (k : Int) = if p l[k] = true then some (.inr (k : Int)) else some (.inl ((k + 1 : Nat) : Int))) (hend : body (l.length : Int) = some (.inr (-1))) :
  ∃ r : Int, loopN body Fu 0 = some r ∧ decide ((0 : Int) ≤ r) = l.any p := by
 have key : ∀ (m k : Nat) (N : Nat), k + m = l.length → m < N → ∃ r : Int, loopN body N (k : Int) = some r ∧ decide ((0 : Int) ≤ r) = (l.drop k).any p := by
  intro m
  induction m with
  | zero =>
   intro k N hk hN
   obtain ⟨N', rfl⟩ : ∃ N', N = N' + 1 := ⟨N - 1, by omega⟩
   have : k = l.length := by omega
   subst this
   exact ⟨-1, loop_r hend, by simp⟩
  | succ m ih =>
   intro k N hk hN
   obtain ⟨N', rfl⟩ : ∃ N', N = N' + 1 := ⟨N - 1, by omega⟩
   have hk2 : k < l.length := by omega
   have hb := h k hk2
   rw [List.drop_eq_getElem_cons hk2, List.any_cons]
   cases e : p l[k] with
   | true =>
    rw [e, if_pos rfl] at hb
    exact ⟨(k : Int), loop_r hb, by simp⟩
   | false =>
    rw [e, if_neg (by decide)] at hb
    obtain ⟨r, h1, h2⟩ := ih (k + 1) N' (by omega) (by omega)
    exact ⟨r, by rw [loop_l hb]; exact h1, by rw [h2, Bool.false_or]⟩
 have := key l.length 0 Fu (by omega) (by rw [show Fu = 1208925819614629174706175 + 1 from rfl]; omega)
 simpa using this
end Go.Proofs.Ytmompdklolomfaa.Ab
