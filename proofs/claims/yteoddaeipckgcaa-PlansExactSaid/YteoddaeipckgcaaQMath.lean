/- Plain arithmetic, of no program: wraps, quotients, roots. -/
import Derived.RowKit
import Derived.Laws.BitsLemmas
namespace Go.Proofs.Yteoddaeipckgcaa.Q
open Go.RowKit

theorem w64 {n : Int} (h0 : -9223372036854775808 ≤ n) (h1 : n ≤ 9223372036854775807) : wrap64 n = n := by unfold wrap64; omega
theorem wrap64_range (n : Int) : -9223372036854775808 ≤ wrap64 n ∧ wrap64 n ≤ 9223372036854775807 := by unfold wrap64; omega
theorem i64_bounds {n : Int} (h : (Lit.int .i64 n).wf = true) : -9223372036854775808 ≤ n ∧ n ≤ 9223372036854775807 := by
  simpa [Lit.wf, IntKind.min, IntKind.max, IntKind.signed, IntKind.bits] using h
theorem u64_bounds {n : Int} (h : (Lit.int .u64 n).wf = true) : 0 ≤ n ∧ n ≤ 18446744073709551615 := by
  simpa [Lit.wf, IntKind.min, IntKind.max, IntKind.signed, IntKind.bits] using h
theorem wu64 (n : Int) : IntKind.u64.wrap n = n % 18446744073709551616 := by simp [IntKind.wrap, IntKind.bits, IntKind.signed]
theorem wrap64_add_left (a b : Int) : wrap64 (wrap64 a + b) = wrap64 (a + b) := by unfold wrap64; omega
theorem wrap64_add_right (a b : Int) : wrap64 (a + wrap64 b) = wrap64 (a + b) := by unfold wrap64; omega
theorem wrap64_sub_right (a b : Int) : wrap64 (a - wrap64 b) = wrap64 (a - b) := by unfold wrap64; omega
theorem wrap64_sub_left (a b : Int) : wrap64 (wrap64 a - b) = wrap64 (a - b) := by unfold wrap64; omega
/-- A wrap is n but for a multiple of 2^64. -/
theorem wrap64_spec (n : Int) : ∃ t, wrap64 n = n + 18446744073709551616 * t := ⟨-((n + 9223372036854775808) / 18446744073709551616), by unfold wrap64; omega⟩
theorem wrap64_eq_of {m n t : Int} (h : m = n + 18446744073709551616 * t) : wrap64 m = wrap64 n := by unfold wrap64; omega
theorem wrap64_mul_left (a b : Int) : wrap64 (wrap64 a * b) = wrap64 (a * b) := by
  obtain ⟨t, ht⟩ := wrap64_spec a
  exact wrap64_eq_of (t := t * b) (by rw [ht, Int.add_mul, Int.mul_assoc])
theorem wrap64_mul_right (a b : Int) : wrap64 (a * wrap64 b) = wrap64 (a * b) := by rw [Int.mul_comm, wrap64_mul_left, Int.mul_comm]

/-! ### the quotient downwards -/
/-- What Go's '/' and the step down make is the quotient downwards. -/
theorem tdiv_down (a b : Int) (hb : b ≠ 0) : (if Int.tmod a b = 0 then Int.tdiv a b else if (decide (a < 0) != decide (b < 0)) = true then Int.tdiv a b - 1 else Int.tdiv a b) = a.fdiv b := by
  have hm : Int.tmod a b = 0 ↔ b ∣ a := ⟨fun h => Int.dvd_of_tmod_eq_zero h, fun h => Int.tmod_eq_zero_of_dvd h⟩
  rw [Int.fdiv_eq_tdiv]
  by_cases hd : b ∣ a
  · rw [if_pos (hm.2 hd), if_pos hd]; omega
  · rw [if_neg (fun h => hd (hm.1 h)), if_neg hd]
    by_cases ha : 0 ≤ a <;> by_cases hb0 : 0 ≤ b
    · rw [if_pos ha, if_pos hb0, if_neg (by simp; omega)]; omega
    · rw [if_pos ha, if_neg hb0, if_pos (by simp; omega)]
    · rw [if_neg ha, if_pos hb0, if_pos (by simp; omega)]
      have : b.sign = 1 := Int.sign_eq_one_of_pos (by omega)
      rw [this]
    · rw [if_neg ha, if_neg hb0, if_neg (by simp; omega)]
      have : b.sign = -1 := Int.sign_eq_neg_one_of_neg (by omega)
      rw [this]; omega
theorem fdiv_pos {a b : Int} (hb : 0 < b) : a.fdiv b * b ≤ a ∧ a < a.fdiv b * b + b := by
  rw [Int.fdiv_eq_ediv_of_nonneg a (by omega)]
  have h1 := Int.mul_ediv_add_emod a b
  have h2 := Int.emod_nonneg a (by omega : b ≠ 0)
  have h3 := Int.emod_lt_of_pos a hb
  have h4 : b * (a / b) = a / b * b := Int.mul_comm _ _
  omega
theorem fdiv_neg {a b : Int} (hb : b < 0) : a ≤ a.fdiv b * b ∧ a.fdiv b * b + b < a := by
  have h := fdiv_pos (a := -a) (b := -b) (by omega)
  rw [Int.neg_fdiv_neg] at h
  have h4 : a.fdiv b * -b = -(a.fdiv b * b) := by rw [Int.mul_neg]
  omega
theorem fdiv_range {a b : Int} (ha : -9223372036854775808 ≤ a ∧ a ≤ 9223372036854775807) (hb : b ≠ 0) (h : ¬ (a = -9223372036854775808 ∧ b = -1)) : -9223372036854775808 ≤ a.fdiv b ∧ a.fdiv b ≤ 9223372036854775807 := by
  have key : ∀ q b : Int, 0 < b → q * b ≤ a → a < q * b + b → -9223372036854775808 ≤ q ∧ q ≤ 9223372036854775807 := by
    intro q b hb h1 h2
    constructor
    · refine Int.not_lt.1 fun hq => ?_
      have : q * b + b ≤ q + 1 := by
        have : (q + 1) * b ≤ (q + 1) * 1 := Int.mul_le_mul_of_nonpos_left (by omega) (by omega)
        rw [Int.add_mul] at this; omega
      omega
    · refine Int.not_lt.1 fun hq => ?_
      have : q * 1 ≤ q * b := Int.mul_le_mul_of_nonneg_left (by omega) (by omega)
      omega
  rcases Int.lt_or_gt_of_ne hb with hn | hp
  · have hf := fdiv_neg (a := a) hn
    by_cases e : b = -1
    · subst e; omega
    have h4 : a.fdiv b * -b = -(a.fdiv b * b) := by rw [Int.mul_neg]
    -- |q| * |b| ≤ |a| + |b|, with |b| ≥ 2
    constructor
    · refine Int.not_lt.1 fun hq => ?_
      have : a.fdiv b * b ≥ a.fdiv b * -2 := Int.mul_le_mul_of_nonpos_left (by omega) (by omega)
      have h5 : (a.fdiv b + 1) * b ≥ (a.fdiv b + 1) * -2 := Int.mul_le_mul_of_nonpos_left (by omega) (by omega)
      rw [Int.add_mul] at h5
      omega
    · refine Int.not_lt.1 fun hq => ?_
      have : a.fdiv b * b ≤ a.fdiv b * -2 := Int.mul_le_mul_of_nonneg_left (by omega) (by omega)
      omega
  · exact key _ b (by omega) (fdiv_pos hp).1 (fdiv_pos hp).2
theorem fdiv_eq {a b q : Int} (hb : 0 < b) (h1 : q * b ≤ a) (h2 : a < q * b + b) : a.fdiv b = q := by
  have h := fdiv_pos (a := a) hb
  have h3 : ¬ a.fdiv b < q := fun hl => by
    have : (a.fdiv b + 1) * b ≤ q * b := Int.mul_le_mul_of_nonneg_right (by omega) (by omega)
    rw [Int.add_mul] at this; omega
  have h4 : ¬ q < a.fdiv b := fun hl => by
    have : (q + 1) * b ≤ a.fdiv b * b := Int.mul_le_mul_of_nonneg_right (by omega) (by omega)
    rw [Int.add_mul] at this; omega
  omega

/-! ### roots -/
theorem or_join {r : Int} {m : Nat} (hr : 0 ≤ r) (hm : m ≤ 31) (hd : r % 2 ^ (m + 1) = 0) (hlt : r < 4294967296) : bits .or .i64 r (2 ^ m) = r + 2 ^ m := by
  have hp : (2 : Int) ^ m < 2 ^ (m + 1) := by
    have h1 := Int.pow_pos (n := 2) (m := m) (by omega)
    rw [Int.pow_succ]; omega
  have hp0 := Int.pow_pos (n := 2) (m := m) (by omega)
  have h32 : (2 : Int) ^ (m + 1) ≤ 2 ^ 32 := by
    have : (2 : Nat) ^ (m + 1) ≤ 2 ^ 32 := Nat.pow_le_pow_right (by omega) (by omega)
    exact_mod_cast this
  refine bits_join .i64 63 (by decide) (fun n h0 h1 => ?_) (m + 1) r (2 ^ m) hr hd ?_ (by omega) hp ?_
  · rw [show IntKind.i64.wrap n = wrap64 n from IntKind.wrap_i64 n]
    exact w64 (by omega) (by omega)
  · omega
  · omega
/-- The root of n downwards. -/
def IsRoot (n s : Int) : Prop := 0 ≤ s ∧ s * s ≤ n ∧ n < (s + 1) * (s + 1)
theorem sq_lt {a b : Int} (ha : 0 ≤ a) (hb : 0 ≤ b) (h : a * a < b * b) : a < b := by
  refine Int.not_le.1 fun hba => ?_
  have := Int.mul_le_mul hba hba hb ha
  omega
theorem sq_le {a b : Int} (ha : 0 ≤ a) (hb : 0 ≤ b) (h : a * a ≤ b * b) : a ≤ b := by
  refine Int.not_lt.1 fun hba => ?_
  have h1 : b * b ≤ b * a := Int.mul_le_mul_of_nonneg_left (by omega) hb
  have h2 : b * a < a * a := by
    have := Int.mul_lt_mul_of_pos_right hba (by omega : 0 < a)
    omega
  omega
theorem sq_mono {a b : Int} (ha : 0 ≤ a) (h : a ≤ b) : a * a ≤ b * b := Int.mul_le_mul h h ha (by omega)
theorem IsRoot.unique {n s t : Int} (h : IsRoot n s) (k : IsRoot n t) : s = t := by
  have h1 := sq_lt h.1 (by have := k.1; omega) (Int.lt_of_le_of_lt h.2.1 k.2.2)
  have h2 := sq_lt k.1 (by have := h.1; omega) (Int.lt_of_le_of_lt k.2.1 h.2.2)
  omega
theorem IsRoot.le_most {n s : Int} (h : IsRoot n s) (hn : n ≤ 9223372036854775807) : s ≤ 3037000499 := by
  have := sq_lt h.1 (b := 3037000500) (by omega) (by have := h.2.1; omega)
  omega
end Go.Proofs.Yteoddaeipckgcaa.Q
