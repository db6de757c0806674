/- The product that is an int, or the error: by 128 bits, and by a quotient that goes back. -/
import Derived.Test.YtbckkllhobcgjaaQBits
import Derived.Test.YtbckkllhobcgjaaPx50
import Derived.Test.YtbckkllhobcgjaaPx51
namespace Go.Proofs.Ytbckkllhobcgjaa.P
open Go.RowKit Go.Proofs.YtbckkllhobcgjaaW.PrintWords Go.Proofs.YtbckkllhobcgjaaW.PrintLast
open Go.Proofs.Ytbckkllhobcgjaa.Q
theorem and_low (a : Nat) (h : a < 2 ^ 64) : bits .and .u64 (a : Int) 4294967295 = ((a % 4294967296 : Nat) : Int) := by
  have := bits_mask .u64 64 (by decide) wraps_u64 32 (by decide) (a : Int) (by omega) (by omega)
  have e : (2 : Int) ^ 32 - 1 = 4294967295 := by decide
  rw [e] at this
  rw [this]; simp
theorem mul_small (x y : Nat) (hx : x < 4294967296) (hy : y < 4294967296) : x * y ≤ 18446744065119617025 := Nat.mul_le_mul (by omega : x ≤ 4294967295) (by omega : y ≤ 4294967295)
theorem halves (P Q R S : Nat) :
    (P + (Q + S / 4294967296) / 4294967296 + ((Q + S / 4294967296) % 4294967296 + R) / 4294967296) = (P * 18446744073709551616 + (Q + R) * 4294967296 + S) / 18446744073709551616 := by omega
theorem wn (x : Nat) (h : x < 18446744073709551616) : IntKind.u64.wrap (x : Int) = (x : Int) := by rw [wu64]; omega
theorem Mul64_some (a b : Nat) (ha : a < 2 ^ 64) (hb : b < 2 ^ 64) : bits_Mul64.f (a : Int) (b : Int) = some (((a * b / 18446744073709551616 : Nat) : Int), ((a * b % 18446744073709551616 : Nat) : Int)) := by
  unfold bits_Mul64.f
  rw [and_low a ha, and_low b hb]
  have da : (a : Int) / 4294967296 = ((a / 4294967296 : Nat) : Int) := by simp
  have db : (b : Int) / 4294967296 = ((b / 4294967296 : Nat) : Int) := by simp
  rw [da, db]
  have hP := mul_small (a / 4294967296) (b / 4294967296) (by omega) (by omega)
  have hQ := mul_small (a / 4294967296) (b % 4294967296) (by omega) (by omega)
  have hR := mul_small (a % 4294967296) (b / 4294967296) (by omega) (by omega)
  have hS := mul_small (a % 4294967296) (b % 4294967296) (by omega) (by omega)
  have hab : a * b = (a / 4294967296) * (b / 4294967296) * 18446744073709551616 + ((a / 4294967296) * (b % 4294967296) + (a % 4294967296) * (b / 4294967296)) * 4294967296 + (a % 4294967296) * (b % 4294967296) := by
    have h1 : a = 4294967296 * (a / 4294967296) + a % 4294967296 := by omega
    have h2 : b = 4294967296 * (b / 4294967296) + b % 4294967296 := by omega
    generalize a / 4294967296 = x at *
    generalize a % 4294967296 = y at *
    generalize b / 4294967296 = u at *
    generalize b % 4294967296 = v at *
    subst h1 h2
    rw [Nat.add_mul, Nat.mul_add, Nat.mul_add]
    have e1 : 4294967296 * x * (4294967296 * u) = x * u * 18446744073709551616 := by
      rw [Nat.mul_assoc, Nat.mul_left_comm x, ← Nat.mul_assoc, Nat.mul_comm]
    have e2 : 4294967296 * x * v = x * v * 4294967296 := by rw [Nat.mul_assoc, Nat.mul_comm]
    have e3 : y * (4294967296 * u) = y * u * 4294967296 := by rw [Nat.mul_left_comm, Nat.mul_comm]
    rw [e1, e2, e3]
    omega
  simp only [← Int.natCast_mul]
  have hlo : IntKind.u64.wrap ((a * b : Nat) : Int) = ((a * b % 18446744073709551616 : Nat) : Int) := by rw [wu64]; simp
  rw [hlo, hab]
  have hh := halves (a / 4294967296 * (b / 4294967296)) (a / 4294967296 * (b % 4294967296)) (a % 4294967296 * (b / 4294967296)) (a % 4294967296 * (b % 4294967296))
  generalize (a / 4294967296) * (b / 4294967296) = P at *
  generalize (a / 4294967296) * (b % 4294967296) = Q at *
  generalize (a % 4294967296) * (b / 4294967296) = R at *
  generalize (a % 4294967296) * (b % 4294967296) = S at *
  rw [← hh]
  have c1 : IntKind.u64.wrap (S : Int) = (S : Int) := wn S (by omega)
  have c2 : IntKind.u64.wrap (P : Int) = (P : Int) := wn P (by omega)
  have c3 : IntKind.u64.wrap (Q : Int) = (Q : Int) := wn Q (by omega)
  have c4 : IntKind.u64.wrap (R : Int) = (R : Int) := wn R (by omega)
  rw [c1, c2, c3, c4]
  have d1 : (Q : Int) + (S : Int) / 4294967296 = ((Q + S / 4294967296 : Nat) : Int) := by simp
  rw [d1, wn (Q + S / 4294967296) (by omega), and_low _ (by omega)]
  have d2 : ((Q + S / 4294967296 : Nat) : Int) / 4294967296 = (((Q + S / 4294967296) / 4294967296 : Nat) : Int) := by omega
  have d3 : (((Q + S / 4294967296) % 4294967296 : Nat) : Int) + (R : Int) = (((Q + S / 4294967296) % 4294967296 + R : Nat) : Int) := by omega
  rw [d2, d3, wn _ (by omega)]
  have d4 : (P : Int) + (((Q + S / 4294967296) / 4294967296 : Nat) : Int) = ((P + (Q + S / 4294967296) / 4294967296 : Nat) : Int) := by omega
  rw [d4, wn _ (by omega)]
  have d5 : ((P + (Q + S / 4294967296) / 4294967296 : Nat) : Int) + (((Q + S / 4294967296) % 4294967296 + R : Nat) : Int) / 4294967296 = ((P + (Q + S / 4294967296) / 4294967296 + ((Q + S / 4294967296) % 4294967296 + R) / 4294967296 : Nat) : Int) := by omega
  rw [d5, wn _ (by omega)]

/-- What both tell: the product, if it is an int. -/
def mulOf (a b : Int) : Int × Int := if -9223372036854775808 ≤ a * b ∧ a * b ≤ 9223372036854775807 then (a * b, 0) else (0, 10)
theorem mulOf_comm (a b : Int) : mulOf a b = mulOf b a := by unfold mulOf; rw [Int.mul_comm]
theorem size_some (a : Int) (ha : -9223372036854775808 ≤ a ∧ a ≤ 9223372036854775807) : num_size.f a = some (a.natAbs : Int) := by
  unfold num_size.f
  by_cases h : a < 0
  · rw [if_pos h, wu64, wu64]; congr 1; omega
  · rw [if_neg h, wu64]; congr 1; omega
theorem num_Mul_some (a b : Int) (ha : -9223372036854775808 ≤ a ∧ a ≤ 9223372036854775807) (hb : -9223372036854775808 ≤ b ∧ b ≤ 9223372036854775807) (k : Nat) (hk : 2 ≤ k) : num_Mul.f k a b = some (mulOf a b) := by
  obtain ⟨k, rfl⟩ : ∃ j, k = j + 2 := ⟨k - 2, by omega⟩
  have hz : ∀ a b : Int, (a = 0 ∨ b = 0) → num_Mul.j0 (k + 2) a b true = some (mulOf a b) := by
    intro a b h
    simp only [num_Mul.j0]
    rw [if_pos trivial]
    have : a * b = 0 := by rcases h with rfl | rfl <;> simp
    unfold mulOf; rw [this]; rfl
  unfold num_Mul.f
  by_cases h0 : a = 0
  · rw [if_pos h0]; exact hz a b (.inl h0)
  rw [if_neg h0]
  by_cases h1 : b = 0
  · rw [show (b == 0) = true from by rw [beq_iff_eq]; exact h1]; exact hz a b (.inr h1)
  rw [show (b == 0) = false from by rw [beq_eq_false_iff_ne]; exact h1]
  simp only [num_Mul.j0]
  rw [if_neg (by simp), size_some a ha, size_some b hb]
  simp only [Option.bind_some]
  rw [Mul64_some _ _ (by omega) (by omega)]
  simp only [Option.bind_some]
  have hab : a.natAbs * b.natAbs = (a * b).natAbs := (Int.natAbs_mul a b).symm
  rw [hab]
  have hsign : ((decide (a < 0)) != (decide (b < 0))) = decide (a * b < 0) := by
    rcases Int.lt_or_gt_of_ne h0 with h | h <;> rcases Int.lt_or_gt_of_ne h1 with h' | h'
    · have := Int.mul_pos_of_neg_of_neg h h'
      rw [decide_eq_true h, decide_eq_true h', decide_eq_false (by omega)]; rfl
    · have := Int.mul_neg_of_neg_of_pos h h'
      rw [decide_eq_true h, decide_eq_false (by omega), decide_eq_true this]; rfl
    · have := Int.mul_neg_of_pos_of_neg h h'
      rw [decide_eq_false (by omega), decide_eq_true h', decide_eq_true this]; rfl
    · have := Int.mul_pos h h'
      rw [decide_eq_false (by omega), decide_eq_false (by omega), decide_eq_false (by omega)]; rfl
  have hne : a * b ≠ 0 := Int.mul_ne_zero h0 h1
  rw [hsign]
  unfold mulOf
  generalize a * b = p at *
  clear hab hsign hz
  have over : num_Mul.j1 (k + 1) (decide (p < 0)) ((p.natAbs % 18446744073709551616 : Nat) : Int) true = some (0, 10) := by simp only [num_Mul.j1]; rw [if_pos trivial]
  have fine : -9223372036854775808 ≤ p ∧ p ≤ 9223372036854775807 → num_Mul.j1 (k + 1) (decide (p < 0)) ((p.natAbs % 18446744073709551616 : Nat) : Int) false = some (p, 0) := by
    intro hr
    simp only [num_Mul.j1]
    rw [if_neg (by simp)]
    by_cases h : p < 0
    · rw [decide_eq_true h, if_pos rfl, wu64]
      congr 2; unfold wrap64; omega
    · rw [decide_eq_false h, if_neg (by simp)]
      congr 2; unfold wrap64; omega
  by_cases hr : -9223372036854775808 ≤ p ∧ p ≤ 9223372036854775807
  · rw [if_pos hr, if_pos (by omega), if_neg (by omega)]
    by_cases hq : ((p.natAbs % 18446744073709551616 : Nat) : Int) = 9223372036854775808
    · rw [if_pos hq, decide_eq_true (by omega : p < 0)]
      have := fine hr
      rw [decide_eq_true (by omega : p < 0)] at this
      exact this
    · rw [if_neg hq]; exact fine hr
  · rw [if_neg hr]
    by_cases h2 : ((p.natAbs / 18446744073709551616 : Nat) : Int) = 0
    · rw [if_pos h2]
      by_cases h3 : ((p.natAbs % 18446744073709551616 : Nat) : Int) > 9223372036854775808
      · rw [if_pos h3]; exact over
      · rw [if_neg h3, if_pos (by omega), decide_eq_false (by omega : ¬ p < 0)]
        rw [decide_eq_false (by omega : ¬ p < 0)] at over
        exact over
    · rw [if_neg h2]; exact over
theorem tdiv_near (n b : Int) (hb : b ≠ 0) : (n - Int.tdiv n b * b).natAbs < b.natAbs := by
  have h := Int.mul_tdiv_add_tmod n b
  have h2 : n - Int.tdiv n b * b = Int.tmod n b := by rw [Int.mul_comm]; omega
  rw [h2, Int.natAbs_tmod]
  exact Nat.mod_lt _ (by omega)
theorem tdiv_le (n b : Int) : (Int.tdiv n b).natAbs ≤ n.natAbs := by rw [Int.natAbs_tdiv]; exact Nat.div_le_self _ _
theorem ref_Mul_some (a b : Int) (ha : -9223372036854775808 ≤ a ∧ a ≤ 9223372036854775807) (hb : -9223372036854775808 ≤ b ∧ b ≤ 9223372036854775807) (k : Nat) (hk : 2 ≤ k) : lodestarref01_Mul.f k a b = some (mulOf a b) := by
  obtain ⟨k, rfl⟩ : ∃ j, k = j + 2 := ⟨k - 2, by omega⟩
  have hz : ∀ a b : Int, (a = 0 ∨ b = 0) → lodestarref01_Mul.j0 (k + 2) a b true = some (mulOf a b) := by
    intro a b h
    simp only [lodestarref01_Mul.j0]
    rw [if_pos trivial]
    have : a * b = 0 := by rcases h with rfl | rfl <;> simp
    unfold mulOf; rw [this]; rfl
  unfold lodestarref01_Mul.f
  by_cases h0 : a = 0
  · rw [if_pos h0]; exact hz a b (.inl h0)
  rw [if_neg h0]
  by_cases h1 : b = 0
  · rw [show (b == 0) = true from by rw [beq_iff_eq]; exact h1]; exact hz a b (.inr h1)
  rw [show (b == 0) = false from by rw [beq_eq_false_iff_ne]; exact h1]
  clear hz
  simp only [lodestarref01_Mul.j0]
  rw [if_neg (by simp)]
  have over : a * b = 9223372036854775808 → lodestarref01_Mul.j1 (k + 1) a b true = some (mulOf a b) := by
    intro h
    simp only [lodestarref01_Mul.j1]
    rw [if_pos trivial]
    unfold mulOf
    rw [h]; rfl
  have rest : ¬ (a = -1 ∧ b = -9223372036854775808) → ¬ (b = -1 ∧ a = -9223372036854775808) → lodestarref01_Mul.j1 (k + 1) a b false = some (mulOf a b) := by
    intro n1 n2
    simp only [lodestarref01_Mul.j1]
    rw [if_neg (by simp), if_neg h1]
    unfold mulOf
    by_cases hr : -9223372036854775808 ≤ a * b ∧ a * b ≤ 9223372036854775807
    · have e : Int.tdiv (a * b) b = a := Int.mul_tdiv_cancel a h1
      rw [if_pos hr, w64 hr.1 hr.2, e, w64 ha.1 ha.2, if_pos rfl]
    · rw [if_neg hr, if_neg]
      intro e
      obtain ⟨t, ht⟩ := wrap64_spec (a * b)
      have hrg := wrap64_range (a * b)
      have ht0 : t ≠ 0 := by rintro rfl; omega
      have hle := tdiv_le (wrap64 (a * b)) b
      by_cases hov : Int.tdiv (wrap64 (a * b)) b = 9223372036854775808
      · -- only the least by -1
        have hnear := tdiv_near (wrap64 (a * b)) b h1
        rw [hov] at hnear
        have : b = -1 := by
          refine Decidable.byContradiction fun hb1 => ?_
          have h2 : b.natAbs ≥ 1 := by omega
          have h3 := Int.natAbs_tdiv (wrap64 (a * b)) b
          rw [hov] at h3
          have h5 : (9223372036854775808 : Int).natAbs = 9223372036854775808 := rfl
          rw [h5] at h3
          have h4 : (wrap64 (a * b)).natAbs ≤ 9223372036854775808 := by omega
          by_cases hb2 : b.natAbs = 1
          · have : b = 1 := by omega
            subst this
            rw [Int.tdiv_one] at hov
            omega
          · have : (wrap64 (a * b)).natAbs / b.natAbs ≤ (wrap64 (a * b)).natAbs / 2 := Nat.div_le_div_left (by omega) (by omega)
            omega
        subst this
        rw [hov] at e
        have : wrap64 9223372036854775808 = -9223372036854775808 := by unfold wrap64; rfl
        rw [this] at e
        exact n2 ⟨rfl, e.symm⟩
      · have hw : wrap64 (Int.tdiv (wrap64 (a * b)) b) = Int.tdiv (wrap64 (a * b)) b := w64 (by omega) (by omega)
        rw [hw] at e
        have hnear := tdiv_near (wrap64 (a * b)) b h1
        rw [e] at hnear
        have : wrap64 (a * b) - a * b = 18446744073709551616 * t := by omega
        rw [this] at hnear
        omega
  by_cases h2 : a = -1
  · rw [if_pos h2]
    by_cases h3 : b = -9223372036854775808
    · rw [if_pos h3]; exact over (by rw [h2, h3]; rfl)
    · rw [if_neg h3]
      by_cases h4 : b = -1
      · rw [if_pos h4, show (a == -9223372036854775808) = false from by rw [beq_eq_false_iff_ne]; omega]
        exact rest (by omega) (by omega)
      · rw [if_neg h4]; exact rest (by omega) (by omega)
  · rw [if_neg h2]
    by_cases h4 : b = -1
    · rw [if_pos h4]
      by_cases h5 : a = -9223372036854775808
      · rw [show (a == -9223372036854775808) = true from by rw [beq_iff_eq]; exact h5]; exact over (by rw [h4, h5]; rfl)
      · rw [show (a == -9223372036854775808) = false from by rw [beq_eq_false_iff_ne]; exact h5]; exact rest (by omega) (by omega)
    · rw [if_neg h4]; exact rest (by omega) (by omega)
end Go.Proofs.Ytbckkllhobcgjaa.P
