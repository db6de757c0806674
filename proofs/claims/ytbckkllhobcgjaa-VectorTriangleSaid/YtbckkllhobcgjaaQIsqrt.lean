/- The root downwards by bits, and by halving: both come to the root. -/
import Derived.Test.YtbckkllhobcgjaaQMath
import Derived.Test.YtbckkllhobcgjaaPx1
import Derived.Test.YtbckkllhobcgjaaPx7
namespace Go.Proofs.Ytbckkllhobcgjaa.P
open Go.RowKit Go.Proofs.YtbckkllhobcgjaaW.PrintWords Go.Proofs.YtbckkllhobcgjaaW.PrintLast
open Go.Proofs.Ytbckkllhobcgjaa.Q

theorem num_Isqrt_loop (n : Int) (h1 : 1 ≤ n) (h2 : n ≤ 9223372036854775807) : ∀ (m : Nat), m ≤ 32 → ∀ r : Int, 0 ≤ r → r % 2 ^ m = 0 → r + 2 ^ m ≤ 4294967296 → r * r ≤ n → n < (r + 2 ^ m) * (r + 2 ^ m) →
    ∀ k, m < k → ∃ s, num_Isqrt.l0 k n r (2 ^ m / 2) = some s ∧ IsRoot n s := by
  intro m
  induction m with
  | zero =>
    intro _ r h0 _ _ hle hlt k hk
    obtain ⟨k, rfl⟩ : ∃ j, k = j + 1 := ⟨k - 1, by omega⟩
    refine ⟨r, ?_, h0, hle, by simpa using hlt⟩
    simp only [num_Isqrt.l0]
    rw [if_neg (by simp)]
  | succ m ih =>
    intro hm r h0 hd hb hle hlt k hk
    obtain ⟨k, rfl⟩ : ∃ j, k = j + 1 := ⟨k - 1, by omega⟩
    have hB0 := Int.pow_pos (n := 2) (m := m) (by omega)
    have hB1 : (2 : Int) ^ (m + 1) = 2 ^ m * 2 := Int.pow_succ 2 m
    have hhalf : (2 : Int) ^ (m + 1) / 2 = 2 ^ m := by rw [hB1]; omega
    have hor : Go.bits .or .i64 r (2 ^ m) = r + 2 ^ m := or_join h0 (by omega) hd (by omega)
    rw [hhalf]
    have hd2 : r % 2 ^ m = 0 := by
      have := Int.emod_emod_of_dvd r (Int.dvd_mul_right (2 ^ m) 2)
      rw [← hB1, hd] at this
      simpa using this.symm
    simp only [num_Isqrt.l0]
    rw [hor, if_pos hB0, if_neg (by omega)]
    have htd : Int.tdiv n (r + 2 ^ m) = n / (r + 2 ^ m) := Int.tdiv_eq_ediv_of_nonneg (by omega)
    have hq0 : 0 ≤ n / (r + 2 ^ m) := Int.ediv_nonneg (by omega) (by omega)
    have hq1 : n / (r + 2 ^ m) ≤ n := Int.ediv_le_self _ (by omega)
    rw [htd, w64 (by omega) (by omega)]
    have hiff : r + 2 ^ m ≤ n / (r + 2 ^ m) ↔ (r + 2 ^ m) * (r + 2 ^ m) ≤ n := Int.le_ediv_iff_mul_le (by omega)
    by_cases hc : (r + 2 ^ m) * (r + 2 ^ m) ≤ n
    · rw [if_pos (hiff.2 hc)]
      refine ih (by omega) _ (by omega) ?_ (by omega) hc ?_ k (by omega)
      · rw [Int.add_emod_right, hd2]
      · have e : r + 2 ^ m + 2 ^ m = r + 2 ^ (m + 1) := by omega
        rw [e]; exact hlt
    · rw [if_neg (fun h => hc (hiff.1 h))]
      exact ih (by omega) _ h0 hd2 (by omega) hle (by omega) k (by omega)

theorem num_Isqrt_some (n : Int) (h2 : n ≤ 9223372036854775807) : ∃ s, (∀ k, 33 ≤ k → num_Isqrt.f k n = some s) ∧ ((n < 1 ∧ s = 0) ∨ (1 ≤ n ∧ IsRoot n s)) := by
  by_cases h : n < 1
  · exact ⟨0, fun k _ => by unfold num_Isqrt.f; rw [if_pos h], .inl ⟨h, rfl⟩⟩
  · obtain ⟨s, hs, hr⟩ := num_Isqrt_loop n (by omega) h2 32 (Nat.le_refl _) 0 (by omega) (by simp) (by simp) (by omega) (by simp; omega) 33 (by omega)
    refine ⟨s, fun k hk => ?_, .inr ⟨by omega, hr⟩⟩
    unfold num_Isqrt.f
    rw [if_neg h]
    have e : (2 : Int) ^ 32 / 2 = 2147483648 := by decide
    rw [e] at hs
    exact at_rounds (g := fun k => num_Isqrt.l0 k n 0 2147483648) (fun k => num_Isqrt.mono_l k n 0 2147483648) hk hs

theorem ref_Isqrt_loop (n : Int) : ∀ (d : Nat), ∀ lo hi : Int, 0 ≤ lo → lo ≤ hi → hi ≤ 3037000499 → hi - lo < 2 ^ d → lo * lo ≤ n → n < (hi + 1) * (hi + 1) →
    ∀ k, d < k → ∃ s, lodestarref01_Isqrt.l0 k n lo hi = some s ∧ IsRoot n s := by
  intro d
  induction d with
  | zero =>
    intro lo hi h0 hle hm hd hlo hhi k hk
    obtain ⟨k, rfl⟩ : ∃ j, k = j + 1 := ⟨k - 1, by omega⟩
    have : hi = lo := by simp at hd; omega
    subst this
    refine ⟨hi, ?_, h0, hlo, hhi⟩
    simp only [lodestarref01_Isqrt.l0]
    rw [if_neg (by omega)]
  | succ d ih =>
    intro lo hi h0 hle hm hd hlo hhi k hk
    obtain ⟨k, rfl⟩ : ∃ j, k = j + 1 := ⟨k - 1, by omega⟩
    by_cases e : lo < hi
    · have hp : (2 : Int) ^ (d + 1) = 2 ^ d * 2 := Int.pow_succ 2 d
      simp only [lodestarref01_Isqrt.l0]
      rw [if_pos e, w64 (n := lo + hi) (by omega) (by omega), w64 (n := lo + hi + 1) (by omega) (by omega)]
      have htd : Int.tdiv (lo + hi + 1) 2 = (lo + hi + 1) / 2 := Int.tdiv_eq_ediv_of_nonneg (by omega)
      rw [htd, w64 (n := (lo + hi + 1) / 2) (by omega) (by omega)]
      generalize hmid : (lo + hi + 1) / 2 = mid
      have hmm : mid * mid ≤ 3037000499 * 3037000499 := sq_mono (by omega) (by omega)
      have hm0 : 0 ≤ mid * mid := Int.mul_nonneg (by omega) (by omega)
      rw [w64 (n := mid * mid) (by omega) (by omega)]
      by_cases hc : mid * mid ≤ n
      · rw [if_pos hc]
        exact ih mid hi (by omega) (by omega) hm (by omega) hc hhi k (by omega)
      · rw [if_neg hc, w64 (n := mid - 1) (by omega) (by omega)]
        refine ih lo (mid - 1) h0 (by omega) (by omega) (by omega) hlo ?_ k (by omega)
        rw [Int.sub_add_cancel]; omega
    · have : hi = lo := by omega
      subst this
      refine ⟨hi, ?_, h0, hlo, hhi⟩
      simp only [lodestarref01_Isqrt.l0]
      rw [if_neg (by omega)]

theorem ref_Isqrt_some (n : Int) (h2 : n ≤ 9223372036854775807) : ∃ s, (∀ k, 33 ≤ k → lodestarref01_Isqrt.f k n = some s) ∧ ((n < 1 ∧ s = 0) ∨ (1 ≤ n ∧ IsRoot n s)) := by
  by_cases h : n < 1
  · exact ⟨0, fun k _ => by unfold lodestarref01_Isqrt.f; rw [if_pos h], .inl ⟨h, rfl⟩⟩
  · obtain ⟨s, hs, hr⟩ := ref_Isqrt_loop n 32 0 3037000499 (by omega) (by omega) (by omega) (by decide) (by omega) (by omega) 33 (by omega)
    refine ⟨s, fun k hk => ?_, .inr ⟨by omega, hr⟩⟩
    unfold lodestarref01_Isqrt.f
    rw [if_neg h]
    exact at_rounds (g := fun k => lodestarref01_Isqrt.l0 k n 0 3037000499) (fun k => lodestarref01_Isqrt.mono_l k n 0 3037000499) hk hs
/-- Both tell one root. -/
theorem Isqrt_same (n : Int) (h2 : n ≤ 9223372036854775807) : ∃ s, (∀ k, 33 ≤ k → num_Isqrt.f k n = some s) ∧ (∀ k, 33 ≤ k → lodestarref01_Isqrt.f k n = some s) ∧ ((n < 1 ∧ s = 0) ∨ (1 ≤ n ∧ IsRoot n s)) := by
  obtain ⟨s, hs, h⟩ := num_Isqrt_some n h2
  obtain ⟨t, ht, k⟩ := ref_Isqrt_some n h2
  have : t = s := by
    rcases h with ⟨h1, rfl⟩ | ⟨h1, hr⟩ <;> rcases k with ⟨k1, rfl⟩ | ⟨k1, kr⟩
    · rfl
    · omega
    · omega
    · exact kr.unique hr
  subst this
  exact ⟨t, hs, ht, h⟩
end Go.Proofs.Ytbckkllhobcgjaa.P
