/- The quotient downwards. -/
import Derived.Test.YtbckkllhobcgjaaQMath
import Derived.Test.YtbckkllhobcgjaaPx2
namespace Go.Proofs.Ytbckkllhobcgjaa.P
open Go.RowKit Go.Proofs.YtbckkllhobcgjaaW.PrintWords Go.Proofs.YtbckkllhobcgjaaW.PrintLast
open Go.Proofs.Ytbckkllhobcgjaa.Q

theorem num_Div_zero (a : Int) (k : Nat) : num_Div.f k a 0 = some (0, 1) := by unfold num_Div.f; rw [if_pos rfl]
theorem num_Div_over (k : Nat) (hk : 1 ≤ k) : num_Div.f k (-9223372036854775808) (-1) = some (0, 10) := by
  obtain ⟨k, rfl⟩ : ∃ j, k = j + 1 := ⟨k - 1, by omega⟩
  rfl
theorem num_Div_down (a b : Int) (ha : -9223372036854775808 ≤ a ∧ a ≤ 9223372036854775807) (hb : b ≠ 0) (h : ¬ (a = -9223372036854775808 ∧ b = -1)) (k : Nat) (hk : 1 ≤ k) : num_Div.f k a b = some (a.fdiv b, 0) := by
  obtain ⟨k, rfl⟩ : ∃ j, k = j + 1 := ⟨k - 1, by omega⟩
  have hr := fdiv_range ha hb h
  have hd := tdiv_down a b hb
  have hj : num_Div.j0 (k + 1) a b false = some (a.fdiv b, 0) := by
    simp only [num_Div.j0]
    rw [if_neg (by simp), if_neg hb]
    by_cases h1 : Int.tmod a b = 0
    · rw [if_pos h1] at hd ⊢
      rw [hd, w64 hr.1 hr.2]
    · rw [if_neg h1] at hd ⊢
      by_cases h2 : (decide (a < 0) != decide (b < 0)) = true
      · rw [if_pos h2] at hd ⊢
        rw [wrap64_sub_left, hd, w64 hr.1 hr.2]
      · rw [if_neg h2] at hd ⊢
        rw [hd, w64 hr.1 hr.2]
  unfold num_Div.f
  rw [if_neg hb]
  by_cases h1 : b = -1
  · rw [if_pos h1]
    have : (a == -9223372036854775808) = false := by rw [beq_eq_false_iff_ne]; exact fun e => h ⟨e, h1⟩
    rw [this, hj]
  · rw [if_neg h1, hj]
end Go.Proofs.Ytbckkllhobcgjaa.P
