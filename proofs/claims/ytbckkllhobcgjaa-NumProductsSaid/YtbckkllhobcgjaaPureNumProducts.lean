/- lodestarlaw01.NumProducts: the product and the quotient downwards of any two ints, or the error, are those of the document. -/
import Derived.Test.YtbckkllhobcgjaaQMul
import Derived.Test.YtbckkllhobcgjaaQDiv
import Derived.Test.YtbckkllhobcgjaaQAwake
import Derived.Test.YtbckkllhobcgjaaPx41
import Derived.Test.YtbckkllhobcgjaaPx52
namespace Go.Proofs.Ytbckkllhobcgjaa.Pure
open Go.RowKit Go.Proofs.Ytbckkllhobcgjaa.P Go.Proofs.YtbckkllhobcgjaaW.PrintWords Go.Proofs.YtbckkllhobcgjaaW.PrintLast
open Go.Proofs.Ytbckkllhobcgjaa.Q
theorem Div_same (a b : Int) (k : Nat) (hk : 1 ≤ k) : ∃ q e : Int, num_Div.f k a b = some (q, e) ∧ lodestarref01_Div.f k a b = some (q, e) := by
  obtain ⟨k, rfl⟩ : ∃ j, k = j + 1 := ⟨k - 1, by omega⟩
  unfold num_Div.f lodestarref01_Div.f
  simp only [num_Div.j0, lodestarref01_Div.j0]
  by_cases hb : b = 0
  · exact ⟨0, 1, by rw [if_pos hb], by rw [if_pos hb]⟩
  · simp only [if_neg hb]
    by_cases h1 : b = -1 <;> by_cases h2 : a = -9223372036854775808
    · exact ⟨0, 10, by simp [h1, h2], by simp [h1, h2]⟩
    · simp only [if_pos h1, if_neg h2, show (a == -9223372036854775808) = false from by rw [beq_eq_false_iff_ne]; exact h2]
      repeat' split
      all_goals exact ⟨_, _, rfl, rfl⟩
    · simp only [if_neg h1, if_pos h2, show (b == -1) = false from by rw [beq_eq_false_iff_ne]; exact h1]
      repeat' split
      all_goals exact ⟨_, _, rfl, rfl⟩
    · simp only [if_neg h1, if_neg h2]
      repeat' split
      all_goals exact ⟨_, _, rfl, rfl⟩
theorem NumProducts : lodestarlaw01_NumProducts.Pure := by
  intro a b wa wb
  have ba := i64_bounds wa
  have bb := i64_bounds wb
  obtain ⟨q, e, h1, h2⟩ := Div_same a b 64 (by omega)
  refine ⟨64, ?_⟩
  unfold lodestarlaw01_NumProducts.f
  rw [num_Mul_some a b ba bb 64 (by omega), num_Mul_some b a bb ba 64 (by omega), ref_Mul_some a b ba bb 64 (by omega), mulOf_comm b a, h1, h2, awake_some]
  simp only [Option.bind_some, if_true]
end Go.Proofs.Ytbckkllhobcgjaa.Pure
