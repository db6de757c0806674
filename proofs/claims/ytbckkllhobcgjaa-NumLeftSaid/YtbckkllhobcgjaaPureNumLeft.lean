/- lodestarlaw01.NumLeft: what a quotient downwards leaves lies from 0 up to the divisor. For every two ints. -/
import Derived.Test.YtbckkllhobcgjaaQDiv
import Derived.Test.YtbckkllhobcgjaaQAwake
import Derived.Test.YtbckkllhobcgjaaPx1
namespace Go.Proofs.Ytbckkllhobcgjaa.Pure
open Go.RowKit Go.Proofs.Ytbckkllhobcgjaa.P Go.Proofs.YtbckkllhobcgjaaW.PrintWords Go.Proofs.YtbckkllhobcgjaaW.PrintLast
open Go.Proofs.Ytbckkllhobcgjaa.Q
theorem NumLeft : lodestarlaw01_NumLeft.Pure := by
  intro a b wa wb
  have ba := i64_bounds wa
  have bb := i64_bounds wb
  refine ⟨64, ?_⟩
  unfold lodestarlaw01_NumLeft.f
  by_cases hb : b = 0
  · subst hb
    rw [num_Div_zero, awake_some]
    simp
  · by_cases ho : a = -9223372036854775808 ∧ b = -1
    · obtain ⟨rfl, rfl⟩ := ho
      rw [num_Div_over 64 (by omega), awake_some]
      simp
    · rw [num_Div_down a b ba hb ho 64 (by omega), awake_some]
      simp only [Option.bind_some]
      rw [if_pos trivial, wrap64_sub_right]
      rcases Int.lt_or_gt_of_ne hb with hn | hp
      · have := fdiv_neg (a := a) hn
        rw [w64 (by omega) (by omega)]
        rw [if_neg (by omega), if_pos (by omega), if_pos (by omega)]
      · have := fdiv_pos (a := a) hp
        rw [w64 (by omega) (by omega)]
        rw [if_pos (by omega), if_pos (by omega), if_pos (by omega)]
end Go.Proofs.Ytbckkllhobcgjaa.Pure
