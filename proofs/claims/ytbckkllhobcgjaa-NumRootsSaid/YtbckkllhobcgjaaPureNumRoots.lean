/- lodestarlaw01.NumRoots: the root of any number downwards: its square is no more, the next one's is. For every int. -/
import Derived.Test.YtbckkllhobcgjaaQIsqrt
import Derived.Test.YtbckkllhobcgjaaQAwake
import Derived.Test.YtbckkllhobcgjaaPx1
namespace Go.Proofs.Ytbckkllhobcgjaa.Pure
open Go.RowKit Go.Proofs.Ytbckkllhobcgjaa.P Go.Proofs.YtbckkllhobcgjaaW.PrintWords Go.Proofs.YtbckkllhobcgjaaW.PrintLast
open Go.Proofs.Ytbckkllhobcgjaa.Q
theorem NumRoots : lodestarlaw01_NumRoots.Pure := by
  intro n w
  obtain ⟨b0, b1⟩ := i64_bounds w
  obtain ⟨s, h1, h2, h⟩ := Isqrt_same n b1
  refine ⟨64, ?_⟩
  unfold lodestarlaw01_NumRoots.f
  rw [h1 64 (by omega), h2 64 (by omega), awake_some]
  simp only [Option.bind_some]
  rcases h with ⟨hn, rfl⟩ | ⟨hn, hr⟩
  · rw [if_pos hn, if_pos rfl]
  · have hm := hr.le_most b1
    obtain ⟨r0, r1, r2⟩ := hr
    have e : (s + 1) * (s + 1) = s * s + 2 * s + 1 := by rw [Int.mul_add, Int.add_mul]; omega
    have hs0 : 0 ≤ s * s := Int.mul_nonneg r0 r0
    have hs1 : 1 ≤ s := by
      refine Int.not_lt.1 fun hl => ?_
      have : s = 0 := by omega
      subst this
      omega
    rw [w64 (n := s * s) (by omega) (by omega), w64 (n := n - s * s) (by omega) (by omega), w64 (n := 2 * s) (by omega) (by omega)]
    rw [if_neg (by omega), if_pos (by omega), if_pos (by omega), if_pos (by omega), if_pos (by omega), if_pos trivial]
end Go.Proofs.Ytbckkllhobcgjaa.Pure
