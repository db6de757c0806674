/- lodestarlaw01.NumDraws: the draws of any seed, one behind the other, are those of the document; below any number. For every uint64 and every two ints. -/
import Derived.Test.YtbckkllhobcgjaaQDraw
import Derived.Test.YtbckkllhobcgjaaQAwake
import Derived.Test.YtbckkllhobcgjaaPx2
namespace Go.Proofs.Ytbckkllhobcgjaa.Pure
open Go.RowKit Go.Proofs.Ytbckkllhobcgjaa.P Go.Proofs.YtbckkllhobcgjaaW.PrintWords Go.Proofs.YtbckkllhobcgjaaW.PrintLast
open Go.Proofs.Ytbckkllhobcgjaa.Q
theorem draws_loop (n times : Int) (hn : -9223372036854775808 ≤ n ∧ n ≤ 9223372036854775807) : ∀ (d : Nat) (a i : Int), 0 ≤ i → 50 - i ≤ d → i ≤ 50 → ∀ k, 64 + 2 * d + 2 ≤ k → lodestarlaw01_NumDraws.l0 k n times a a i = some true := by
  have hout : ∀ (k : Nat) (a i : Int), 64 ≤ k → lodestarlaw01_NumDraws.j1 (k + 1) n times a a i false = some true := by
    intro k a i hk
    simp only [lodestarlaw01_NumDraws.j1]
    rw [if_neg (by simp), at_rounds (g := fun k => lodestarlaw01_awake.f k) (fun k => lodestarlaw01_awake.mono k) hk awake_some]
    rfl
  intro d
  induction d with
  | zero =>
    intro a i h0 hd h50 k hk
    obtain ⟨k, rfl⟩ : ∃ j, k = j + 2 := ⟨k - 2, by omega⟩
    simp only [lodestarlaw01_NumDraws.l0]
    have : decide (i < 50) = false := by simp; omega
    rw [this]
    split <;> exact hout k a i (by omega)
  | succ d ih =>
    intro a i h0 hd h50 k hk
    obtain ⟨k, rfl⟩ : ∃ j, k = j + 2 := ⟨k - 2, by omega⟩
    simp only [lodestarlaw01_NumDraws.l0]
    by_cases h1 : i < times
    · rw [if_pos h1]
      by_cases h2 : i < 50
      · rw [decide_eq_true h2]
        simp only [lodestarlaw01_NumDraws.j1]
        obtain ⟨x, s, y, t, e1, e2, e3, e4, hb⟩ := draws_told a n hn.2
        rw [if_pos trivial, e1, e2, e3, e4]
        simp only [Option.bind_some, if_true]
        have e : wrap64 (i + 1) = i + 1 := w64 (by omega) (by omega)
        rw [e]
        have go := ih s (i + 1) (by omega) (by omega) (by omega) k (by omega)
        rw [go]
        by_cases h3 : n > 0
        · have hb := hb (by omega)
          rw [if_pos h3, if_neg (by omega), if_neg (by omega)]
        · rw [if_neg h3]
      · rw [decide_eq_false h2]
        exact hout k a i (by omega)
    · rw [if_neg h1]
      exact hout k a i (by omega)
theorem NumDraws : lodestarlaw01_NumDraws.Pure := by
  intro a n times wa wn wt
  refine ⟨200, ?_⟩
  unfold lodestarlaw01_NumDraws.f
  exact draws_loop n times (i64_bounds wn) 50 a 0 (by omega) (by omega) (by omega) 200 (by omega)
end Go.Proofs.Ytbckkllhobcgjaa.Pure
