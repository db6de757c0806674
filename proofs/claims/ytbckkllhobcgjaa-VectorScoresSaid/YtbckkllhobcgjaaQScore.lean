/- The score of two vectors: the program's and the document's. -/
import Derived.Test.YtbckkllhobcgjaaQVecRef
import Derived.Test.YtbckkllhobcgjaaPx35
import Derived.Test.YtbckkllhobcgjaaPx43
import Derived.Test.YtbckkllhobcgjaaPx41
namespace Go.Proofs.Ytbckkllhobcgjaa.P
open Go.RowKit Go.Proofs.YtbckkllhobcgjaaW.PrintWords Go.Proofs.YtbckkllhobcgjaaW.PrintLast
open Go.Proofs.Ytbckkllhobcgjaa.Q
theorem ref_Div_zero (a : Int) (k : Nat) : lodestarref01_Div.f k a 0 = some (0, 1) := by unfold lodestarref01_Div.f; rw [if_pos rfl]
theorem ref_Div_down (a b : Int) (ha : -9223372036854775808 ≤ a ∧ a ≤ 9223372036854775807) (hb : b ≠ 0) (h : ¬ (a = -9223372036854775808 ∧ b = -1)) (k : Nat) (hk : 1 ≤ k) : lodestarref01_Div.f k a b = some (a.fdiv b, 0) := by
  obtain ⟨k, rfl⟩ : ∃ j, k = j + 1 := ⟨k - 1, by omega⟩
  have hr := fdiv_range ha hb h
  have hd := tdiv_down a b hb
  have hj : lodestarref01_Div.j0 (k + 1) a b false = some (a.fdiv b, 0) := by
    simp only [lodestarref01_Div.j0]
    rw [if_neg (by simp), if_neg hb]
    by_cases h1 : Int.tmod a b = 0
    · rw [if_pos h1] at hd ⊢
      rw [hd, w64 hr.1 hr.2]
    · rw [if_neg h1] at hd ⊢
      by_cases h2 : (decide (a < 0) != decide (b < 0)) = true
      · rw [if_pos h2] at hd ⊢
        rw [wrap64_sub_left, hd, w64 hr.1 hr.2]
      · rw [if_neg h2] at hd ⊢
        rw [hd, w64 hr.1 hr.2]
  unfold lodestarref01_Div.f
  rw [if_neg hb]
  by_cases h1 : a = -9223372036854775808
  · rw [if_pos h1]
    have : (b == -1) = false := by rw [beq_eq_false_iff_ne]; exact fun e => h ⟨h1, e⟩
    rw [this, hj]
  · rw [if_neg h1, hj]
theorem ref_Cos_some (a b : List Int) (ha : a.length ≤ 17592186044416) (hb : b.length ≤ 17592186044416) (k : Nat) (hk : 3 * a.length + 3 * b.length + 40 < k) : lodestarref06_Cos.f k a b = some (cosOf a b) := by
  obtain ⟨k, rfl⟩ : ∃ j, k = j + 1 := ⟨k - 1, by omega⟩
  have hd := dot_range a b
  have hr := roots_prod a b
  unfold lodestarref06_Cos.f
  rw [ref_Dot_some a a ha ha _ (by omega), ref_Dot_some b b hb hb _ (by omega), ref_both_some a b ha hb _ (by omega) (by omega)]
  simp only [Option.bind_some]
  rw [(root_spec _ (by have := (dot_range a a).2; omega)).2.1 _ (by omega)]
  simp only [Option.bind_some]
  rw [(root_spec _ (by have := (dot_range b b).2; omega)).2.1 _ (by omega)]
  simp only [Option.bind_some]
  rw [w64 (n := root (dot a a) * root (dot b b)) (by omega) (by omega)]
  unfold cosOf
  by_cases hbo : bothB a b = true
  · rw [if_pos hbo]
    simp only [lodestarref06_Cos.j0]
    by_cases h : root (dot a a) * root (dot b b) = 0
    · rw [if_pos h, if_pos (by rw [beq_iff_eq]; exact h)]
    · rw [if_neg h, if_neg (by rw [beq_iff_eq]; exact h), ref_Dot_some a b ha hb k (by omega)]
      simp only [Option.bind_some]
      rw [w64 (n := dot a b * 1048576) (by omega) (by omega), ref_Div_down _ _ (by omega) h (by omega) k (by omega)]; rfl
  · rw [if_neg hbo]
    simp only [lodestarref06_Cos.j0]
    rw [if_pos trivial]
    have h0 : dot a b = 0 := by unfold dot; rw [if_neg hbo]
    rw [h0]
    by_cases h : root (dot a a) * root (dot b b) = 0
    · rw [if_pos h]
    · rw [if_neg h]
      congr 1
/-- What both tell of two vectors under a metric. -/
noncomputable def scoreOf (m : Int) (a b : List Int) : Int × Int :=
  if checkV a (a.length : Int) m = 0 ∧ checkV b (a.length : Int) m = 0 then (if m = 1 then (l2 a b, 0) else if m = 2 then (dot a b, 0) else (cosOf a b, 0)) else (0, 60)
theorem vector_Score_some (m : Int) (a b : List Int) (ha : a.length ≤ 17592186044416) (hb : b.length ≤ 17592186044416) (k : Nat) (hk : a.length + b.length + 40 < k) : vector_Score.f k m a b = some (scoreOf m a b) := by
  obtain ⟨k, rfl⟩ : ∃ j, k = j + 1 := ⟨k - 1, by omega⟩
  unfold vector_Score.f scoreOf
  rw [vector_Check_some a ha _ _ _ (by omega), vector_Check_some b hb _ _ _ (by omega)]
  simp only [Option.bind_some]
  by_cases h1 : checkV a (a.length : Int) m = 0
  · rw [if_pos h1]
    by_cases h2 : checkV b (a.length : Int) m = 0
    · rw [if_pos ⟨h1, h2⟩, show (checkV b (a.length : Int) m != 0) = false from by rw [h2]; rfl]
      simp only [vector_Score.j0]
      rw [if_neg (by simp), vector_L2_some a b ha hb k (by omega) (by omega), vector_Dot_some a b ha hb k (by omega) (by omega), vector_Cos_some a b ha hb k (by omega) (by omega) (by omega)]
      simp only [Option.bind_some]
      repeat' split
      all_goals rfl
    · rw [if_neg (fun h => h2 h.2), show (checkV b (a.length : Int) m != 0) = true from by rw [bne_iff_ne]; exact h2]
      simp only [vector_Score.j0]
      rw [if_pos trivial]
  · rw [if_neg h1, if_neg (fun h => h1 h.1)]
    simp only [vector_Score.j0]
    rw [if_pos trivial]
theorem ref_Score_some (m : Int) (a b : List Int) (ha : a.length ≤ 17592186044416) (hb : b.length ≤ 17592186044416) (k : Nat) (hk : 3 * a.length + 3 * b.length + 50 < k) : lodestarref06_Score.f k m a b = some (scoreOf m a b) := by
  obtain ⟨k, rfl⟩ : ∃ j, k = j + 1 := ⟨k - 1, by omega⟩
  unfold lodestarref06_Score.f scoreOf
  rw [ref_Check_some a ha _ _ _ (by omega), ref_Check_some b hb _ _ _ (by omega)]
  simp only [Option.bind_some]
  by_cases h1 : checkV a (a.length : Int) m = 0
  · rw [if_pos h1]
    by_cases h2 : checkV b (a.length : Int) m = 0
    · rw [if_pos ⟨h1, h2⟩, show (checkV b (a.length : Int) m != 0) = false from by rw [h2]; rfl]
      simp only [lodestarref06_Score.j0]
      rw [if_neg (by simp), ref_L2_some a b ha hb k (by omega), ref_Dot_some a b ha hb k (by omega), ref_Cos_some a b ha hb k (by omega)]
      simp only [Option.bind_some]
      repeat' split
      all_goals rfl
    · rw [if_neg (fun h => h2 h.2), show (checkV b (a.length : Int) m != 0) = true from by rw [bne_iff_ne]; exact h2]
      simp only [lodestarref06_Score.j0]
      rw [if_pos trivial]
  · rw [if_neg h1, if_neg (fun h => h1 h.1)]
    simp only [lodestarref06_Score.j0]
    rw [if_pos trivial]
end Go.Proofs.Ytbckkllhobcgjaa.P
