/- The document's vectors: they come to the same as the program's. -/
import Derived.Test.YtlnilonlaedafaaQVec
import Derived.Test.YtlnilonlaedafaaPx5
import Derived.Test.YtlnilonlaedafaaPx5
import Derived.Test.YtlnilonlaedafaaPx1
import Derived.Test.YtlnilonlaedafaaPx6
import Derived.Test.YtlnilonlaedafaaPx15
namespace Go.Proofs.Ytlnilonlaedafaa.P
open Go.RowKit Go.Proofs.YtlnilonlaedafaaW.PrintWords Go.Proofs.YtlnilonlaedafaaW.PrintLast
open Go.Proofs.Ytlnilonlaedafaa.Q
theorem ref_May_loop (l : List Int) (hl : l.length ≤ 17592186044416) : ∀ (d i : Nat), i + d = l.length → ∀ k, d < k → lodestarref06_May.l0 k l (i : Int) = some ((l.drop i).all okPart && decide (1 ≤ l.length) && decide (l.length ≤ 64)) := by
  intro d
  induction d with
  | zero =>
    intro i hi k hk
    obtain ⟨k, rfl⟩ : ∃ j, k = j + 1 := ⟨k - 1, by omega⟩
    have hd : l.drop i = [] := List.drop_eq_nil_iff.2 (by omega)
    simp only [lodestarref06_May.l0]
    rw [if_neg (by omega), hd]
    by_cases h1 : 1 ≤ l.length
    · rw [if_pos (by omega), decide_eq_true h1]
      by_cases h2 : l.length ≤ 64
      · rw [decide_eq_true h2, decide_eq_true (by omega : (l.length : Int) ≤ 64)]; rfl
      · rw [decide_eq_false h2, decide_eq_false (by omega : ¬ (l.length : Int) ≤ 64)]; rfl
    · rw [if_neg (by omega), decide_eq_false h1]; rfl
  | succ d ih =>
    intro i hi k hk
    obtain ⟨k, rfl⟩ : ∃ j, k = j + 1 := ⟨k - 1, by omega⟩
    have hlt : i < l.length := by omega
    simp only [lodestarref06_May.l0]
    rw [if_pos (by omega), if_pos (by omega), rd_drop l i hlt, List.all_cons]
    by_cases h1 : rd l (i : Int) < -32768
    · rw [if_pos h1, okPart_false (.inl h1)]; simp
    · rw [if_neg h1]
      by_cases h2 : rd l (i : Int) > 32767
      · rw [if_pos h2, okPart_false (.inr h2)]; simp
      · rw [if_neg h2, okPart_true h1 h2, w64 (by omega) (by omega), Bool.true_and]
        exact ih (i + 1) (by omega) k (by omega)
theorem ref_May_some (l : List Int) (hl : l.length ≤ 17592186044416) (k : Nat) (hk : l.length < k) : lodestarref06_May.f k l = some (mayB l) := by
  unfold lodestarref06_May.f
  exact ref_May_loop l hl l.length 0 (by omega) k (by omega)
theorem ref_both_some (a b : List Int) (ha : a.length ≤ 17592186044416) (hb : b.length ≤ 17592186044416) (k : Nat) (hk : a.length < k) (hk2 : b.length < k) : lodestarref06_both.f k a b = some (bothB a b) := by
  unfold lodestarref06_both.f bothB
  rw [ref_May_some a ha k hk, ref_May_some b hb k hk2]
  simp only [Option.bind_some]
  have e : ((a.length : Int) == (b.length : Int)) = decide (a.length = b.length) := by
    by_cases h : a.length = b.length
    · rw [decide_eq_true h, beq_iff_eq]; omega
    · rw [decide_eq_false h, beq_eq_false_iff_ne]; omega
  rw [e]
  cases mayB a <;> cases mayB b <;> simp
theorem ref_L2_loop (a b : List Int) (h : bothB a b = true) : ∀ (d i : Nat), i + d = a.length → ∀ k, a.length + d < k → lodestarref06_L2.l0 k a b (vector_L2.acc i a b) (i : Int) = some (vector_L2.acc a.length a b) := by
  obtain ⟨hl, ha, hb⟩ := (bothB_iff a b).1 h
  have la := ((mayB_iff a).1 ha).2.2
  intro d
  induction d with
  | zero =>
    intro i hi k hk
    obtain ⟨k, rfl⟩ : ∃ j, k = j + 1 := ⟨k - 1, by omega⟩
    obtain rfl : i = a.length := by omega
    simp only [lodestarref06_L2.l0]
    rw [if_neg (by omega)]
  | succ d ih =>
    intro i hi k hk
    obtain ⟨k, rfl⟩ : ∃ j, k = j + 1 := ⟨k - 1, by omega⟩
    simp only [lodestarref06_L2.l0]
    rw [if_pos (by omega), ref_both_some a b (by omega) (by omega) k (by omega) (by omega), h]
    simp only [Option.bind_some, if_true]
    rw [if_pos (by omega), if_pos (by omega), w64 (n := (i : Int) + 1) (by omega) (by omega)]
    exact ih (i + 1) (by omega) k (by omega)
theorem ref_L2_some (a b : List Int) (ha : a.length ≤ 17592186044416) (hb : b.length ≤ 17592186044416) (k : Nat) (hk : 2 * a.length + b.length + 1 < k) : lodestarref06_L2.f k a b = some (l2 a b) := by
  unfold lodestarref06_L2.f l2
  by_cases h : bothB a b = true
  · rw [if_pos h, ← (l2_acc a b h a.length (Nat.le_refl _)).1]
    exact ref_L2_loop a b h a.length 0 (by omega) k (by omega)
  · rw [if_neg h]
    obtain ⟨k, rfl⟩ : ∃ j, k = j + 1 := ⟨k - 1, by omega⟩
    simp only [lodestarref06_L2.l0]
    rw [ref_both_some a b ha hb k (by omega) (by omega)]
    simp only [Option.bind_some]
    rw [if_neg h]; split <;> rfl
theorem ref_Dot_loop (a b : List Int) (h : bothB a b = true) : ∀ (d i : Nat), i + d = a.length → ∀ k, a.length + d < k → lodestarref06_Dot.l0 k a b (vector_Dot.acc i a b) (i : Int) = some (vector_Dot.acc a.length a b) := by
  obtain ⟨hl, ha, hb⟩ := (bothB_iff a b).1 h
  have la := ((mayB_iff a).1 ha).2.2
  intro d
  induction d with
  | zero =>
    intro i hi k hk
    obtain ⟨k, rfl⟩ : ∃ j, k = j + 1 := ⟨k - 1, by omega⟩
    obtain rfl : i = a.length := by omega
    simp only [lodestarref06_Dot.l0]
    rw [if_neg (by omega)]
  | succ d ih =>
    intro i hi k hk
    obtain ⟨k, rfl⟩ : ∃ j, k = j + 1 := ⟨k - 1, by omega⟩
    simp only [lodestarref06_Dot.l0]
    rw [if_pos (by omega), ref_both_some a b (by omega) (by omega) k (by omega) (by omega), h]
    simp only [Option.bind_some, if_true]
    rw [if_pos (by omega), if_pos (by omega), w64 (n := (i : Int) + 1) (by omega) (by omega)]
    exact ih (i + 1) (by omega) k (by omega)
theorem ref_Dot_some (a b : List Int) (ha : a.length ≤ 17592186044416) (hb : b.length ≤ 17592186044416) (k : Nat) (hk : 2 * a.length + b.length + 1 < k) : lodestarref06_Dot.f k a b = some (dot a b) := by
  unfold lodestarref06_Dot.f dot
  by_cases h : bothB a b = true
  · rw [if_pos h, ← (dot_acc a b h a.length (Nat.le_refl _)).1]
    exact ref_Dot_loop a b h a.length 0 (by omega) k (by omega)
  · rw [if_neg h]
    obtain ⟨k, rfl⟩ : ∃ j, k = j + 1 := ⟨k - 1, by omega⟩
    simp only [lodestarref06_Dot.l0]
    rw [ref_both_some a b ha hb k (by omega) (by omega)]
    simp only [Option.bind_some]
    rw [if_neg h]; split <;> rfl
theorem ref_Same_loop (a b : List Int) (hl : a.length = b.length) (ha : a.length ≤ 17592186044416) : ∀ (d i : Nat), i + d = a.length → ∀ k, d < k → lodestarref06_Same.l0 k a b (i : Int) = some (decide (a.drop i = b.drop i)) := by
  intro d
  induction d with
  | zero =>
    intro i hi k hk
    obtain ⟨k, rfl⟩ : ∃ j, k = j + 1 := ⟨k - 1, by omega⟩
    simp only [lodestarref06_Same.l0]
    rw [if_neg (by omega), List.drop_eq_nil_iff.2 (by omega), List.drop_eq_nil_iff.2 (by omega)]; rfl
  | succ d ih =>
    intro i hi k hk
    obtain ⟨k, rfl⟩ : ∃ j, k = j + 1 := ⟨k - 1, by omega⟩
    simp only [lodestarref06_Same.l0]
    rw [if_pos (by omega), if_pos (by omega), if_pos (by omega), rd_drop a i (by omega), rd_drop b i (by omega)]
    by_cases h : rd a (i : Int) = rd b (i : Int)
    · rw [if_pos h, w64 (by omega) (by omega)]
      have := ih (i + 1) (by omega) k (by omega)
      rw [show ((i + 1 : Nat) : Int) = (i : Int) + 1 from by omega] at this
      rw [this, h]; congr 1; simp
    · rw [if_neg h]; congr 1; symm; rw [decide_eq_false_iff_not]; intro e; injection e with e1 _; exact h e1
theorem ref_Same_some (a b : List Int) (ha : a.length ≤ 17592186044416) (k : Nat) (hk : a.length < k) : lodestarref06_Same.f k a b = some (decide (a = b)) := by
  unfold lodestarref06_Same.f
  by_cases h : (a.length : Int) = (b.length : Int)
  · rw [if_pos h]
    have := ref_Same_loop a b (by omega) ha a.length 0 (by omega) k hk
    simpa using this
  · rw [if_neg h]; congr 1; symm; rw [decide_eq_false_iff_not]; intro e; rw [e] at h; exact h rfl
end Go.Proofs.Ytlnilonlaedafaa.P
