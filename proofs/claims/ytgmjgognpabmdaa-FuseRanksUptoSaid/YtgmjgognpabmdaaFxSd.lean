/- The order of hits: sorted lists. -/
import Derived.Test.YtgmjgognpabmdaaFxSort
namespace Go.Proofs.Ytgmjgognpabmdaa.Fx
open Go Go.RowKit
set_option linter.unusedSimpArgs false
set_option linter.unusedVariables false
section
variable {m : Int} (hM : mOk m = true)
include hM
theorem less_irr (x : Ht) : less m x x = false := by
  rw [Bool.eq_false_iff, Ne, less_lt m hM]; omega
theorem less_asym {x y : Ht} (h : less m x y = true) : less m y x = false := by
  rw [Bool.eq_false_iff, Ne, less_lt m hM]; rw [less_lt m hM] at h; omega
theorem le_tr {x y z : Ht} (h1 : less m y x = false) (h2 : less m z y = false) : less m z x = false := by
  rw [Bool.eq_false_iff, Ne, less_lt m hM] at *; omega
theorem le_an {x y : Ht} (h1 : less m y x = false) (h2 : less m x y = false) : x = y := by
  obtain ⟨a, b⟩ := x
  obtain ⟨c, d⟩ := y
  rw [Bool.eq_false_iff, Ne, less_lt m hM] at *
  simp only at h1 h2
  have : a = c ∧ b = d := by omega
  rw [this.1, this.2]
theorem less_conn {x y : Ht} (h : x ≠ y) (h1 : less m x y = false) : less m y x = true := by
  cases h2 : less m y x
  · exact absurd (le_an hM h2 h1) h
  · rfl
end
/-- Sorted: the better ones first. -/
def Sd (m : Int) (l : List Ht) : Prop := l.Pairwise (fun x y => less m y x = false)
theorem sd_unique {m : Int} (hM : mOk m = true) {a b : List Ht} (hp : a.Perm b) (ha : Sd m a) (hb : Sd m b) : a = b :=
  List.Perm.eq_of_pairwise (fun x y _ _ h1 h2 => le_an hM h1 h2) ha hb hp
theorem hsort_perm (m : Int) (l : List Ht) : (hsort m l).Perm l := List.mergeSort_perm _ _
theorem hsort_sd {m : Int} (hM : mOk m = true) (l : List Ht) : Sd m (hsort m l) := by
  have := List.pairwise_mergeSort (le := fun x y => !less m y x) (fun a b c h1 h2 => by simp at h1 h2 ⊢; exact le_tr hM h1 h2) (fun a b => by
    cases h1 : less m b a
    · simp
    · simp [less_asym hM h1]) l
  simpa [Sd, hsort] using this
end Go.Proofs.Ytgmjgognpabmdaa.Fx
