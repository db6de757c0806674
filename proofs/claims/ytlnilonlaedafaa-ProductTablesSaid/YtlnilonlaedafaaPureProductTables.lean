/- lodestarlaw19.ProductTables: the table of any vector, by any metric, as the document has it. -/
import Derived.Test.YtlnilonlaedafaaQTableRef
import Derived.Test.YtlnilonlaedafaaQSameAll
import Derived.Test.YtlnilonlaedafaaQAwake19
import Derived.Test.YtlnilonlaedafaaPx17
namespace Go.Proofs.Ytlnilonlaedafaa.Pure
open Go.RowKit Go.Proofs.Ytlnilonlaedafaa.P Go.Proofs.YtlnilonlaedafaaW.PrintWords Go.Proofs.YtlnilonlaedafaaW.PrintLast
open Go.Proofs.Ytlnilonlaedafaa.Q
theorem ProductTables : lodestarlaw19_ProductTables.Pure := by
  intro m P v _ hp hv
  have hP : Fits P := ⟨by omega, fun p h => ⟨by have := (hp.2 p h).1; omega, fun c hc => by have := ((hp.2 p h).2 c hc).1; omega⟩⟩
  have hrows : ∀ x ∈ (table m P v).1, x.length ≤ 17592186044416 := by
    unfold table
    by_cases h : m < 1 ∨ 3 < m
    · rw [if_pos h]; simp
    · rw [if_neg h]
      by_cases hv : vq P = true
      · rw [if_pos hv]
        by_cases hf : fitsB P v = true
        · rw [if_pos hf]
          intro x hx
          obtain ⟨i, hi, rfl⟩ := List.mem_map.1 hx
          unfold rowOf
          rw [rowTo_length]
          exact (hP.2 _ (L2_mem P i (List.mem_range.1 hi))).1
        · rw [if_neg hf]; simp
      · rw [if_neg hv]; simp
  refine Ev.rounds (g := fun k => lodestarlaw19_ProductTables.f k m P v) ?_
  unfold lodestarlaw19_ProductTables.f
  refine Ev.bind (table_ev m P hP v (by omega)) (Ev.bind (ref_table_ev m P hP v (by omega)) ?_)
  refine Ev.bind (sameAll_ev _ _ (Nat.le_trans (table_le m P v) (by decide)) hrows) ?_
  refine Ev.congr (fun k => by rw [if_pos (decide_eq_true rfl), if_pos rfl]) ?_
  exact Ev.bind awake19_ev (Ev.now _)
end Go.Proofs.Ytlnilonlaedafaa.Pure
