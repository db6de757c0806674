/- lodestarlaw06.VectorScores: how near any two vectors are by each metric, or the error, as the document has it. For every int and two lists of ints. -/
import Derived.Test.YtbckkllhobcgjaaQScore
import Derived.Test.YtbckkllhobcgjaaQSure06
import Derived.Test.YtbckkllhobcgjaaPx44
namespace Go.Proofs.Ytbckkllhobcgjaa.Pure
open Go.RowKit Go.Proofs.Ytbckkllhobcgjaa.P Go.Proofs.YtbckkllhobcgjaaW.PrintWords Go.Proofs.YtbckkllhobcgjaaW.PrintLast
open Go.Proofs.Ytbckkllhobcgjaa.Q
theorem VectorScores : lodestarlaw06_VectorScores.Pure := by
  intro m a b _ _ h1 _ _ h2 _
  have ha : a.length ≤ 17592186044416 := by omega
  have hb : b.length ≤ 17592186044416 := by omega
  obtain ⟨k, hk⟩ : ∃ k, k = 3 * a.length + 3 * b.length + 200 := ⟨_, rfl⟩
  refine ⟨k, ?_⟩
  unfold lodestarlaw06_VectorScores.f
  rw [twin06_some a (by omega), twin06_some b (by omega)]
  simp only [Option.bind_some]
  rw [vector_Score_some m a b ha hb k (by omega), ref_Score_some m a b ha hb k (by omega), vector_L2_some a b ha hb k (by omega) (by omega), ref_L2_some a b ha hb k (by omega), vector_Dot_some a b ha hb k (by omega) (by omega), ref_Dot_some a b ha hb k (by omega), vector_Cos_some a b ha hb k (by omega) (by omega) (by omega), ref_Cos_some a b ha hb k (by omega), ref_Same_some a a ha k (by omega), ref_Same_some b b hb k (by omega), sure06_at k (by omega)]
  simp
end Go.Proofs.Ytbckkllhobcgjaa.Pure
