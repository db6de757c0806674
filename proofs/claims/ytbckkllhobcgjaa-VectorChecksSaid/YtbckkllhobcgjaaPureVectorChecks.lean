/- lodestarlaw06.VectorChecks: which vectors may be under which dimension and metric, as the document has it. For every list of ints and two ints. -/
import Derived.Test.YtbckkllhobcgjaaQVecRef
import Derived.Test.YtbckkllhobcgjaaQSure06
import Derived.Test.YtbckkllhobcgjaaPx37
namespace Go.Proofs.Ytbckkllhobcgjaa.Pure
open Go.RowKit Go.Proofs.Ytbckkllhobcgjaa.P Go.Proofs.YtbckkllhobcgjaaW.PrintWords Go.Proofs.YtbckkllhobcgjaaW.PrintLast
open Go.Proofs.Ytbckkllhobcgjaa.Q
theorem VectorChecks : lodestarlaw06_VectorChecks.Pure := by
  intro l dim metric _ hb _ _ _
  have hl : l.length ≤ 17592186044416 := by omega
  refine ⟨l.length + 200, ?_⟩
  unfold lodestarlaw06_VectorChecks.f
  rw [twin06_some l (by omega)]
  simp only [Option.bind_some]
  rw [vector_Check_some l hl dim metric _ (by omega), ref_Check_some l hl dim metric _ (by omega), ref_Same_some l l hl _ (by omega), sure06_at _ (by omega)]
  simp
end Go.Proofs.Ytbckkllhobcgjaa.Pure
