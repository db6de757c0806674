/- lodestarlaw19.ProductCodes: the codes of any vector, the vector of any codes, by any quantizer, as the document has them. -/
import Derived.Test.YtlnilonlaedafaaQPiecesRef
import Derived.Test.YtlnilonlaedafaaQAwake19
import Derived.Test.YtlnilonlaedafaaQTold
import Derived.Test.YtlnilonlaedafaaPx15
namespace Go.Proofs.Ytlnilonlaedafaa.Pure
open Go.RowKit Go.Proofs.Ytlnilonlaedafaa.P Go.Proofs.YtlnilonlaedafaaW.PrintWords Go.Proofs.YtlnilonlaedafaaW.PrintLast
open Go.Proofs.Ytlnilonlaedafaa.Q
theorem ProductCodes : lodestarlaw19_ProductCodes.Pure := by
  intro P v codes hp hv _
  have hP : Fits P := ⟨by omega, fun p h => ⟨by have := (hp.2 p h).1; omega, fun c hc => by have := ((hp.2 p h).2 c hc).1; omega⟩⟩
  refine Ev.rounds (g := fun k => lodestarlaw19_ProductCodes.f k P v codes) ?_
  unfold lodestarlaw19_ProductCodes.f
  refine Ev.bind (encode_ev P hP v (by omega)) (Ev.bind (ref_encode_ev P hP v (by omega)) (Ev.bind (decode_ev P hP codes) (Ev.bind (ref_decode_ev P hP codes) ?_)))
  refine Ev.bind (same_ev _ _ (Nat.le_trans (encode_most P v) (by decide))) ?_
  refine Ev.congr (fun k => by rw [if_pos (decide_eq_true rfl), if_pos rfl]) ?_
  refine Ev.bind (same_ev _ _ (Nat.le_trans (decode_most P codes) (by decide))) ?_
  refine Ev.congr (fun k => by rw [if_pos (decide_eq_true rfl), if_pos rfl]) ?_
  exact Ev.bind awake19_ev (Ev.now _)
end Go.Proofs.Ytlnilonlaedafaa.Pure
