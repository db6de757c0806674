/- Two lists of lists: whether they are the same, in the document's words. -/
import Derived.Test.YtlnilonlaedafaaQNear
import Derived.Test.YtlnilonlaedafaaPx17
namespace Go.Proofs.Ytlnilonlaedafaa.P
open Go.RowKit Go.Proofs.YtlnilonlaedafaaW.PrintWords Go.Proofs.YtlnilonlaedafaaW.PrintLast
open Go.Proofs.Ytlnilonlaedafaa.Q
theorem sameAll_loop (a b : List (List Int)) (hl : a.length = b.length) (ha : a.length ≤ 17592186044416) (hr : ∀ x ∈ a, x.length ≤ 17592186044416) : ∀ (d i : Nat), i + d = a.length → Ev (fun k => lodestarref06_SameAll.l0 k a b (i : Int)) (decide (a.drop i = b.drop i)) := by
  intro d
  induction d with
  | zero =>
    intro i hi
    rw [List.drop_eq_nil_iff.2 (by omega), List.drop_eq_nil_iff.2 (by omega)]
    apply Ev.step
    · intro k; rw [lodestarref06_SameAll.l0, if_neg (by omega)]
    · exact Ev.now _
  | succ d ih =>
    intro i hi
    have hn := ih (i + 1) (by omega)
    have hs := same_ev (rd_L1 a (i : Int)) (rd_L1 b (i : Int)) (hr _ (L1_mem a i (by omega)))
    rw [L1_drop a i (by omega), L1_drop b i (by omega)]
    apply Ev.step
    · intro k; rw [lodestarref06_SameAll.l0, if_pos (by omega), if_pos (by omega), if_pos (by omega), w64 (n := (i : Int) + 1) (by omega) (by omega)]
    · by_cases h : rd_L1 a (i : Int) = rd_L1 b (i : Int)
      · rw [decide_eq_true h] at hs
        refine Ev.bind hs (Ev.congr (fun k => if_pos rfl) ?_)
        rw [h, show decide (rd_L1 b (i : Int) :: a.drop (i + 1) = rd_L1 b (i : Int) :: b.drop (i + 1)) = decide (a.drop (i + 1) = b.drop (i + 1)) from decide_eq_decide.2 ⟨fun e => by injection e, fun e => by rw [e]⟩]
        exact hn
      · rw [decide_eq_false h] at hs
        refine Ev.bind hs (Ev.congr (fun k => if_neg Bool.false_ne_true) ?_)
        rw [decide_eq_false (fun e => h (by injection e))]
        exact Ev.now _
theorem sameAll_ev (a b : List (List Int)) (ha : a.length ≤ 17592186044416) (hr : ∀ x ∈ a, x.length ≤ 17592186044416) : Ev (fun k => lodestarref06_SameAll.f k a b) (decide (a = b)) := by
  by_cases h : a.length = b.length
  · refine Ev.congr (f := fun k => lodestarref06_SameAll.l0 k a b 0) (fun k => ?_) (sameAll_loop a b h ha hr a.length 0 (by omega))
    unfold lodestarref06_SameAll.f; rw [if_pos (by omega)]
  · rw [decide_eq_false (fun e => h (by rw [e]))]
    refine Ev.congr (fun k => ?_) (Ev.now _)
    unfold lodestarref06_SameAll.f; rw [if_neg (by omega)]
end Go.Proofs.Ytlnilonlaedafaa.P
