/- Vectors made out of any lists: just so many components, each within its bounds. -/
import Derived.Test.YtbckkllhobcgjaaQVec
import Derived.Test.YtbckkllhobcgjaaPx45
namespace Go.Proofs.Ytbckkllhobcgjaa.P
open Go.RowKit Go.Proofs.YtbckkllhobcgjaaW.PrintWords Go.Proofs.YtbckkllhobcgjaaW.PrintLast Go.Proofs.YtbckkllhobcgjaaW.PrintMore
open Go.Proofs.Ytbckkllhobcgjaa.Q
def fitAt (l : List Int) (i : Nat) : Int := if i < l.length then mx (-32768) (mn (rd l (i : Int)) 32767) else 0
def fitV (l : List Int) (n : Nat) : List Int := (List.range n).map (fitAt l)
theorem fitV_len (l : List Int) (n : Nat) : (fitV l n).length = n := by simp [fitV]
theorem clamp_in (x : Int) : -32768 ≤ mx (-32768) (mn x 32767) ∧ mx (-32768) (mn x 32767) ≤ 32767 := by
  unfold mx mn
  repeat' split
  all_goals omega
theorem fitAt_in (l : List Int) (i : Nat) : -32768 ≤ fitAt l i ∧ fitAt l i ≤ 32767 := by
  unfold fitAt
  split
  · exact clamp_in _
  · omega
theorem fitV_may (l : List Int) (n : Nat) (h1 : 1 ≤ n) (h2 : n ≤ 64) : mayB (fitV l n) = true := by
  rw [mayB_iff, fitV_len]
  refine ⟨fun x hx => ?_, h1, h2⟩
  obtain ⟨i, _, rfl⟩ := List.mem_map.1 hx
  exact fitAt_in l i
theorem fit_loop (l : List Int) (hl : l.length ≤ 17592186044416) (n : Nat) (hn : n ≤ 64) : ∀ (d i : Nat), i + d = n → ∀ k, d < k → lodestarlaw06_fit.l0 k l (n : Int) (fitV l i) (i : Int) = some (fitV l n) := by
  intro d
  induction d with
  | zero =>
    intro i hi k hk
    obtain ⟨k, rfl⟩ : ∃ j, k = j + 1 := ⟨k - 1, by omega⟩
    obtain rfl : i = n := by omega
    simp only [lodestarlaw06_fit.l0]
    rw [if_neg (by omega)]
  | succ d ih =>
    intro i hi k hk
    obtain ⟨k, rfl⟩ : ∃ j, k = j + 1 := ⟨k - 1, by omega⟩
    have := ih (i + 1) (by omega) k (by omega)
    have e : fitV l (i + 1) = fitV l i ++ [fitAt l i] := by simp [fitV, List.range_succ]
    have e2 : wrap64 ((i : Int) + 1) = ((i + 1 : Nat) : Int) := by rw [w64 (by omega) (by omega)]; simp
    simp only [lodestarlaw06_fit.l0]
    rw [if_pos (by omega), e2]
    by_cases h : i < l.length
    · rw [if_pos (by omega), if_pos (by omega), if_pos (by rw [fitV_len]; omega)]
      rw [e] at this
      unfold fitAt at this
      rw [if_pos h] at this
      exact this
    · rw [if_neg (by omega), if_pos (by rw [fitV_len]; omega)]
      rw [e] at this
      unfold fitAt at this
      rw [if_neg h] at this
      exact this
theorem fit06_some (l : List Int) (hl : l.length ≤ 17592186044416) (n : Nat) (hn : n ≤ 64) (k : Nat) (hk : n < k) : lodestarlaw06_fit.f k l (n : Int) = some (fitV l n) := by
  unfold lodestarlaw06_fit.f
  exact fit_loop l hl n hn n 0 (by omega) k hk
/-- The width that the statements take. -/
theorem width_in (x : Int) (hx : 0 ≤ x) : ∃ n : Nat, mx 1 (mn x 64) = (n : Int) ∧ 1 ≤ n ∧ n ≤ 64 := by
  refine ⟨(mx 1 (mn x 64)).toNat, ?_, ?_, ?_⟩ <;> (unfold mx mn; repeat' split) <;> omega
theorem mx_nonneg (a b : Int) (ha : 0 ≤ a) (hb : 0 ≤ b) : 0 ≤ mx a b := by unfold mx; split <;> omega
/-! the sums of two that may be, of one width -/
theorem l2_of {a b : List Int} (h : a.length = b.length) (ha : mayB a = true) (hb : mayB b = true) : l2 a b = sumTo (fun i => (rd a (i : Int) - rd b (i : Int)) * (rd a (i : Int) - rd b (i : Int))) a.length := by
  unfold l2; rw [if_pos ((bothB_iff a b).2 ⟨h, ha, hb⟩)]
theorem dot_of {a b : List Int} (h : a.length = b.length) (ha : mayB a = true) (hb : mayB b = true) : dot a b = sumTo (fun i => rd a (i : Int) * rd b (i : Int)) a.length := by
  unfold dot; rw [if_pos ((bothB_iff a b).2 ⟨h, ha, hb⟩)]
end Go.Proofs.Ytbckkllhobcgjaa.P
