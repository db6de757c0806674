/- The sum of codes in a table whose numbers are not great. -/
import Derived.Test.YtlnilonlaedafaaQWide
import Derived.Test.YtlnilonlaedafaaPx14
namespace Go.Proofs.Ytlnilonlaedafaa.P
open Go.RowKit Go.Proofs.YtlnilonlaedafaaW.PrintWords Go.Proofs.YtlnilonlaedafaaW.PrintLast
open Go.Proofs.Ytlnilonlaedafaa.Q
def entry (t : List (List Int)) (c : List Int) (i : Nat) : Int := rd (rd_L1 t (i : Int)) (rd c (i : Int))
theorem est_check (t : List (List Int)) (c : List Int) (n : Nat) (hn : n ≤ 64) (ht : t.length = n) (hc : c.length = n) (hr : ∀ i : Nat, i < n → 0 ≤ rd c (i : Int) ∧ rd c (i : Int) < ((rd_L1 t (i : Int)).length : Int)) (r : Int × Int) (hnext : Ev (fun k => product_Estimate.l1 k t 0 c (n : Int) 0) r) :
    ∀ (d i : Nat), i + d = n → Ev (fun k => product_Estimate.l0 k t c c (n : Int) (i : Int)) r := by
  intro d
  induction d with
  | zero =>
    intro i hi
    apply Ev.step
    · intro k; rw [product_Estimate.l0, if_neg (by omega), hc]
    · exact hnext
  | succ d ih =>
    intro i hi
    obtain ⟨r1, r2⟩ := hr i (by omega)
    apply Ev.step
    · intro k
      rw [product_Estimate.l0, if_pos (by omega), if_pos (by omega), if_pos (by omega), if_neg (by omega), if_pos (by omega), if_neg (by omega), w64 (n := (i : Int) + 1) (by omega) (by omega)]
    · exact ih (i + 1) (by omega)
theorem est_sum (t : List (List Int)) (c : List Int) (n : Nat) (hn : n ≤ 64) (ht : t.length = n) (hc : c.length = n) (hr : ∀ i : Nat, i < n → 0 ≤ rd c (i : Int) ∧ rd c (i : Int) < ((rd_L1 t (i : Int)).length : Int)) (hb : ∀ i : Nat, i < n → -274877906944 ≤ entry t c i ∧ entry t c i ≤ 274877906944) :
    ∀ (d i : Nat), i + d = n → Ev (fun k => product_Estimate.l1 k t (sumTo (entry t c) i) c (n : Int) (i : Int)) (sumTo (entry t c) n, 0) := by
  intro d
  induction d with
  | zero =>
    intro i hi
    obtain rfl : i = n := by omega
    apply Ev.step
    · intro k; rw [product_Estimate.l1, if_neg (by omega)]
    · exact Ev.now _
  | succ d ih =>
    intro i hi
    obtain ⟨r1, r2⟩ := hr i (by omega)
    have hs := sumTo_range (f := entry t c) (n := i) (lo := -274877906944) (hi := 274877906944) (fun j hj => hb j (by omega))
    have he := hb i (by omega)
    obtain ⟨s, hse⟩ : ∃ s, s = sumTo (entry t c) i := ⟨_, rfl⟩
    obtain ⟨e, hee⟩ : ∃ e, e = entry t c i := ⟨_, rfl⟩
    have hn := ih (i + 1) (by omega)
    rw [sumTo, ← hse, ← hee] at hn
    rw [← hse] at hs ⊢
    rw [← hee] at he
    have hw : wrap64 (s + e) = s + e := w64 (by omega) (by omega)
    have hx : rd (rd_L1 t (i : Int)) (rd c (i : Int)) = e := hee.symm
    have hd : decide (s + e < s) = decide (e < 0) := decide_eq_decide.2 (by omega)
    apply Ev.step
    · intro k
      rw [product_Estimate.l1, if_pos (by omega), if_pos (by omega), if_pos (by omega), if_pos (by omega), if_pos r1, if_pos r2, hx, hw, hd, if_neg (by simp), w64 (n := (i : Int) + 1) (by omega) (by omega)]
    · exact hn
theorem estimate_ev (t : List (List Int)) (c : List Int) (n : Nat) (hn : n ≤ 64) (ht : t.length = n) (hc : c.length = n) (hr : ∀ i : Nat, i < n → 0 ≤ rd c (i : Int) ∧ rd c (i : Int) < ((rd_L1 t (i : Int)).length : Int)) (hb : ∀ i : Nat, i < n → -274877906944 ≤ entry t c i ∧ entry t c i ≤ 274877906944) : Ev (fun k => product_Estimate.f k t c) (sumTo (entry t c) n, 0) := by
  refine Ev.congr (f := fun k => product_Estimate.l0 k t c c (n : Int) 0) (fun k => ?_) (est_check t c n hn ht hc hr _ (est_sum t c n hn ht hc hr hb n 0 (by omega)) n 0 (by omega))
  unfold product_Estimate.f
  rw [if_pos (by omega), hc]
end Go.Proofs.Ytlnilonlaedafaa.P
