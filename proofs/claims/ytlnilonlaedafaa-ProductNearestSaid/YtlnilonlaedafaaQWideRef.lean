/- Product quantizers: which may be, in the document's words: it is the program's answer. -/
import Derived.Test.YtlnilonlaedafaaQWide
namespace Go.Proofs.Ytlnilonlaedafaa.P
open Go.RowKit Go.Proofs.YtlnilonlaedafaaW.PrintWords Go.Proofs.YtlnilonlaedafaaW.PrintLast
open Go.Proofs.Ytlnilonlaedafaa.Q
theorem ref_inner (w : Nat) (P : List (List (List Int))) (i : Nat) (hi : i < P.length) (hP : Fits P) (r : Int) (hnext : (rd_L2 P (i : Int)).all (cenOk w) = true → Ev (fun k => lodestarref19_width.l0 k w (wrap64 ((i : Int) + 1)) P) r) (hbad : (rd_L2 P (i : Int)).all (cenOk w) = false → r = 0) :
    ∀ (d j : Nat), j + d = (rd_L2 P (i : Int)).length → ((rd_L2 P (i : Int)).take j).all (cenOk w) = true → Ev (fun k => lodestarref19_width.l1 k w (i : Int) (j : Int) P) r := by
  have hp := (hP.2 _ (L2_mem P i hi)).1
  have hc := (hP.2 _ (L2_mem P i hi)).2
  obtain ⟨p, hpe⟩ : ∃ p, p = rd_L2 P (i : Int) := ⟨_, rfl⟩
  rw [← hpe] at hp hc hnext hbad ⊢
  intro d
  induction d with
  | zero =>
    intro j hj ht
    rw [List.take_of_length_le (by omega)] at ht
    apply Ev.step
    · intro k; rw [lodestarref19_width.l1, if_pos (by omega), if_pos (by omega), ← hpe, if_neg (by omega)]
    · exact hnext ht
  | succ d ih =>
    intro j hj ht
    have hcons : p.take (j + 1) = p.take j ++ [rd_L1 p (j : Int)] := by
      rw [List.take_add_one, List.getElem?_eq_getElem (by omega)]
      simp [rd_L1, List.getD_eq_getElem?_getD, List.getElem?_eq_getElem (by omega : j < p.length)]
    have hsplit : p.all (cenOk w) = ((p.take (j + 1)).all (cenOk w) && (p.drop (j + 1)).all (cenOk w)) := by
      rw [← List.all_append, List.take_append_drop]
    by_cases h1 : (rd_L1 p (j : Int)).length = w
    · have hre := range_ev (rd_L1 p (j : Int)) (hc _ (L1_mem p j (by omega)))
      by_cases h2 : okAll (rd_L1 p (j : Int)) = true
      · apply Ev.step
        · intro k
          rw [lodestarref19_width.l1, if_pos (by omega), if_pos (by omega), ← hpe, if_pos (by omega), if_pos (by omega), if_pos (by omega), w64 (n := (j : Int) + 1) (by omega) (by omega)]
        · refine Ev.bind (a := true) (by rw [← h2]; exact hre) ?_
          refine Ev.congr (fun k => if_pos rfl) (ih (j + 1) (by omega) ?_)
          rw [hcons, List.all_append, ht]
          simp [cenOk, h1, h2]
      · have hb : p.all (cenOk w) = false := by
          rw [hsplit, hcons, List.all_append]
          simp [cenOk, h2]
        rw [hbad hb]
        rw [Bool.not_eq_true] at h2
        apply Ev.step
        · intro k
          rw [lodestarref19_width.l1, if_pos (by omega), if_pos (by omega), ← hpe, if_pos (by omega), if_pos (by omega), if_pos (by omega)]
        · refine Ev.bind (a := false) (by rw [← h2]; exact hre) ?_
          exact Ev.congr (fun k => if_neg (by decide)) (Ev.now _)
    · have hb : p.all (cenOk w) = false := by
        rw [hsplit, hcons, List.all_append]
        simp [cenOk, h1]
      rw [hbad hb]
      apply Ev.step
      · intro k
        rw [lodestarref19_width.l1, if_pos (by omega), if_pos (by omega), ← hpe, if_pos (by omega), if_pos (by omega), if_neg (by omega)]
      · exact Ev.now _
def refFrom (w : Nat) (P : List (List (List Int))) (i : Nat) : Int := if (P.drop i).all (partOk w) = true ∧ 1 ≤ w ∧ w * P.length ≤ 64 then (w : Int) else 0
theorem ref_width_loop (w : Nat) (hw : w ≤ 17592186044416) (P : List (List (List Int))) (h1P : 1 ≤ P.length) (h64 : P.length ≤ 64) (hP : Fits P) : ∀ (d i : Nat), i + d = P.length → Ev (fun k => lodestarref19_width.l0 k w (i : Int) P) (refFrom w P i) := by
  intro d
  induction d with
  | zero =>
    intro i hi
    have he : P.drop i = [] := List.drop_eq_nil_iff.2 (by omega)
    unfold refFrom
    rw [he, List.all_nil]
    have hm : (P.length : Int) * (w : Int) = ((w * P.length : Nat) : Int) := by simp [Int.mul_comm]
    have hle : w * P.length ≤ 17592186044416 * 64 := Nat.mul_le_mul hw h64
    by_cases h : 1 ≤ w
    · by_cases h2 : w ≤ 64
      · by_cases h3 : w * P.length ≤ 64
        · rw [if_pos ⟨rfl, h, h3⟩]
          apply Ev.step
          · intro k
            rw [lodestarref19_width.l0, if_neg (by omega), if_neg (by omega), if_neg (by omega), hm, w64 (by omega) (by omega), if_neg (by omega)]
          · exact Ev.now _
        · rw [if_neg (fun x => h3 x.2.2)]
          apply Ev.step
          · intro k
            rw [lodestarref19_width.l0, if_neg (by omega), if_neg (by omega), if_neg (by omega), hm, w64 (by omega) (by omega), if_pos (by omega)]
          · exact Ev.now _
      · have h3 : ¬ w * P.length ≤ 64 := by
          intro h3
          have := Nat.mul_le_mul (Nat.le_refl w) h1P
          omega
        rw [if_neg (fun x => h3 x.2.2)]
        apply Ev.step
        · intro k
          rw [lodestarref19_width.l0, if_neg (by omega), if_neg (by omega), if_pos (by omega)]
        · exact Ev.now _
    · rw [if_neg (fun x => h x.2.1)]
      apply Ev.step
      · intro k
        rw [lodestarref19_width.l0, if_neg (by omega), if_pos (by omega)]
      · exact Ev.now _
  | succ d ih =>
    intro i hi
    have hd := L2_drop P i (by omega)
    have hr : refFrom w P i = if partOk w (rd_L2 P (i : Int)) = true then refFrom w P (i + 1) else 0 := by
      unfold refFrom
      rw [hd, List.all_cons]
      cases partOk w (rd_L2 P (i : Int)) <;> simp
    rw [hr]
    by_cases h1 : 1 ≤ (rd_L2 P (i : Int)).length
    · by_cases h2 : (rd_L2 P (i : Int)).length ≤ 256
      · apply Ev.step
        · intro k
          rw [lodestarref19_width.l0, if_pos (by omega), if_pos (by omega), if_neg (by omega), show decide (((rd_L2 P (i : Int)).length : Int) > 256) = false from decide_eq_false (by omega)]
        · apply Ev.step
          · intro k
            rw [lodestarref19_width.j2, if_neg (by decide)]
          · refine ref_inner w P i (by omega) hP _ ?_ ?_ (rd_L2 P (i : Int)).length 0 (by omega) (by simp)
            · intro ha
              rw [if_pos (by simp [partOk, h1, h2]; simpa using ha), w64 (by omega) (by omega)]
              exact ih (i + 1) (by omega)
            · intro ha
              rw [if_neg (by unfold partOk; rw [ha]; simp)]
      · rw [if_neg (by unfold partOk; rw [decide_eq_false h2]; simp)]
        apply Ev.step
        · intro k
          rw [lodestarref19_width.l0, if_pos (by omega), if_pos (by omega), if_neg (by omega), show decide (((rd_L2 P (i : Int)).length : Int) > 256) = true from decide_eq_true (by omega)]
        · apply Ev.step
          · intro k; rw [lodestarref19_width.j2, if_pos rfl]
          · exact Ev.now _
    · rw [if_neg (by unfold partOk; rw [decide_eq_false h1]; simp)]
      apply Ev.step
      · intro k
        rw [lodestarref19_width.l0, if_pos (by omega), if_pos (by omega), if_pos (by omega)]
      · apply Ev.step
        · intro k; rw [lodestarref19_width.j2, if_pos rfl]
        · exact Ev.now _
/-- How wide, by the document. -/
def widthOf (P : List (List (List Int))) : Int := if vq P = true then (w0 P : Int) else 0
theorem ref_width_ev (P : List (List (List Int))) (hP : Fits P) : Ev (fun k => lodestarref19_width.f k P) (widthOf P) := by
  have hj : Ev (fun k => lodestarref19_width.j0 k true P) 0 := by
    apply Ev.step
    · intro k; rw [lodestarref19_width.j0, if_pos rfl]
    · exact Ev.now _
  unfold widthOf
  by_cases h1 : 1 ≤ P.length
  · by_cases h2 : P.length ≤ 64
    · by_cases h3 : 1 ≤ (rd_L2 P 0).length
      · have hl := ref_width_loop (w0 P) (w0_le P hP h1 h3) P h1 h2 hP P.length 0 (by omega)
        have hs : Ev (fun k => lodestarref19_width.f k P) (refFrom (w0 P) P 0) := by
          refine Ev.congr (f := fun k => lodestarref19_width.j0 k false P) (fun k => ?_) ?_
          · unfold lodestarref19_width.f
            rw [if_neg (by omega), if_neg (by omega), if_pos (by omega), show decide (((rd_L2 P 0).length : Int) < 1) = false from decide_eq_false (by omega)]
          · apply Ev.step
            · intro k; rw [lodestarref19_width.j0, if_neg (by decide), if_pos (by omega), if_pos (by omega)]
            · exact hl
        unfold refFrom at hs
        rw [List.drop_zero] at hs
        by_cases hv : vq P = true
        · obtain ⟨_, _, _, v4, v5, v6⟩ := (vq_iff P).1 hv
          rw [if_pos ⟨v4, v5, v6⟩] at hs
          rw [if_pos hv]; exact hs
        · rw [if_neg (fun x => hv ((vq_iff P).2 ⟨h1, h2, h3, x⟩))] at hs
          rw [if_neg hv]; exact hs
      · rw [if_neg (fun hv => h3 ((vq_iff P).1 hv).2.2.1)]
        refine Ev.congr (fun k => ?_) hj
        unfold lodestarref19_width.f
        rw [if_neg (by omega), if_neg (by omega), if_pos (by omega), show decide (((rd_L2 P 0).length : Int) < 1) = true from decide_eq_true (by omega)]
    · rw [if_neg (fun hv => h2 ((vq_iff P).1 hv).2.1)]
      refine Ev.congr (fun k => ?_) hj
      unfold lodestarref19_width.f
      rw [if_neg (by omega), if_pos (by omega)]
  · rw [if_neg (fun hv => h1 ((vq_iff P).1 hv).1)]
    refine Ev.congr (fun k => ?_) hj
    unfold lodestarref19_width.f
    rw [if_pos (by omega)]
end Go.Proofs.Ytlnilonlaedafaa.P
