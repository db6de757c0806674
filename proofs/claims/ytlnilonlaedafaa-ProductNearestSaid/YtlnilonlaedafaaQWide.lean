/- Product quantizers: which may be. The program's text and the document's come to one. -/
import Derived.Test.YtlnilonlaedafaaQVec
import Derived.Test.YtlnilonlaedafaaPx2
import Derived.Test.YtlnilonlaedafaaPx3
import Derived.Test.YtlnilonlaedafaaPx6
import Derived.Test.YtlnilonlaedafaaPx7
namespace Go.Proofs.Ytlnilonlaedafaa.P
open Go.RowKit Go.Proofs.YtlnilonlaedafaaW.PrintWords Go.Proofs.YtlnilonlaedafaaW.PrintLast
open Go.Proofs.Ytlnilonlaedafaa.Q
theorem Ev.at {α : Type} {g : Nat → Option α} {r : α} (K : Nat) (h : ∀ k, K ≤ k → g k = some r) : Ev g r := ⟨K, h⟩
theorem Ev.then {α β : Type} {g : Nat → Option α} {f : α → Option β} {a : α} {r : β} (h : Ev g a) (k : f a = some r) : Ev (fun n => (g n).bind f) r := Ev.bind (f := fun _ => f) h ⟨0, fun _ _ => k⟩
theorem L1_drop (l : List (List Int)) (i : Nat) (h : i < l.length) : l.drop i = rd_L1 l (i : Int) :: l.drop (i + 1) := by
  rw [List.drop_eq_getElem_cons h]
  simp [rd_L1, List.getD_eq_getElem?_getD, List.getElem?_eq_getElem h]
theorem L1_mem (l : List (List Int)) (i : Nat) (h : i < l.length) : rd_L1 l (i : Int) ∈ l := by
  simp [rd_L1, List.getD_eq_getElem?_getD, List.getElem?_eq_getElem h]
theorem L2_drop (l : List (List (List Int))) (i : Nat) (h : i < l.length) : l.drop i = rd_L2 l (i : Int) :: l.drop (i + 1) := by
  rw [List.drop_eq_getElem_cons h]
  simp [rd_L2, List.getD_eq_getElem?_getD, List.getElem?_eq_getElem h]
theorem L2_mem (l : List (List (List Int))) (i : Nat) (h : i < l.length) : rd_L2 l (i : Int) ∈ l := by
  simp [rd_L2, List.getD_eq_getElem?_getD, List.getElem?_eq_getElem h]
/-- All components may be. -/
def okAll (l : List Int) : Bool := l.all okPart
theorem all_ev (l : List Int) : product_all.f l = some (okAll l) := rfl
theorem range_loop (l : List Int) (hl : l.length ≤ 17592186044416) : ∀ (d i : Nat), i + d = l.length → Ev (fun k => lodestarref05_Range.l0 k l (i : Int)) ((l.drop i).all okPart) := by
  intro d
  induction d with
  | zero =>
    intro i hi
    rw [List.drop_eq_nil_iff.2 (by omega)]
    apply Ev.step
    · intro k; rw [lodestarref05_Range.l0, if_neg (by omega)]
    · exact Ev.now _
  | succ d ih =>
    intro i hi
    rw [rd_drop l i (by omega), List.all_cons]
    by_cases h1 : rd l (i : Int) < -32768
    · rw [okPart_false (.inl h1), Bool.false_and]
      apply Ev.step
      · intro k; rw [lodestarref05_Range.l0, if_pos (by omega), if_pos (by omega), if_pos h1]
      · exact Ev.now _
    · by_cases h2 : rd l (i : Int) > 32767
      · rw [okPart_false (.inr h2), Bool.false_and]
        apply Ev.step
        · intro k; rw [lodestarref05_Range.l0, if_pos (by omega), if_pos (by omega), if_neg h1, if_pos h2]
        · exact Ev.now _
      · rw [okPart_true h1 h2, Bool.true_and]
        apply Ev.step
        · intro k; rw [lodestarref05_Range.l0, if_pos (by omega), if_pos (by omega), if_neg h1, if_neg h2, w64 (by omega) (by omega)]
        · exact ih (i + 1) (by omega)
theorem range_ev (l : List Int) (hl : l.length ≤ 17592186044416) : Ev (fun k => lodestarref05_Range.f k l) (okAll l) := by
  have := range_loop l hl l.length 0 (by omega)
  exact this
/-- A part's centroids may be, from the one at j on. -/
def cenOk (w : Nat) (c : List Int) : Bool := decide (c.length = w) && okAll c
def partOk (w : Nat) (p : List (List Int)) : Bool := decide (1 ≤ p.length) && decide (p.length ≤ 256) && p.all (cenOk w)
def w0 (P : List (List (List Int))) : Nat := (rd_L1 (rd_L2 P 0) 0).length
/-- A quantizer may be. -/
def vq (P : List (List (List Int))) : Bool := decide (1 ≤ P.length) && decide (P.length ≤ 64) && decide (1 ≤ (rd_L2 P 0).length) && P.all (partOk (w0 P)) && decide (1 ≤ w0 P) && decide (w0 P * P.length ≤ 64)
/-- As long as lists of a given program may be. -/
def Fits (P : List (List (List Int))) : Prop := P.length ≤ 17592186044416 ∧ ∀ p ∈ P, p.length ≤ 17592186044416 ∧ ∀ c ∈ p, c.length ≤ 17592186044416
theorem wide_inner (w : Nat) (Q P : List (List (List Int))) (i : Int) (p : List (List Int)) (hp : p.length ≤ 17592186044416) (r : Int × Bool) (hnext : p.all (cenOk w) = true → Ev (fun k => product_wide.l0 k w Q (Q.length : Int) (wrap64 (i + 1)) P) r) (hbad : p.all (cenOk w) = false → r = (0, false)) :
    ∀ (d j : Nat), j + d = p.length → (p.take j).all (cenOk w) = true → Ev (fun k => product_wide.l1 k w Q (Q.length : Int) i p (p.length : Int) (j : Int) P) r := by
  intro d
  induction d with
  | zero =>
    intro j hj ht
    rw [List.take_of_length_le (by omega)] at ht
    apply Ev.step
    · intro k; rw [product_wide.l1, if_neg (by omega)]
    · exact hnext ht
  | succ d ih =>
    intro j hj ht
    have hcons : p.take (j + 1) = p.take j ++ [rd_L1 p (j : Int)] := by
      rw [List.take_add_one, List.getElem?_eq_getElem (by omega)]
      simp [rd_L1, List.getD_eq_getElem?_getD, List.getElem?_eq_getElem (by omega : j < p.length)]
    have hsplit : p.all (cenOk w) = ((p.take (j + 1)).all (cenOk w) && (p.drop (j + 1)).all (cenOk w)) := by
      rw [← List.all_append, List.take_append_drop]
    by_cases h1 : (rd_L1 p (j : Int)).length = w
    · by_cases h2 : okAll (rd_L1 p (j : Int)) = true
      · apply Ev.step
        · intro k
          rw [product_wide.l1, if_pos (by omega), if_pos (by omega), if_pos (by omega), if_pos (by omega), all_ev, Option.bind_some, if_pos h2, w64 (n := (j : Int) + 1) (by omega) (by omega)]
        · refine ih (j + 1) (by omega) ?_
          rw [hcons, List.all_append, ht]
          simp [cenOk, h1, h2]
      · have hb : p.all (cenOk w) = false := by
          rw [hsplit, hcons, List.all_append]
          simp [cenOk, h2]
        rw [hbad hb]
        apply Ev.step
        · intro k
          rw [product_wide.l1, if_pos (by omega), if_pos (by omega), if_pos (by omega), if_pos (by omega), all_ev, Option.bind_some, if_neg h2]
        · exact Ev.now _
    · have hb : p.all (cenOk w) = false := by
        rw [hsplit, hcons, List.all_append]
        simp [cenOk, h1]
      rw [hbad hb]
      apply Ev.step
      · intro k
        rw [product_wide.l1, if_pos (by omega), if_pos (by omega), if_pos (by omega), if_neg (by omega)]
      · exact Ev.now _
/-- What is told of the parts from the one at i on. -/
def wideFrom (w : Nat) (P : List (List (List Int))) (i : Nat) : Int × Bool := if (P.drop i).all (partOk w) = true then (if 1 ≤ w then ((w : Int), decide (w * P.length ≤ 64)) else ((w : Int), false)) else (0, false)
theorem wide_loop (w : Nat) (hw : w ≤ 17592186044416) (P : List (List (List Int))) (h64 : P.length ≤ 64) (hP : Fits P) : ∀ (d i : Nat), i + d = P.length → Ev (fun k => product_wide.l0 k w P (P.length : Int) (i : Int) P) (wideFrom w P i) := by
  intro d
  induction d with
  | zero =>
    intro i hi
    have he : P.drop i = [] := List.drop_eq_nil_iff.2 (by omega)
    unfold wideFrom
    rw [he, List.all_nil, if_pos rfl]
    have hm : (w : Int) * (P.length : Int) = ((w * P.length : Nat) : Int) := by simp
    have hle : w * P.length ≤ 17592186044416 * 64 := Nat.mul_le_mul hw h64
    by_cases h : 1 ≤ w
    · rw [if_pos h]
      apply Ev.step
      · intro k
        rw [product_wide.l0, if_neg (by omega), if_pos (by omega), hm, w64 (by omega) (by omega), show decide (((w * P.length : Nat) : Int) ≤ 64) = decide (w * P.length ≤ 64) from decide_eq_decide.2 (by omega)]
      · exact Ev.now _
    · rw [if_neg h]
      apply Ev.step
      · intro k
        rw [product_wide.l0, if_neg (by omega), if_neg (by omega)]
      · exact Ev.now _
  | succ d ih =>
    intro i hi
    have hd := L2_drop P i (by omega)
    have hpl := (hP.2 _ (L2_mem P i (by omega))).1
    have hr : wideFrom w P i = if partOk w (rd_L2 P (i : Int)) = true then wideFrom w P (i + 1) else (0, false) := by
      unfold wideFrom
      rw [hd, List.all_cons]
      cases partOk w (rd_L2 P (i : Int)) <;> simp
    rw [hr]
    by_cases h1 : 1 ≤ (rd_L2 P (i : Int)).length
    · by_cases h2 : (rd_L2 P (i : Int)).length ≤ 256
      · apply Ev.step
        · intro k
          rw [product_wide.l0, if_pos (by omega), if_pos (by omega), if_pos (by omega), if_neg (by omega), show decide (((rd_L2 P (i : Int)).length : Int) > 256) = false from decide_eq_false (by omega)]
        · apply Ev.step
          · intro k
            rw [product_wide.j2, if_neg (by decide)]
          · refine wide_inner w P P (i : Int) (rd_L2 P (i : Int)) hpl _ ?_ ?_ (rd_L2 P (i : Int)).length 0 (by omega) (by simp)
            · intro ha
              rw [if_pos (by simp [partOk, h1, h2]; simpa using ha), w64 (by omega) (by omega)]
              exact ih (i + 1) (by omega)
            · intro ha
              rw [if_neg (by unfold partOk; rw [ha]; simp)]
      · rw [if_neg (by unfold partOk; rw [decide_eq_false h2]; simp)]
        apply Ev.step
        · intro k
          rw [product_wide.l0, if_pos (by omega), if_pos (by omega), if_pos (by omega), if_neg (by omega), show decide (((rd_L2 P (i : Int)).length : Int) > 256) = true from decide_eq_true (by omega)]
        · apply Ev.step
          · intro k; rw [product_wide.j2, if_pos rfl]
          · exact Ev.now _
    · rw [if_neg (by unfold partOk; rw [decide_eq_false h1]; simp)]
      apply Ev.step
      · intro k
        rw [product_wide.l0, if_pos (by omega), if_pos (by omega), if_pos (by omega), if_pos (by omega)]
      · apply Ev.step
        · intro k; rw [product_wide.j2, if_pos rfl]
        · exact Ev.now _
theorem vq_iff (P : List (List (List Int))) : vq P = true ↔ 1 ≤ P.length ∧ P.length ≤ 64 ∧ 1 ≤ (rd_L2 P 0).length ∧ P.all (partOk (w0 P)) = true ∧ 1 ≤ w0 P ∧ w0 P * P.length ≤ 64 := by
  simp only [vq, Bool.and_eq_true, decide_eq_true_eq, and_assoc]
theorem w0_le (P : List (List (List Int))) (hP : Fits P) (h1 : 1 ≤ P.length) (h2 : 1 ≤ (rd_L2 P 0).length) : w0 P ≤ 17592186044416 :=
  (hP.2 _ (L2_mem P 0 (by omega))).2 _ (L1_mem (rd_L2 P 0) 0 (by omega))
theorem wide_ev (P : List (List (List Int))) (hP : Fits P) : ∃ m : Int, Ev (fun k => product_wide.f k P) (m, vq P) ∧ (vq P = true → m = (w0 P : Int)) := by
  have hj : ∀ x : Bool, x = true → ∃ m : Int, Ev (fun k => product_wide.j0 k x P) (m, false) := by
    rintro x rfl
    refine ⟨0, ?_⟩
    apply Ev.step
    · intro k; rw [product_wide.j0, if_pos rfl]
    · exact Ev.now _
  by_cases h1 : 1 ≤ P.length
  · by_cases h2 : P.length ≤ 64
    · by_cases h3 : 1 ≤ (rd_L2 P 0).length
      · have hv : vq P = (P.all (partOk (w0 P)) && decide (1 ≤ w0 P) && decide (w0 P * P.length ≤ 64)) := by
          unfold vq; rw [decide_eq_true h1, decide_eq_true h2, decide_eq_true h3]; simp
        have hl := wide_loop (w0 P) (w0_le P hP h1 h3) P h2 hP P.length 0 (by omega)
        have hs : Ev (fun k => product_wide.f k P) (wideFrom (w0 P) P 0) := by
          refine Ev.congr (f := fun k => product_wide.j0 k false P) (fun k => ?_) ?_
          · unfold product_wide.f
            rw [if_neg (by omega), if_neg (by omega), if_pos (by omega), show (((rd_L2 P 0).length : Int) == 0) = false from beq_eq_false_iff_ne.2 (by omega)]
          · apply Ev.step
            · intro k; rw [product_wide.j0, if_neg (by decide), if_pos (by omega), if_pos (by omega)]
            · exact hl
        unfold wideFrom at hs
        rw [List.drop_zero] at hs
        rw [hv]
        by_cases h4 : P.all (partOk (w0 P)) = true
        · rw [if_pos h4] at hs
          rw [h4]
          by_cases h5 : 1 ≤ w0 P
          · rw [if_pos h5] at hs
            refine ⟨_, ?_, fun _ => rfl⟩
            rw [decide_eq_true h5]; simpa using hs
          · rw [if_neg h5] at hs
            refine ⟨_, ?_, fun _ => rfl⟩
            rw [decide_eq_false h5]; simpa using hs
        · rw [if_neg h4] at hs
          rw [Bool.not_eq_true] at h4
          rw [h4]
          exact ⟨0, by simpa using hs, fun h => by simp at h⟩
      · have hv : vq P = false := by unfold vq; rw [decide_eq_false h3]; simp
        rw [hv]
        obtain ⟨m, hm⟩ := hj true rfl
        refine ⟨m, Ev.congr (fun k => ?_) hm, fun h => by cases h⟩
        unfold product_wide.f
        rw [if_neg (by omega), if_neg (by omega), if_pos (by omega), show (((rd_L2 P 0).length : Int) == 0) = true from beq_iff_eq.2 (by omega)]
    · have hv : vq P = false := by unfold vq; rw [decide_eq_false h2]; simp
      rw [hv]
      obtain ⟨m, hm⟩ := hj true rfl
      refine ⟨m, Ev.congr (fun k => ?_) hm, fun h => by cases h⟩
      unfold product_wide.f
      rw [if_neg (by omega), if_pos (by omega)]
  · have hv : vq P = false := by unfold vq; rw [decide_eq_false h1]; simp
    rw [hv]
    obtain ⟨m, hm⟩ := hj true rfl
    refine ⟨m, Ev.congr (fun k => ?_) hm, fun h => by cases h⟩
    unfold product_wide.f
    rw [if_pos (by omega)]
end Go.Proofs.Ytlnilonlaedafaa.P
