/- The tables of product quantizers in the document's words. -/
import Derived.Test.YtlnilonlaedafaaQPiecesRef
import Derived.Test.YtlnilonlaedafaaQTable
import Derived.Test.YtlnilonlaedafaaPx16
namespace Go.Proofs.Ytlnilonlaedafaa.P
open Go.RowKit Go.Proofs.YtlnilonlaedafaaW.PrintWords Go.Proofs.YtlnilonlaedafaaW.PrintLast
open Go.Proofs.Ytlnilonlaedafaa.Q
theorem ref_row_loop (m : Int) (P : List (List (List Int))) (hP : Fits P) (hv : vq P = true) (v : List Int) (hf : fitsB P v = true) (acc : List (List Int)) (i : Nat) (hi : i < P.length) (ha : acc.length < 5864062014805) (r : List (List Int) × Int) (hnext : Ev (fun k => lodestarref19_Table.l0 k m v (w0 P : Int) (acc ++ [rowOf m P v i]) (wrap64 ((i : Int) + 1)) P) r) :
    ∀ (d j : Nat), j + d = (rd_L2 P (i : Int)).length → Ev (fun k => lodestarref19_Table.l1 k m v (w0 P : Int) acc (i : Int) (rowTo m (cut v (w0 P) i) (rd_L2 P (i : Int)) j) (j : Int) P) r := by
  obtain ⟨v1, v2, v3, v4, v5, v6⟩ := (vq_iff P).1 hv
  have hlen := ((fitsB_iff P v).1 hf).1
  have hp := hP.2 _ (L2_mem P i hi)
  have hc := cut_le v (w0 P) i
  obtain ⟨e1, e2, e3⟩ := cut_at (w0 P) i P.length v6 hi v2
  obtain ⟨g1, g2, g3⟩ := cut_inside (w0 P) i P.length v.length v6 hi hlen
  have i1 : (0 : Int) ≤ (i : Int) := Int.natCast_nonneg _
  have i2 : (i : Int) < (P.length : Int) := Int.ofNat_lt.2 hi
  have hcl : (cut v (w0 P) i).length ≤ 17592186044416 := by omega
  have hpl := hp.1
  clear hlen v1 v2 v3 v5 v6 hc
  intro d
  induction d with
  | zero =>
    intro j hj
    apply Ev.step
    · intro k; rw [lodestarref19_Table.l1, if_pos i1, if_pos i2, if_neg (by omega), if_pos ha]
    · obtain rfl : j = (rd_L2 P (i : Int)).length := by omega
      exact hnext
  | succ d ih =>
    intro j hj
    have hn := ih (j + 1) (by omega)
    rw [rowTo_succ] at hn
    have hw := w64 (n := (j : Int) + 1) (by omega) (by omega)
    have j0 : (0 : Int) ≤ (j : Int) := Int.natCast_nonneg _
    have j1 : (j : Int) < ((rd_L2 P (i : Int)).length : Int) := by omega
    have j2 : (rowTo m (cut v (w0 P) i) (rd_L2 P (i : Int)) j).length < 17592186044416 := by rw [rowTo_length]; exact Nat.lt_of_lt_of_le (Int.ofNat_lt.1 j1) hpl
    by_cases hm : m = 1
    · have he := refL2_ev (cut v (w0 P) i) (rd_L1 (rd_L2 P (i : Int)) (j : Int)) hcl (hp.2 _ (L1_mem _ j (by omega)))
      apply Ev.step
      · intro k
        rw [lodestarref19_Table.l1, if_pos i1, if_pos i2, if_pos j1, if_pos hm, e1, e2, e3, if_pos g1, if_pos g2, if_pos g3, if_pos j0, Int.toNat_natCast, Int.toNat_natCast, hw]
      · refine Ev.bind he (Ev.congr (fun k => ?_) hn)
        rw [if_pos j2, show score m (cut v (w0 P) i) (rd_L1 (rd_L2 P (i : Int)) (j : Int)) = l2 (cut v (w0 P) i) (rd_L1 (rd_L2 P (i : Int)) (j : Int)) from if_pos hm]
        rfl
    · have he := refDot_ev (cut v (w0 P) i) (rd_L1 (rd_L2 P (i : Int)) (j : Int)) hcl (hp.2 _ (L1_mem _ j (by omega)))
      apply Ev.step
      · intro k
        rw [lodestarref19_Table.l1, if_pos i1, if_pos i2, if_pos j1, if_neg hm, e1, e2, e3, if_pos g1, if_pos g2, if_pos g3, if_pos j0, Int.toNat_natCast, Int.toNat_natCast, hw]
      · refine Ev.bind he (Ev.congr (fun k => ?_) hn)
        rw [if_pos j2, show score m (cut v (w0 P) i) (rd_L1 (rd_L2 P (i : Int)) (j : Int)) = dot (cut v (w0 P) i) (rd_L1 (rd_L2 P (i : Int)) (j : Int)) from if_neg hm]
        rfl
theorem ref_tab_loop (m : Int) (P : List (List (List Int))) (hP : Fits P) (hv : vq P = true) (v : List Int) (hf : fitsB P v = true) : ∀ (d i : Nat), i + d = P.length → Ev (fun k => lodestarref19_Table.l0 k m v (w0 P : Int) (tabTo m P v i) (i : Int) P) (tabTo m P v P.length, 0) := by
  have h64 := ((vq_iff P).1 hv).2.1
  intro d
  induction d with
  | zero =>
    intro i hi
    obtain rfl : i = P.length := by omega
    apply Ev.step
    · intro k; rw [lodestarref19_Table.l0, if_neg (by omega)]
    · exact Ev.now _
  | succ d ih =>
    intro i hi
    have hn := ih (i + 1) (by omega)
    rw [tabTo_succ] at hn
    apply Ev.step
    · intro k
      rw [lodestarref19_Table.l0, if_pos (by omega)]
    · refine ref_row_loop m P hP hv v hf (tabTo m P v i) i (by omega) (by rw [tabTo_length]; omega) _ ?_ (rd_L2 P (i : Int)).length 0 (by omega)
      rw [w64 (by omega) (by omega)]
      exact hn
theorem ref_table_ev (m : Int) (P : List (List (List Int))) (hP : Fits P) (v : List Int) (hl : v.length ≤ 17592186044416) : Ev (fun k => lodestarref19_Table.f k m P v) (table m P v) := by
  unfold table
  refine Ev.bind (ref_width_ev P hP) ?_
  have hbad : m < 1 ∨ 3 < m → Ev (fun k => lodestarref19_Table.j0 k m v (widthOf P) true P) (([], 1) : List (List Int) × Int) := by
    intro _
    apply Ev.step
    · intro k; rw [lodestarref19_Table.j0, if_pos rfl]
    · exact Ev.now _
  by_cases h1 : m < 1
  · rw [if_pos (.inl h1)]
    exact Ev.congr (fun k => if_pos h1) (hbad (.inl h1))
  · by_cases h3 : 3 < m
    · rw [if_pos (.inr h3)]
      refine Ev.congr (fun k => (if_neg h1).trans ?_) (hbad (.inr h3))
      rw [decide_eq_true h3]
    · rw [if_neg (by omega)]
      refine Ev.congr (f := fun k => lodestarref19_Table.j0 k m v (widthOf P) false P) (fun k => (if_neg h1).trans ?_) ?_
      · rw [decide_eq_false h3]
      · by_cases hv : vq P = true
        · rw [if_pos hv]
          have hz : ¬ widthOf P = 0 := fun h => (widthOf_zero P).1 h hv
          apply Ev.step
          · intro k; rw [lodestarref19_Table.j0, if_neg Bool.false_ne_true, if_neg hz]
          · refine Ev.bind (fits_ev P hP hv v hl) ?_
            by_cases hf : fitsB P v = true
            · rw [if_pos hf]
              refine Ev.congr (fun k => if_pos hf) ?_
              have := ref_tab_loop m P hP hv v hf P.length 0 (by omega)
              unfold widthOf
              rw [if_pos hv]
              exact this
            · rw [if_neg hf]
              exact Ev.congr (fun k => if_neg hf) (Ev.now _)
        · rw [if_neg hv]
          apply Ev.step
          · intro k; rw [lodestarref19_Table.j0, if_neg Bool.false_ne_true, if_pos ((widthOf_zero P).2 hv)]
          · exact Ev.now _
end Go.Proofs.Ytlnilonlaedafaa.P
