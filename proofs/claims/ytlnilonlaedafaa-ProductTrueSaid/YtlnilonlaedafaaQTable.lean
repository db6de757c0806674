/- The tables of product quantizers: the program's and the document's. -/
import Derived.Test.YtlnilonlaedafaaQPieces
import Derived.Test.YtlnilonlaedafaaPx13
namespace Go.Proofs.Ytlnilonlaedafaa.P
open Go.RowKit Go.Proofs.YtlnilonlaedafaaW.PrintWords Go.Proofs.YtlnilonlaedafaaW.PrintLast
open Go.Proofs.Ytlnilonlaedafaa.Q
/-- How near by a metric. -/
def score (m : Int) (x c : List Int) : Int := if m = 1 then l2 x c else dot x c
def rowTo (m : Int) (x : List Int) (p : List (List Int)) (j : Nat) : List Int := (List.range j).map (fun i : Nat => score m x (rd_L1 p (i : Int)))
theorem rowTo_succ (m : Int) (x : List Int) (p : List (List Int)) (j : Nat) : rowTo m x p (j + 1) = rowTo m x p j ++ [score m x (rd_L1 p (j : Int))] := by simp [rowTo, List.range_succ]
theorem rowTo_length (m : Int) (x : List Int) (p : List (List Int)) (j : Nat) : (rowTo m x p j).length = j := by simp [rowTo]
theorem rowTo_get (m : Int) (x : List Int) (p : List (List Int)) (j i : Nat) (h : i < j) : rd (rowTo m x p j) (i : Int) = score m x (rd_L1 p (i : Int)) := by
  simp [rd, rowTo, List.getD_eq_getElem?_getD, List.getElem?_map, List.getElem?_range h]
def rowOf (m : Int) (P : List (List (List Int))) (v : List Int) (i : Nat) : List Int := rowTo m (cut v (w0 P) i) (rd_L2 P (i : Int)) (rd_L2 P (i : Int)).length
def tabTo (m : Int) (P : List (List (List Int))) (v : List Int) (n : Nat) : List (List Int) := (List.range n).map (rowOf m P v)
theorem tabTo_succ (m : Int) (P : List (List (List Int))) (v : List Int) (n : Nat) : tabTo m P v (n + 1) = tabTo m P v n ++ [rowOf m P v n] := by simp [tabTo, List.range_succ]
theorem tabTo_length (m : Int) (P : List (List (List Int))) (v : List Int) (n : Nat) : (tabTo m P v n).length = n := by simp [tabTo]
theorem tabTo_get (m : Int) (P : List (List (List Int))) (v : List Int) (n i : Nat) (h : i < n) : rd_L1 (tabTo m P v n) (i : Int) = rowOf m P v i := by
  simp [rd_L1, tabTo, List.getD_eq_getElem?_getD, List.getElem?_map, List.getElem?_range h]
def table (m : Int) (P : List (List (List Int))) (v : List Int) : List (List Int) × Int := if m < 1 ∨ 3 < m then ([], 1) else if vq P = true then (if fitsB P v = true then (tabTo m P v P.length, 0) else ([], 60)) else ([], 170)
theorem row_loop1 (m : Int) (hm : m = 1) (P : List (List (List Int))) (hP : Fits P) (v : List Int) (hl : v.length ≤ 17592186044416) (L acc : List (List Int)) (n : Int) (i : Nat) (hi : i < P.length) (ha : acc.length < 5864062014805) (r : List (List Int) × Int) (hnext : Ev (fun k => product_Table.l100 k (acc ++ [rowOf m P v i]) L n (wrap64 ((i : Int) + 1)) P) r) :
    ∀ (d j : Nat), j + d = (rd_L2 P (i : Int)).length → Ev (fun k => product_Table.l101 k acc (cut v (w0 P) i) (rowTo m (cut v (w0 P) i) (rd_L2 P (i : Int)) j) L n (i : Int) (rd_L2 P (i : Int)) ((rd_L2 P (i : Int)).length : Int) (j : Int) P) r := by
  have hp := hP.2 _ (L2_mem P i hi)
  have hc := cut_le v (w0 P) i
  intro d
  induction d with
  | zero =>
    intro j hj
    apply Ev.step
    · intro k; rw [product_Table.l101, if_neg (by omega), if_pos ha]
    · obtain rfl : j = (rd_L2 P (i : Int)).length := by omega
      exact hnext
  | succ d ih =>
    intro j hj
    have hn := ih (j + 1) (by omega)
    rw [rowTo_succ] at hn
    have he := l2_ev (cut v (w0 P) i) (rd_L1 (rd_L2 P (i : Int)) (j : Int)) (by omega) (hp.2 _ (L1_mem _ j (by omega)))
    apply Ev.step
    · intro k
      rw [product_Table.l101, if_pos (by omega), if_pos (by omega), if_pos (by omega), w64 (n := (j : Int) + 1) (by omega) (by omega)]
    · refine Ev.bind he (Ev.congr (fun k => ?_) hn)
      rw [if_pos (by rw [rowTo_length]; omega), show score m (cut v (w0 P) i) (rd_L1 (rd_L2 P (i : Int)) (j : Int)) = l2 (cut v (w0 P) i) (rd_L1 (rd_L2 P (i : Int)) (j : Int)) from if_pos hm]
      rfl
theorem row_loop2 (m : Int) (hm : m ≠ 1) (P : List (List (List Int))) (hP : Fits P) (v : List Int) (hl : v.length ≤ 17592186044416) (L acc : List (List Int)) (n : Int) (i : Nat) (hi : i < P.length) (ha : acc.length < 5864062014805) (r : List (List Int) × Int) (hnext : Ev (fun k => product_Table.l200 k (acc ++ [rowOf m P v i]) L n (wrap64 ((i : Int) + 1)) P) r) :
    ∀ (d j : Nat), j + d = (rd_L2 P (i : Int)).length → Ev (fun k => product_Table.l201 k acc (cut v (w0 P) i) (rowTo m (cut v (w0 P) i) (rd_L2 P (i : Int)) j) L n (i : Int) (rd_L2 P (i : Int)) ((rd_L2 P (i : Int)).length : Int) (j : Int) P) r := by
  have hp := hP.2 _ (L2_mem P i hi)
  have hc := cut_le v (w0 P) i
  intro d
  induction d with
  | zero =>
    intro j hj
    apply Ev.step
    · intro k; rw [product_Table.l201, if_neg (by omega), if_pos ha]
    · obtain rfl : j = (rd_L2 P (i : Int)).length := by omega
      exact hnext
  | succ d ih =>
    intro j hj
    have hn := ih (j + 1) (by omega)
    rw [rowTo_succ] at hn
    have he := dot_ev (cut v (w0 P) i) (rd_L1 (rd_L2 P (i : Int)) (j : Int)) (by omega) (hp.2 _ (L1_mem _ j (by omega)))
    apply Ev.step
    · intro k
      rw [product_Table.l201, if_pos (by omega), if_pos (by omega), if_pos (by omega), w64 (n := (j : Int) + 1) (by omega) (by omega)]
    · refine Ev.bind he (Ev.congr (fun k => ?_) hn)
      rw [if_pos (by rw [rowTo_length]; omega), show score m (cut v (w0 P) i) (rd_L1 (rd_L2 P (i : Int)) (j : Int)) = dot (cut v (w0 P) i) (rd_L1 (rd_L2 P (i : Int)) (j : Int)) from if_neg hm]
      rfl
theorem tab_loop1 (m : Int) (hm : m = 1) (P : List (List (List Int))) (hP : Fits P) (v : List Int) (hl : v.length ≤ 17592186044416) (h64 : P.length ≤ 64) : ∀ (d i : Nat), i + d = P.length → Ev (fun k => product_Table.l100 k (tabTo m P v i) (cuts v (w0 P) P.length) (P.length : Int) (i : Int) P) (tabTo m P v P.length, 0) := by
  intro d
  induction d with
  | zero =>
    intro i hi
    obtain rfl : i = P.length := by omega
    apply Ev.step
    · intro k; rw [product_Table.l100, if_neg (by omega)]
    · exact Ev.now _
  | succ d ih =>
    intro i hi
    have hn := ih (i + 1) (by omega)
    rw [tabTo_succ] at hn
    apply Ev.step
    · intro k
      rw [product_Table.l100, if_pos (by omega), if_pos (by omega), if_pos (by rw [cuts_length]; omega), if_pos (by omega), cuts_get v (w0 P) P.length i (by omega)]
    · refine row_loop1 m hm P hP v hl (cuts v (w0 P) P.length) (tabTo m P v i) (P.length : Int) i (by omega) (by rw [tabTo_length]; omega) _ ?_ (rd_L2 P (i : Int)).length 0 (by omega)
      rw [w64 (by omega) (by omega)]
      exact hn
theorem tab_loop2 (m : Int) (hm : m ≠ 1) (P : List (List (List Int))) (hP : Fits P) (v : List Int) (hl : v.length ≤ 17592186044416) (h64 : P.length ≤ 64) : ∀ (d i : Nat), i + d = P.length → Ev (fun k => product_Table.l200 k (tabTo m P v i) (cuts v (w0 P) P.length) (P.length : Int) (i : Int) P) (tabTo m P v P.length, 0) := by
  intro d
  induction d with
  | zero =>
    intro i hi
    obtain rfl : i = P.length := by omega
    apply Ev.step
    · intro k; rw [product_Table.l200, if_neg (by omega)]
    · exact Ev.now _
  | succ d ih =>
    intro i hi
    have hn := ih (i + 1) (by omega)
    rw [tabTo_succ] at hn
    apply Ev.step
    · intro k
      rw [product_Table.l200, if_pos (by omega), if_pos (by omega), if_pos (by rw [cuts_length]; omega), if_pos (by omega), cuts_get v (w0 P) P.length i (by omega)]
    · refine row_loop2 m hm P hP v hl (cuts v (w0 P) P.length) (tabTo m P v i) (P.length : Int) i (by omega) (by rw [tabTo_length]; omega) _ ?_ (rd_L2 P (i : Int)).length 0 (by omega)
      rw [w64 (by omega) (by omega)]
      exact hn
theorem table_ev (m : Int) (P : List (List (List Int))) (hP : Fits P) (v : List Int) (hl : v.length ≤ 17592186044416) : Ev (fun k => product_Table.f k m P v) (table m P v) := by
  unfold table
  by_cases h1 : m < 1
  · rw [if_pos (.inl h1)]
    exact Ev.congr (fun k => if_pos h1) (Ev.now _)
  · by_cases h3 : 3 < m
    · rw [if_pos (.inr h3)]
      exact Ev.congr (fun k => (if_neg h1).trans (if_pos h3)) (Ev.now _)
    · rw [if_neg (by omega)]
      refine Ev.congr (fun k => (if_neg h1).trans (if_neg h3)) ?_
      refine Ev.bind (pieces_ev P hP v) ?_
      unfold pieces
      by_cases hv : vq P = true
      · rw [if_pos hv, if_pos hv]
        by_cases hf : fitsB P v = true
        · rw [if_pos hf, if_pos hf]
          by_cases hm : m = 1
          · refine Ev.congr (f := fun k => product_Table.l100 k [] (cuts v (w0 P) P.length) (P.length : Int) 0 P) (fun k => ?_) (tab_loop1 m hm P hP v hl ((vq_iff P).1 hv).2.1 P.length 0 (by omega))
            rw [if_pos rfl, if_pos hm, cuts_length]
          · refine Ev.congr (f := fun k => product_Table.l200 k [] (cuts v (w0 P) P.length) (P.length : Int) 0 P) (fun k => ?_) (tab_loop2 m hm P hP v hl ((vq_iff P).1 hv).2.1 P.length 0 (by omega))
            rw [if_pos rfl, if_neg hm, cuts_length]
        · rw [if_neg hf, if_neg hf]
          exact Ev.congr (fun k => if_neg (by decide)) (Ev.now _)
      · rw [if_neg hv, if_neg hv]
        exact Ev.congr (fun k => if_neg (by decide)) (Ev.now _)
theorem table_le (m : Int) (P : List (List (List Int))) (v : List Int) : (table m P v).1.length ≤ 64 := by
  unfold table
  by_cases h : m < 1 ∨ 3 < m
  · rw [if_pos h]; simp
  · rw [if_neg h]
    by_cases hv : vq P = true
    · rw [if_pos hv]
      by_cases hf : fitsB P v = true
      · rw [if_pos hf]; simp only; rw [tabTo_length]; exact ((vq_iff P).1 hv).2.1
      · rw [if_neg hf]; simp
    · rw [if_neg hv]; simp
end Go.Proofs.Ytlnilonlaedafaa.P
