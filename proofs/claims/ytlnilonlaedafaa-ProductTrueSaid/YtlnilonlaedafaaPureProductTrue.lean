/- lodestarlaw19.ProductTrue: the sum of a table of a vector, at any codes, is the true squared distance, or dot product, of the vector and what the codes tell. -/
import Derived.Test.YtlnilonlaedafaaQTable
import Derived.Test.YtlnilonlaedafaaQTold
import Derived.Test.YtlnilonlaedafaaQEstimate
import Derived.Test.YtlnilonlaedafaaQAwake19
import Derived.Test.YtlnilonlaedafaaPx18
namespace Go.Proofs.Ytlnilonlaedafaa.Pure
open Go.RowKit Go.Proofs.Ytlnilonlaedafaa.P Go.Proofs.YtlnilonlaedafaaW.PrintWords Go.Proofs.YtlnilonlaedafaaW.PrintLast
open Go.Proofs.Ytlnilonlaedafaa.Q
theorem score_range (m : Int) (x c : List Int) : -274877906944 ≤ score m x c ∧ score m x c ≤ 274877906944 := by
  unfold score
  by_cases h : m = 1
  · rw [if_pos h]; have := l2_range x c; omega
  · rw [if_neg h]; have := dot_range x c; omega
theorem entry_score (m : Int) (P : List (List (List Int))) (v codes : List Int) (hr : inRange P codes P.length) (i : Nat) (hi : i < P.length) : (0 ≤ rd codes (i : Int) ∧ rd codes (i : Int) < ((rd_L1 (tabTo m P v P.length) (i : Int)).length : Int)) ∧ entry (tabTo m P v P.length) codes i = score m (cut v (w0 P) i) (cen P codes i) := by
  obtain ⟨r1, r2⟩ := hr i hi
  have hz : ((rd codes (i : Int)).toNat : Int) = rd codes (i : Int) := Int.toNat_of_nonneg r1
  unfold entry
  rw [tabTo_get m P v P.length i hi]
  unfold rowOf
  refine ⟨⟨r1, by rw [rowTo_length]; exact r2⟩, ?_⟩
  rw [← hz, rowTo_get m _ _ _ _ (by omega), hz]
  rfl
theorem est_ev (m : Int) (P : List (List (List Int))) (hv : vq P = true) (v codes : List Int) (hc : codes.length = P.length) (hr : inRange P codes P.length) : Ev (fun k => product_Estimate.f k (tabTo m P v P.length) codes) (sumTo (fun i => score m (cut v (w0 P) i) (cen P codes i)) P.length, 0) := by
  have h := estimate_ev (tabTo m P v P.length) codes P.length ((vq_iff P).1 hv).2.1 (tabTo_length m P v P.length) hc (fun i hi => (entry_score m P v codes hr i hi).1) (fun i hi => by rw [(entry_score m P v codes hr i hi).2]; exact score_range m _ _)
  rw [sumTo_congr (fun i hi => (entry_score m P v codes hr i hi).2)] at h
  exact h
theorem ProductTrue : lodestarlaw19_ProductTrue.Pure := by
  intro P v codes hp hv _
  have hP : Fits P := ⟨by omega, fun p h => ⟨by have := (hp.2 p h).1; omega, fun c hc => by have := ((hp.2 p h).2 c hc).1; omega⟩⟩
  have hl : v.length ≤ 17592186044416 := by omega
  clear hp hv
  refine Ev.rounds (g := fun k => lodestarlaw19_ProductTrue.f k P v codes) ?_
  unfold lodestarlaw19_ProductTrue.f
  refine Ev.bind (decode_ev P hP codes) (Ev.bind (table_ev 1 P hP v hl) (Ev.bind (table_ev 2 P hP v hl) ?_))
  have hb : ∀ x, x = true → Ev (fun k => lodestarlaw19_ProductTrue.j0 k v codes (decodeP P codes).1 (table 1 P v).1 (table 2 P v).1 x) true := by
    rintro x rfl
    apply Ev.step
    · intro k; rw [lodestarlaw19_ProductTrue.j0, if_pos rfl]
    · exact Ev.bind awake19_ev (Ev.now _)
  by_cases h1 : (decodeP P codes).2 = 0
  · by_cases h2 : (table 1 P v).2 = 0
    · refine Ev.congr (fun k => (if_pos h1).trans (if_pos h2)) ?_
      by_cases h3 : (table 2 P v).2 = 0
      · rw [h3]
        obtain ⟨hv, hc, hr, he⟩ := decode_ok h1
        have hf : fitsB P v = true := by
          by_cases hf : fitsB P v = true
          · exact hf
          · unfold table at h2; rw [if_neg (by decide), if_pos hv, if_neg hf] at h2; cases h2
        have ht : ∀ m : Int, 1 ≤ m → m ≤ 3 → table m P v = (tabTo m P v P.length, 0) := by
          intro m m1 m2; unfold table; rw [if_neg (by omega), if_pos hv, if_pos hf]
        obtain ⟨v1, v2, v3, v4, v5, v6⟩ := (vq_iff P).1 hv
        obtain ⟨f1, f2⟩ := (fitsB_iff P v).1 hf
        obtain ⟨t1, t2, t3⟩ := told_spec hv codes P.length (Nat.le_refl _) hr
        have hlen : v.length = P.length * w0 P := by rw [f1, Nat.mul_comm]
        have h64 : P.length * w0 P ≤ 64 := by rw [Nat.mul_comm]; exact v6
        have el2 : sumTo (fun i => score 1 (cut v (w0 P) i) (cen P codes i)) P.length = l2 v (told P codes P.length) := by
          rw [l2_blocks v (told P codes P.length) (w0 P) P.length v5 v1 h64 hlen t1 f2 t2]
          apply sumTo_congr
          intro i hi
          rw [t3 i hi]; rfl
        have edot : sumTo (fun i => score 2 (cut v (w0 P) i) (cen P codes i)) P.length = dot v (told P codes P.length) := by
          rw [dot_blocks v (told P codes P.length) (w0 P) P.length v5 v1 h64 hlen t1 f2 t2]
          apply sumTo_congr
          intro i hi
          rw [t3 i hi]; rfl
        have e1 := est_ev 1 P hv v codes hc hr
        have e2 := est_ev 2 P hv v codes hc hr
        rw [el2] at e1
        rw [edot] at e2
        rw [he, ht 1 (by decide) (by decide), ht 2 (by decide) (by decide)]
        have hx : (told P codes P.length).length ≤ 17592186044416 := by rw [t1]; exact Nat.le_trans h64 (by decide)
        apply Ev.step
        · intro k; rw [lodestarlaw19_ProductTrue.j0, if_neg (by decide)]
        · refine Ev.bind e1 (Ev.bind e2 ?_)
          refine Ev.congr (fun k => (if_pos rfl).trans (if_pos rfl)) ?_
          refine Ev.bind (refL2_ev v _ hl hx) (Ev.congr (fun k => if_pos rfl) ?_)
          refine Ev.bind (refDot_ev v _ hl hx) (Ev.congr (fun k => if_pos rfl) ?_)
          exact Ev.bind awake19_ev (Ev.now _)
      · exact hb _ (bne_iff_ne.2 h3)
    · exact Ev.congr (fun k => (if_pos h1).trans (if_neg h2)) (hb _ rfl)
  · exact Ev.congr (fun k => if_neg h1) (hb _ rfl)
end Go.Proofs.Ytlnilonlaedafaa.Pure
