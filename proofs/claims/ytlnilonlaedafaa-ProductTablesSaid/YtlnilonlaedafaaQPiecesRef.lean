/- The codes of a vector and what codes tell, in the document's words. -/
import Derived.Test.YtlnilonlaedafaaQPieces
import Derived.Test.YtlnilonlaedafaaPx8
import Derived.Test.YtlnilonlaedafaaPx9
import Derived.Test.YtlnilonlaedafaaPx11
namespace Go.Proofs.Ytlnilonlaedafaa.P
open Go.RowKit Go.Proofs.YtlnilonlaedafaaW.PrintWords Go.Proofs.YtlnilonlaedafaaW.PrintLast
open Go.Proofs.Ytlnilonlaedafaa.Q
theorem widthOf_zero (P : List (List (List Int))) : widthOf P = 0 ↔ ¬ vq P = true := by
  unfold widthOf
  by_cases hv : vq P = true
  · have := ((vq_iff P).1 hv).2.2.2.2.1
    rw [if_pos hv]
    exact ⟨fun h => by omega, fun h => absurd hv h⟩
  · rw [if_neg hv]; exact ⟨fun _ => hv, fun _ => rfl⟩
theorem fits_ev (P : List (List (List Int))) (hP : Fits P) (hv : vq P = true) (v : List Int) (hl : v.length ≤ 17592186044416) : Ev (fun k => lodestarref19_fits.f k P v) (fitsB P v) := by
  obtain ⟨v1, v2, v3, v4, v5, v6⟩ := (vq_iff P).1 hv
  refine Ev.bind (ref_width_ev P hP) ?_
  have hw : wrap64 ((P.length : Int) * widthOf P) = ((w0 P * P.length : Nat) : Int) := by
    unfold widthOf
    rw [if_pos hv, show (P.length : Int) * (w0 P : Int) = ((w0 P * P.length : Nat) : Int) from by simp [Int.mul_comm], w64 (by omega) (by omega)]
  by_cases h1 : v.length = w0 P * P.length
  · refine Ev.congr (f := fun k => (lodestarref05_Range.f k v).bind fun t338 => some t338) (fun k => ?_) ?_
    · rw [hw, if_pos (by omega)]
    · refine Ev.bind (range_ev v hl) ?_
      unfold fitsB
      rw [decide_eq_true h1, Bool.true_and]
      exact Ev.now _
  · have hf : fitsB P v = false := by unfold fitsB; rw [decide_eq_false h1, Bool.false_and]
    rw [hf]
    refine Ev.congr (fun k => ?_) (Ev.now _)
    rw [hw, if_neg (by omega)]
theorem ref_encode_loop (P : List (List (List Int))) (hP : Fits P) (hv : vq P = true) (v : List Int) (hf : fitsB P v = true) : ∀ (d i : Nat), i + d = P.length → Ev (fun k => lodestarref19_Encode.l0 k v (w0 P : Int) (codesTo P v i) (i : Int) P) (codesTo P v P.length, 0) := by
  obtain ⟨v1, v2, v3, v4, v5, v6⟩ := (vq_iff P).1 hv
  have hlen := ((fitsB_iff P v).1 hf).1
  intro d
  induction d with
  | zero =>
    intro i hi
    obtain rfl : i = P.length := by omega
    apply Ev.step
    · intro k; rw [lodestarref19_Encode.l0, if_neg (by omega)]
    · exact Ev.now _
  | succ d ih =>
    intro i hi
    have hi' := ih (i + 1) (by omega)
    rw [codesTo_succ] at hi'
    have hp := hP.2 _ (L2_mem P i (by omega))
    have hc := cut_le v (w0 P) i
    have hn := ref_near_ev (cut v (w0 P) i) (rd_L2 P (i : Int)) (by omega) hp.1 hp.2
    obtain ⟨e1, e2, e3⟩ := cut_at (w0 P) i P.length v6 (by omega) v2
    have h1 := mul_le_64 v6 (by omega : i < P.length)
    have h2 : (i + 1) * w0 P = i * w0 P + w0 P := Nat.succ_mul i (w0 P)
    apply Ev.step
    · intro k
      rw [lodestarref19_Encode.l0, if_pos (by omega), e1, e2, e3, if_pos (by omega), if_pos (by omega), if_pos (by omega), if_pos (by omega), Int.toNat_natCast, Int.toNat_natCast]
    · refine Ev.bind hn (Ev.congr (fun k => ?_) hi')
      exact if_pos (by rw [codesTo_length]; omega)
theorem ref_encode_ev (P : List (List (List Int))) (hP : Fits P) (v : List Int) (hl : v.length ≤ 17592186044416) : Ev (fun k => lodestarref19_Encode.f k P v) (encodeP P v) := by
  unfold encodeP
  refine Ev.bind (ref_width_ev P hP) ?_
  by_cases hv : vq P = true
  · rw [if_pos hv]
    refine Ev.congr (fun k => if_neg (fun h => (widthOf_zero P).1 h hv)) ?_
    refine Ev.bind (fits_ev P hP hv v hl) ?_
    by_cases hf : fitsB P v = true
    · rw [if_pos hf]
      refine Ev.congr (fun k => if_pos hf) ?_
      have := ref_encode_loop P hP hv v hf P.length 0 (by omega)
      unfold widthOf
      rw [if_pos hv]
      exact this
    · rw [if_neg hf]
      exact Ev.congr (fun k => if_neg hf) (Ev.now _)
  · rw [if_neg hv]
    exact Ev.congr (fun k => if_pos ((widthOf_zero P).2 hv)) (Ev.now _)
theorem ref_decode_loop (P : List (List (List Int))) (hv : vq P = true) (codes : List Int) (hc : codes.length = P.length) : ∀ (d i : Nat) (acc : List Int), i + d = codes.length → acc.length = i * w0 P → Ev (fun k => lodestarref19_Decode.l0 k codes acc (i : Int) P) (decTo P codes d i acc) := by
  have h64 := ((vq_iff P).1 hv).2.1
  have hw := w0_64 hv
  intro d
  induction d with
  | zero =>
    intro i acc hi ha
    apply Ev.step
    · intro k; rw [lodestarref19_Decode.l0, if_neg (by omega)]
    · exact Ev.now _
  | succ d ih =>
    intro i acc hi ha
    rw [decTo]
    by_cases h1 : 0 ≤ rd codes (i : Int)
    · by_cases h2 : rd codes (i : Int) < (rd_L2 P (i : Int)).length
      · obtain ⟨c1, c2⟩ := cen_of hv i (by omega) _ h1 h2
        have hle : i * w0 P ≤ 64 * 64 := Nat.mul_le_mul (by omega) hw
        rw [if_pos ⟨h1, h2⟩]
        apply Ev.step
        · intro k
          rw [lodestarref19_Decode.l0, if_pos (by omega), if_pos (by omega), if_neg (by omega), if_pos (by omega), if_neg (by omega), if_pos (by omega), if_pos (by omega), if_pos (by omega), w64 (n := (i : Int) + 1) (by omega) (by omega)]
        · refine ih (i + 1) _ (by omega) ?_
          rw [List.length_append, c1, ha, Nat.succ_mul]
      · rw [if_neg (fun x => h2 x.2)]
        apply Ev.step
        · intro k
          rw [lodestarref19_Decode.l0, if_pos (by omega), if_pos (by omega), if_neg (by omega), if_pos (by omega), if_pos (by omega)]
        · exact Ev.now _
    · rw [if_neg (fun x => h1 x.1)]
      apply Ev.step
      · intro k
        rw [lodestarref19_Decode.l0, if_pos (by omega), if_pos (by omega), if_pos (by omega)]
      · exact Ev.now _
theorem ref_decode_ev (P : List (List (List Int))) (hP : Fits P) (codes : List Int) : Ev (fun k => lodestarref19_Decode.f k P codes) (decodeP P codes) := by
  unfold decodeP
  refine Ev.bind (ref_width_ev P hP) ?_
  by_cases hv : vq P = true
  · rw [if_pos hv]
    refine Ev.congr (fun k => if_neg (fun h => (widthOf_zero P).1 h hv)) ?_
    by_cases hc : codes.length = P.length
    · rw [if_pos hc]
      exact Ev.congr (fun k => if_pos (by omega)) (ref_decode_loop P hv codes hc codes.length 0 [] (by omega) (by simp))
    · rw [if_neg hc]
      exact Ev.congr (fun k => if_neg (by omega)) (Ev.now _)
  · rw [if_neg hv]
    exact Ev.congr (fun k => if_pos ((widthOf_zero P).2 hv)) (Ev.now _)
end Go.Proofs.Ytlnilonlaedafaa.P
