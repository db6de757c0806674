/- The pieces of a vector, its codes, and what codes tell: the program's answers and the document's. -/
import Derived.Test.YtlnilonlaedafaaQWideRef
import Derived.Test.YtlnilonlaedafaaQNear
import Derived.Test.YtlnilonlaedafaaPx4
import Derived.Test.YtlnilonlaedafaaPx5
import Derived.Test.YtlnilonlaedafaaPx10
namespace Go.Proofs.Ytlnilonlaedafaa.P
open Go.RowKit Go.Proofs.YtlnilonlaedafaaW.PrintWords Go.Proofs.YtlnilonlaedafaaW.PrintLast
open Go.Proofs.Ytlnilonlaedafaa.Q
/-- The piece i of a vector in pieces of w components. -/
def cut (v : List Int) (w i : Nat) : List Int := (v.take ((i + 1) * w)).drop (i * w)
def cuts (v : List Int) (w n : Nat) : List (List Int) := (List.range n).map (cut v w)
theorem cuts_succ (v : List Int) (w n : Nat) : cuts v w (n + 1) = cuts v w n ++ [cut v w n] := by simp [cuts, List.range_succ]
theorem cuts_length (v : List Int) (w n : Nat) : (cuts v w n).length = n := by simp [cuts]
theorem cuts_get (v : List Int) (w n i : Nat) (h : i < n) : rd_L1 (cuts v w n) (i : Int) = cut v w i := by
  simp [rd_L1, cuts, List.getD_eq_getElem?_getD, List.getElem?_map, List.getElem?_range h]
theorem cut_le (v : List Int) (w i : Nat) : (cut v w i).length ≤ v.length := by
  unfold cut; rw [List.length_drop, List.length_take]; omega
/-- A vector may be coded. -/
def fitsB (P : List (List (List Int))) (v : List Int) : Bool := decide (v.length = w0 P * P.length) && okAll v
theorem fitsB_iff (P : List (List (List Int))) (v : List Int) : fitsB P v = true ↔ v.length = w0 P * P.length ∧ okAll v = true := by
  simp only [fitsB, Bool.and_eq_true, decide_eq_true_eq]
theorem mul_le_64 {w n i : Nat} (h : w * n ≤ 64) (hi : i < n) : i * w ≤ 64 ∧ (i + 1) * w ≤ w * n := by
  have h1 : (i + 1) * w ≤ n * w := Nat.mul_le_mul_right w hi
  have h2 : (i + 1) * w = i * w + w := Nat.succ_mul i w
  rw [Nat.mul_comm n w] at h1
  omega
/-- The cut as it stands in the program's text. -/
theorem cut_at (w i n : Nat) (h : w * n ≤ 64) (hi : i < n) (hn : n ≤ 64) : wrap64 ((i : Int) + 1) = ((i + 1 : Nat) : Int) ∧ wrap64 ((i : Int) * (w : Int)) = ((i * w : Nat) : Int) ∧ wrap64 (((i + 1 : Nat) : Int) * (w : Int)) = (((i + 1) * w : Nat) : Int) := by
  have h1 := mul_le_64 h hi
  refine ⟨?_, ?_, ?_⟩
  · rw [w64 (by omega) (by omega)]; rfl
  · rw [show (i : Int) * (w : Int) = ((i * w : Nat) : Int) from by simp, w64 (by omega) (by omega)]
  · rw [show ((i + 1 : Nat) : Int) * (w : Int) = (((i + 1) * w : Nat) : Int) from by simp, w64 (by omega) (by omega)]
theorem cut_inside (w i n len : Nat) (h : w * n ≤ 64) (hi : i < n) (hv : len = w * n) : (0 : Int) ≤ ((i * w : Nat) : Int) ∧ ((i * w : Nat) : Int) ≤ (((i + 1) * w : Nat) : Int) ∧ (((i + 1) * w : Nat) : Int) ≤ (len : Int) := by
  have h1 := mul_le_64 h hi
  have h2 : (i + 1) * w = i * w + w := Nat.succ_mul i w
  refine ⟨Int.natCast_nonneg _, ?_, ?_⟩ <;> omega
theorem pieces_loop (v : List Int) (w n : Nat) (h : w * n ≤ 64) (hn : n ≤ 64) (hv : v.length = w * n) : ∀ (d i : Nat), i + d = n → Ev (fun k => product_pieces.l0 k v (w : Int) (cuts v w i) (n : Int) (i : Int)) (cuts v w n, 0) := by
  intro d
  induction d with
  | zero =>
    intro i hi
    obtain rfl : i = n := by omega
    apply Ev.step
    · intro k; rw [product_pieces.l0, if_neg (by omega)]
    · exact Ev.now _
  | succ d ih =>
    intro i hi
    obtain ⟨e1, e2, e3⟩ := cut_at w i n h (by omega) hn
    have h1 := mul_le_64 h (by omega : i < n)
    have h2 : (i + 1) * w = i * w + w := Nat.succ_mul i w
    have hi' := ih (i + 1) (by omega)
    rw [cuts_succ] at hi'
    apply Ev.step
    · intro k
      rw [product_pieces.l0, if_pos (by omega), e1, e2, e3, if_pos (by omega), if_pos (by omega), if_pos (by omega), if_pos (by rw [cuts_length]; omega), Int.toNat_natCast, Int.toNat_natCast]
    · exact hi'
theorem w0_64 {P : List (List (List Int))} (hv : vq P = true) : w0 P ≤ 64 := by
  obtain ⟨v1, _, _, _, _, v6⟩ := (vq_iff P).1 hv
  have := Nat.mul_le_mul (Nat.le_refl (w0 P)) v1
  omega
def pieces (P : List (List (List Int))) (v : List Int) : List (List Int) × Int := if vq P = true then (if fitsB P v = true then (cuts v (w0 P) P.length, 0) else ([], 60)) else ([], 170)
theorem pieces_ev (P : List (List (List Int))) (hP : Fits P) (v : List Int) : Ev (fun k => product_pieces.f k P v) (pieces P v) := by
  obtain ⟨m, hm, hq⟩ := wide_ev P hP
  unfold pieces
  refine Ev.bind hm ?_
  by_cases hv : vq P = true
  · obtain ⟨v1, v2, v3, v4, v5, v6⟩ := (vq_iff P).1 hv
    rw [hq hv, hv, if_pos rfl]
    have hw : wrap64 ((w0 P : Int) * (P.length : Int)) = ((w0 P * P.length : Nat) : Int) := by
      rw [show (w0 P : Int) * (P.length : Int) = ((w0 P * P.length : Nat) : Int) from by simp, w64 (by omega) (by omega)]
    by_cases h1 : v.length = w0 P * P.length
    · by_cases h2 : okAll v = true
      · rw [if_pos ((fitsB_iff P v).2 ⟨h1, h2⟩)]
        refine Ev.congr (f := fun k => product_pieces.j0 k v (w0 P) false P) (fun k => ?_) ?_
        · rw [if_pos rfl, hw, if_pos (by omega), all_ev, Option.bind_some, h2]; rfl
        · apply Ev.step
          · intro k; rw [product_pieces.j0, if_neg (by decide)]
          · exact pieces_loop v (w0 P) P.length v6 v2 h1 P.length 0 (by omega)
      · rw [if_neg (fun x => h2 ((fitsB_iff P v).1 x).2)]
        rw [Bool.not_eq_true] at h2
        refine Ev.congr (f := fun k => product_pieces.j0 k v (w0 P) true P) (fun k => ?_) ?_
        · rw [if_pos rfl, hw, if_pos (by omega), all_ev, Option.bind_some, h2]; rfl
        · apply Ev.step
          · intro k; rw [product_pieces.j0, if_pos rfl]
          · exact Ev.now _
    · rw [if_neg (fun x => h1 ((fitsB_iff P v).1 x).1)]
      refine Ev.congr (f := fun k => product_pieces.j0 k v (w0 P) true P) (fun k => ?_) ?_
      · rw [if_pos rfl, hw, if_neg (by omega)]
      · apply Ev.step
        · intro k; rw [product_pieces.j0, if_pos rfl]
        · exact Ev.now _
  · rw [if_neg hv]
    rw [Bool.not_eq_true] at hv
    rw [hv]
    exact Ev.congr (fun k => if_neg Bool.false_ne_true) (Ev.now _)
/-! ### codes -/
def codesTo (P : List (List (List Int))) (v : List Int) (n : Nat) : List Int := (List.range n).map (fun i => near (cut v (w0 P) i) (rd_L2 P (i : Int)))
theorem codesTo_succ (P : List (List (List Int))) (v : List Int) (n : Nat) : codesTo P v (n + 1) = codesTo P v n ++ [near (cut v (w0 P) n) (rd_L2 P (n : Int))] := by simp [codesTo, List.range_succ]
theorem codesTo_length (P : List (List (List Int))) (v : List Int) (n : Nat) : (codesTo P v n).length = n := by simp [codesTo]
theorem codesTo_get (P : List (List (List Int))) (v : List Int) (n i : Nat) (h : i < n) : rd (codesTo P v n) (i : Int) = near (cut v (w0 P) i) (rd_L2 P (i : Int)) := by
  simp [rd, codesTo, List.getD_eq_getElem?_getD, List.getElem?_map, List.getElem?_range h]
def encodeP (P : List (List (List Int))) (v : List Int) : List Int × Int := if vq P = true then (if fitsB P v = true then (codesTo P v P.length, 0) else ([], 60)) else ([], 170)
theorem encode_loop (P : List (List (List Int))) (hP : Fits P) (v : List Int) (hl : v.length ≤ 17592186044416) (h64 : P.length ≤ 64) : ∀ (d i : Nat), i + d = P.length → Ev (fun k => product_Encode.l0 k (codesTo P v i) (cuts v (w0 P) P.length) (P.length : Int) (i : Int) P) (codesTo P v P.length, 0) := by
  intro d
  induction d with
  | zero =>
    intro i hi
    obtain rfl : i = P.length := by omega
    apply Ev.step
    · intro k; rw [product_Encode.l0, if_neg (by omega)]
    · exact Ev.now _
  | succ d ih =>
    intro i hi
    have hi' := ih (i + 1) (by omega)
    rw [codesTo_succ] at hi'
    have hp := hP.2 _ (L2_mem P i (by omega))
    have hc := cut_le v (w0 P) i
    have hn := near_ev (cut v (w0 P) i) (rd_L2 P (i : Int)) (by omega) hp.1 hp.2
    apply Ev.step
    · intro k
      rw [product_Encode.l0, if_pos (by omega), if_pos (by omega), if_pos (by rw [cuts_length]; omega), if_pos (by omega), cuts_get v (w0 P) P.length i (by omega), w64 (n := (i : Int) + 1) (by omega) (by omega)]
    · refine Ev.bind hn (Ev.congr (fun k => ?_) hi')
      exact if_pos (by rw [codesTo_length]; omega)
theorem encode_ev (P : List (List (List Int))) (hP : Fits P) (v : List Int) (hl : v.length ≤ 17592186044416) : Ev (fun k => product_Encode.f k P v) (encodeP P v) := by
  unfold encodeP
  refine Ev.bind (pieces_ev P hP v) ?_
  unfold pieces
  by_cases hv : vq P = true
  · rw [if_pos hv, if_pos hv]
    by_cases hf : fitsB P v = true
    · rw [if_pos hf, if_pos hf]
      refine Ev.congr (f := fun k => product_Encode.l0 k [] (cuts v (w0 P) P.length) (P.length : Int) 0 P) (fun k => ?_) (encode_loop P hP v hl ((vq_iff P).1 hv).2.1 P.length 0 (by omega))
      rw [if_pos rfl, cuts_length]
    · rw [if_neg hf, if_neg hf]
      exact Ev.congr (fun k => if_neg (by decide)) (Ev.now _)
  · rw [if_neg hv, if_neg hv]
    exact Ev.congr (fun k => if_neg (by decide)) (Ev.now _)
/-! ### what codes tell -/
def decTo (P : List (List (List Int))) (codes : List Int) : Nat → Nat → List Int → List Int × Int
  | 0, _, acc => (acc, 0)
  | d + 1, i, acc => if 0 ≤ rd codes (i : Int) ∧ rd codes (i : Int) < (rd_L2 P (i : Int)).length then decTo P codes d (i + 1) (acc ++ rd_L1 (rd_L2 P (i : Int)) (rd codes (i : Int))) else ([], 190)
def decodeP (P : List (List (List Int))) (codes : List Int) : List Int × Int := if vq P = true then (if codes.length = P.length then decTo P codes codes.length 0 [] else ([], 190)) else ([], 170)
theorem part_of {P : List (List (List Int))} (hv : vq P = true) (i : Nat) (hi : i < P.length) : partOk (w0 P) (rd_L2 P (i : Int)) = true := List.all_eq_true.1 ((vq_iff P).1 hv).2.2.2.1 _ (L2_mem P i hi)
theorem part_len {P : List (List (List Int))} (hv : vq P = true) (i : Nat) (hi : i < P.length) : 1 ≤ (rd_L2 P (i : Int)).length ∧ (rd_L2 P (i : Int)).length ≤ 256 := by
  have := part_of hv i hi
  simp only [partOk, Bool.and_eq_true, decide_eq_true_eq] at this
  exact this.1
theorem cen_of {P : List (List (List Int))} (hv : vq P = true) (i : Nat) (hi : i < P.length) (c : Int) (h0 : 0 ≤ c) (hc : c < (rd_L2 P (i : Int)).length) : (rd_L1 (rd_L2 P (i : Int)) c).length = w0 P ∧ okAll (rd_L1 (rd_L2 P (i : Int)) c) = true := by
  have := part_of hv i hi
  simp only [partOk, Bool.and_eq_true] at this
  have hm := L1_mem (rd_L2 P (i : Int)) c.toNat (by omega)
  rw [Int.toNat_of_nonneg h0] at hm
  have hx := List.all_eq_true.1 this.2 _ hm
  simpa only [cenOk, Bool.and_eq_true, decide_eq_true_eq] using hx
theorem decode_loop (P : List (List (List Int))) (hv : vq P = true) (codes : List Int) (hc : codes.length = P.length) : ∀ (d i : Nat) (acc : List Int), i + d = codes.length → acc.length = i * w0 P → Ev (fun k => product_Decode.l0 k acc codes (codes.length : Int) (i : Int) P) (decTo P codes d i acc) := by
  have h64 := ((vq_iff P).1 hv).2.1
  have hw := w0_64 hv
  intro d
  induction d with
  | zero =>
    intro i acc hi ha
    apply Ev.step
    · intro k; rw [product_Decode.l0, if_neg (by omega)]
    · exact Ev.now _
  | succ d ih =>
    intro i acc hi ha
    rw [decTo]
    by_cases h1 : 0 ≤ rd codes (i : Int)
    · by_cases h2 : rd codes (i : Int) < (rd_L2 P (i : Int)).length
      · obtain ⟨c1, c2⟩ := cen_of hv i (by omega) _ h1 h2
        have hle : i * w0 P ≤ 64 * 64 := Nat.mul_le_mul (by omega) hw
        rw [if_pos ⟨h1, h2⟩]
        apply Ev.step
        · intro k
          rw [product_Decode.l0, if_pos (by omega), if_pos (by omega), if_pos (by omega), if_neg (by omega), if_pos (by omega), if_neg (by omega), if_pos (by omega), if_pos (by omega), if_pos (by omega), w64 (n := (i : Int) + 1) (by omega) (by omega)]
        · refine ih (i + 1) _ (by omega) ?_
          rw [List.length_append, c1, ha, Nat.succ_mul]
      · rw [if_neg (fun x => h2 x.2)]
        apply Ev.step
        · intro k
          rw [product_Decode.l0, if_pos (by omega), if_pos (by omega), if_pos (by omega), if_neg (by omega), if_pos (by omega), if_pos (by omega)]
        · exact Ev.now _
    · rw [if_neg (fun x => h1 x.1)]
      apply Ev.step
      · intro k
        rw [product_Decode.l0, if_pos (by omega), if_pos (by omega), if_pos (by omega), if_pos (by omega)]
      · exact Ev.now _
theorem decode_ev (P : List (List (List Int))) (hP : Fits P) (codes : List Int) : Ev (fun k => product_Decode.f k P codes) (decodeP P codes) := by
  obtain ⟨m, hm, hq⟩ := wide_ev P hP
  unfold decodeP
  refine Ev.bind hm ?_
  by_cases hv : vq P = true
  · rw [if_pos hv, hv]
    by_cases hc : codes.length = P.length
    · rw [if_pos hc]
      refine Ev.congr (f := fun k => product_Decode.l0 k [] codes (codes.length : Int) 0 P) (fun k => ?_) (decode_loop P hv codes hc codes.length 0 [] (by omega) (by simp))
      rw [if_pos rfl, if_pos (by omega)]
    · rw [if_neg hc]
      refine Ev.congr (fun k => ?_) (Ev.now _)
      rw [if_pos rfl, if_neg (by omega)]
  · rw [if_neg hv]
    rw [Bool.not_eq_true] at hv
    rw [hv]
    exact Ev.congr (fun k => if_neg Bool.false_ne_true) (Ev.now _)
end Go.Proofs.Ytlnilonlaedafaa.P
