/- What codes tell, piece by piece; distances and products of vectors as sums over their pieces. Of product quantizers, with no program in sight. -/
import Derived.Test.YtlnilonlaedafaaQPieces
namespace Go.Proofs.Ytlnilonlaedafaa.P
open Go.RowKit Go.Proofs.YtlnilonlaedafaaW.PrintWords Go.Proofs.YtlnilonlaedafaaW.PrintLast
open Go.Proofs.Ytlnilonlaedafaa.Q
/-- The centroid of a part for which a code stands. -/
def cen (P : List (List (List Int))) (codes : List Int) (i : Nat) : List Int := rd_L1 (rd_L2 P (i : Int)) (rd codes (i : Int))
def told (P : List (List (List Int))) (codes : List Int) : Nat → List Int
  | 0 => []
  | n + 1 => told P codes n ++ cen P codes n
def inRange (P : List (List (List Int))) (codes : List Int) (n : Nat) : Prop := ∀ i, i < n → 0 ≤ rd codes (i : Int) ∧ rd codes (i : Int) < (rd_L2 P (i : Int)).length
theorem decTo_told (P : List (List (List Int))) (codes : List Int) : ∀ (d i : Nat), inRange P codes i → (inRange P codes (i + d) ∧ decTo P codes d i (told P codes i) = (told P codes (i + d), 0)) ∨ (¬ inRange P codes (i + d) ∧ decTo P codes d i (told P codes i) = ([], 190)) := by
  intro d
  induction d with
  | zero => intro i hi; exact .inl ⟨hi, rfl⟩
  | succ d ih =>
    intro i hi
    rw [decTo]
    by_cases h : 0 ≤ rd codes (i : Int) ∧ rd codes (i : Int) < (rd_L2 P (i : Int)).length
    · rw [if_pos h]
      have hn : inRange P codes (i + 1) := by
        intro j hj
        by_cases e : j = i
        · subst e; exact h
        · exact hi j (by omega)
      have := ih (i + 1) hn
      rw [show i + 1 + d = i + (d + 1) from by omega] at this
      exact this
    · rw [if_neg h]
      exact .inr ⟨fun x => h (x i (by omega)), rfl⟩
theorem decode_cases (P : List (List (List Int))) (codes : List Int) (hv : vq P = true) : (codes.length = P.length ∧ inRange P codes P.length ∧ decodeP P codes = (told P codes P.length, 0)) ∨ (decodeP P codes = ([], 190) ∧ ¬ (codes.length = P.length ∧ inRange P codes P.length)) := by
  unfold decodeP
  rw [if_pos hv]
  by_cases hc : codes.length = P.length
  · rw [if_pos hc, hc]
    have := decTo_told P codes P.length 0 (fun i hi => by omega)
    rw [Nat.zero_add] at this
    rcases this with ⟨h1, h2⟩ | ⟨h1, h2⟩
    · exact .inl ⟨rfl, h1, h2⟩
    · exact .inr ⟨h2, fun x => h1 x.2⟩
  · rw [if_neg hc]; exact .inr ⟨rfl, fun x => hc x.1⟩
theorem decode_ok {P : List (List (List Int))} {codes : List Int} (h : (decodeP P codes).2 = 0) : vq P = true ∧ codes.length = P.length ∧ inRange P codes P.length ∧ decodeP P codes = (told P codes P.length, 0) := by
  by_cases hv : vq P = true
  · rcases decode_cases P codes hv with h1 | h1
    · exact ⟨hv, h1⟩
    · rw [h1.1] at h; cases h
  · unfold decodeP at h; rw [if_neg hv] at h; cases h
theorem told_spec {P : List (List (List Int))} (hv : vq P = true) (codes : List Int) : ∀ n, n ≤ P.length → inRange P codes n → (told P codes n).length = n * w0 P ∧ okAll (told P codes n) = true ∧ ∀ i, i < n → cut (told P codes n) (w0 P) i = cen P codes i := by
  intro n
  induction n with
  | zero => intro _ _; exact ⟨by simp [told], rfl, fun i hi => by omega⟩
  | succ n ih =>
    intro hn hr
    obtain ⟨t1, t2, t3⟩ := ih (by omega) (fun i hi => hr i (by omega))
    obtain ⟨r1, r2⟩ := hr n (by omega)
    obtain ⟨c1, c2⟩ := cen_of hv n (by omega) _ r1 r2
    have hs : (n + 1) * w0 P = n * w0 P + w0 P := Nat.succ_mul n (w0 P)
    refine ⟨?_, ?_, ?_⟩
    · rw [told, List.length_append, t1, hs]; unfold cen; rw [c1]
    · rw [told]; unfold okAll at *; rw [List.all_append, t2]; unfold cen; rw [c2]; rfl
    · intro i hi
      rw [told]
      by_cases e : i = n
      · subst e
        unfold cut
        rw [List.take_of_length_le (by rw [List.length_append, t1, hs]; unfold cen; rw [c1]; exact Nat.le_refl _), List.drop_append_of_le_length (by rw [t1]; exact Nat.le_refl _), List.drop_of_length_le (by rw [t1]; exact Nat.le_refl _), List.nil_append]
      · rw [← t3 i (by omega)]
        unfold cut
        have hle : (i + 1) * w0 P ≤ n * w0 P := Nat.mul_le_mul_right _ (by omega)
        rw [List.take_append_of_le_length (by rw [t1]; exact hle)]
theorem okAll_mem {l : List Int} : okAll l = true ↔ ∀ x ∈ l, -32768 ≤ x ∧ x ≤ 32767 := by simp [okAll, okPart, List.all_eq_true]
theorem mayB_of {l : List Int} (h : okAll l = true) (h1 : 1 ≤ l.length) (h2 : l.length ≤ 64) : mayB l = true := (mayB_iff l).2 ⟨okAll_mem.1 h, h1, h2⟩
theorem cut_length (v : List Int) (w n i : Nat) (hv : v.length = n * w) (hi : i < n) : (cut v w i).length = w := by
  have hle : (i + 1) * w ≤ n * w := Nat.mul_le_mul_right _ hi
  have hs : (i + 1) * w = i * w + w := Nat.succ_mul i w
  unfold cut; rw [List.length_drop, List.length_take]; omega
theorem cut_ok {v : List Int} (h : okAll v = true) (w i : Nat) : okAll (cut v w i) = true :=
  okAll_mem.2 fun x hx => okAll_mem.1 h x (List.mem_of_mem_take (List.mem_of_mem_drop hx))
theorem cut_rd (v : List Int) (w i j : Nat) (hj : j < w) : rd (cut v w i) (j : Int) = rd v ((i * w + j : Nat) : Int) := by
  have hs : (i + 1) * w = i * w + w := Nat.succ_mul i w
  simp only [rd, cut, Int.toNat_natCast, List.getD_eq_getElem?_getD, List.getElem?_drop, List.getElem?_take]
  rw [if_pos (by omega)]
theorem sumTo_append (f : Nat → Int) (a b : Nat) : sumTo f (a + b) = sumTo f a + sumTo (fun j => f (a + j)) b := by
  induction b with
  | zero => simp [sumTo]
  | succ b ih => rw [← Nat.add_assoc, sumTo, ih, sumTo, Int.add_assoc]
theorem sumTo_blocks (f : Nat → Int) (w : Nat) : ∀ n, sumTo f (n * w) = sumTo (fun i => sumTo (fun j => f (i * w + j)) w) n := by
  intro n
  induction n with
  | zero => simp [sumTo]
  | succ n ih => rw [Nat.succ_mul, sumTo_append, ih, sumTo]
theorem both_of {a b : List Int} (h : a.length = b.length) (ha : okAll a = true) (hb : okAll b = true) (h1 : 1 ≤ a.length) (h2 : a.length ≤ 64) : bothB a b = true :=
  (bothB_iff a b).2 ⟨h, mayB_of ha h1 h2, mayB_of hb (by omega) (by omega)⟩
/-- A distance is the sum of the pieces' distances; so is a product. -/
theorem l2_blocks (v x : List Int) (w n : Nat) (hw : 1 ≤ w) (hn : 1 ≤ n) (h64 : n * w ≤ 64) (hv : v.length = n * w) (hx : x.length = n * w) (ov : okAll v = true) (ox : okAll x = true) : l2 v x = sumTo (fun i => l2 (cut v w i) (cut x w i)) n := by
  have h1 : 1 ≤ n * w := Nat.mul_pos hn hw
  have hw64 : w ≤ 64 := by
    have := Nat.mul_le_mul_right w hn
    omega
  rw [show l2 v x = sumTo (fun i => (rd v (i : Int) - rd x (i : Int)) * (rd v (i : Int) - rd x (i : Int))) v.length from by unfold l2; rw [if_pos (both_of (by omega) ov ox (by omega) (by omega))], hv, sumTo_blocks]
  apply sumTo_congr
  intro i hi
  have lv := cut_length v w n i hv hi
  have lx := cut_length x w n i hx hi
  unfold l2
  rw [if_pos (both_of (by omega) (cut_ok ov w i) (cut_ok ox w i) (by omega) (by omega)), lv]
  apply sumTo_congr
  intro j hj
  rw [cut_rd v w i j hj, cut_rd x w i j hj]
theorem dot_blocks (v x : List Int) (w n : Nat) (hw : 1 ≤ w) (hn : 1 ≤ n) (h64 : n * w ≤ 64) (hv : v.length = n * w) (hx : x.length = n * w) (ov : okAll v = true) (ox : okAll x = true) : dot v x = sumTo (fun i => dot (cut v w i) (cut x w i)) n := by
  have h1 : 1 ≤ n * w := Nat.mul_pos hn hw
  have hw64 : w ≤ 64 := by
    have := Nat.mul_le_mul_right w hn
    omega
  rw [show dot v x = sumTo (fun i => rd v (i : Int) * rd x (i : Int)) v.length from by unfold dot; rw [if_pos (both_of (by omega) ov ox (by omega) (by omega))], hv, sumTo_blocks]
  apply sumTo_congr
  intro i hi
  have lv := cut_length v w n i hv hi
  have lx := cut_length x w n i hx hi
  unfold dot
  rw [if_pos (both_of (by omega) (cut_ok ov w i) (cut_ok ox w i) (by omega) (by omega)), lv]
  apply sumTo_congr
  intro j hj
  rw [cut_rd v w i j hj, cut_rd x w i j hj]
theorem decode_most (P : List (List (List Int))) (codes : List Int) : (decodeP P codes).1.length ≤ 64 := by
  by_cases h : (decodeP P codes).2 = 0
  · obtain ⟨hv, _, h2, h3⟩ := decode_ok h
    rw [h3]
    obtain ⟨t1, _, _⟩ := told_spec hv codes P.length (Nat.le_refl _) h2
    have := ((vq_iff P).1 hv).2.2.2.2.2
    simp only
    rw [t1, Nat.mul_comm]; exact this
  · unfold decodeP at h ⊢
    by_cases hv : vq P = true
    · rcases decode_cases P codes hv with h1 | h1
      · unfold decodeP at h1; rw [h1.2.2] at h; exact absurd rfl h
      · unfold decodeP at h1; rw [h1.1]; simp
    · rw [if_neg hv]; simp
theorem encode_most (P : List (List (List Int))) (v : List Int) : (encodeP P v).1.length ≤ 64 := by
  unfold encodeP
  by_cases hv : vq P = true
  · rw [if_pos hv]
    by_cases hf : fitsB P v = true
    · rw [if_pos hf]; simp only; rw [codesTo_length]; exact ((vq_iff P).1 hv).2.1
    · rw [if_neg hf]; simp
  · rw [if_neg hv]; simp
end Go.Proofs.Ytlnilonlaedafaa.P
