/- What the nearest is; a beginning of all rows stays as it is. -/
import Derived.Test.YtlnilonlaedafaaFxMeansStart
namespace Go.Proofs.Ytlnilonlaedafaa.Fx
open Go Go.RowKit
set_option maxRecDepth 100000
set_option linter.unusedSimpArgs false
set_option linter.unusedVariables false
theorem sum_nonneg : ∀ {l : List Int}, (∀ x ∈ l, 0 ≤ x) → 0 ≤ l.sum
  | [], _ => by simp
  | a :: l, h => by
    have h1 := h a (by simp)
    have h2 := sum_nonneg (l := l) fun x hx => h x (by simp [hx])
    simp only [List.sum_cons]; omega
theorem sum_zero : ∀ {l : List Int}, (∀ x ∈ l, 0 ≤ x) → l.sum = 0 → ∀ x ∈ l, x = 0
  | a :: l, h, hs, x, hx => by
    have h1 := h a (by simp)
    have h2 := sum_nonneg (l := l) fun x hx => h x (by simp [hx])
    simp only [List.sum_cons] at hs
    rcases List.mem_cons.1 hx with rfl | hx
    · omega
    · exact sum_zero (fun x hx => h x (by simp [hx])) (by omega) x hx
theorem sq_nonneg (x y : Int) : 0 ≤ sq x y := by
  show 0 ≤ (x - y) * (x - y)
  rcases Int.le_total 0 (x - y) with h | h
  · exact Int.mul_nonneg h h
  · exact Int.mul_nonneg_of_nonpos_of_nonpos h h
theorem sqs_nonneg (a b : List Int) (k : Nat) : ∀ x ∈ ((a.zip b).take k).map fun p => sq p.1 p.2, 0 ≤ x := by
  intro x hx
  obtain ⟨p, _, rfl⟩ := List.mem_map.1 hx
  exact sq_nonneg _ _
theorem l2_nonneg (a b : List Int) : 0 ≤ l2 a b := by
  unfold l2 total
  split
  · exact sum_nonneg (sqs_nonneg a b _)
  · exact Int.le_refl _
theorem l2_self (a : List Int) : l2 a a = 0 := by
  unfold l2 total
  split
  · have : ∀ (l : List (Int × Int)), (∀ p ∈ l, p.1 = p.2) → (l.map fun p => sq p.1 p.2).sum = 0 := by
      intro l
      induction l with
      | nil => intro _; rfl
      | cons p t ih =>
        intro h
        have h1 := h p (by simp)
        simp only [List.map_cons, List.sum_cons, ih fun q hq => h q (by simp [hq]), h1, sq]
        simp
    refine this _ fun p hp => ?_
    obtain ⟨i, hi, rfl⟩ := List.mem_iff_getElem.1 hp
    simp
  · rfl
theorem l2_zero {a b : List Int} (h : both a b = true) (hz : l2 a b = 0) : a = b := by
  have hl := both_len h
  unfold l2 total at hz
  rw [if_pos h] at hz
  have h0 := sum_zero (sqs_nonneg a b a.length) hz
  apply List.ext_getElem hl
  intro i h1 h2
  have := h0 (sq a[i] b[i]) (List.mem_map.2 ⟨(a[i], b[i]), by
    rw [List.take_of_length_le (by simp; omega)]
    exact List.mem_iff_getElem.2 ⟨i, by simp; omega, by simp⟩, rfl⟩)
  simp only [sq, Int.mul_eq_zero] at this
  omega
theorem nearK_min (v : List Int) (cs : List (List Int)) : ∀ k j, j < k → (nearK v cs k).1 ≤ l2 v (cs.getD j [])
  | k + 1, j, h => by
    rcases nearK_range v cs k with ⟨rfl, h0⟩ | ⟨h0, h1, h2⟩
    · obtain rfl : j = 0 := by omega
      simp [nearK]
    · simp only [nearK]
      by_cases e : j = k
      · subst e
        split <;> rename_i hc
        · exact Int.le_refl _
        · omega
      · have := nearK_min v cs k j (by omega)
        split <;> rename_i hc
        · rcases hc with hc | hc
          · omega
          · show l2 v (cs.getD k []) ≤ _; omega
        · exact this
theorem nearK_at (v : List Int) (cs : List (List Int)) : ∀ k, 0 < k → (nearK v cs k).1 = l2 v (cs.getD (nearK v cs k).2.toNat [])
  | k + 1, _ => by
    rcases nearK_range v cs k with ⟨rfl, h0⟩ | ⟨h0, h1, h2⟩
    · simp [nearK]
    · simp only [nearK]
      split
      · simp
      · exact nearK_at v cs k h0
theorem nearest_min (v : List Int) {cs : List (List Int)} {j : Nat} (h : j < cs.length) : l2 v (cs.getD (at' v cs) []) ≤ l2 v (cs.getD j []) := by
  unfold at' nearest
  rw [← nearK_at v cs cs.length (by omega)]
  exact nearK_min v cs cs.length j h
/-! ### with as many centroids as rows -/
theorem start_all (l : List (List Int)) (seed : Int) (v : List Int) : (start l l.length seed).countP (· == v) = l.countP (· == v) := by
  have e : (min (l.length : Int) (l.length : Int)).toNat = l.length := by omega
  have hl : ((stK l.length seed l.length).1).length = l.length := stK_len _ _ _
  rw [start_is, e, List.take_of_length_le (by omega), List.countP_map, stK_count _ _ _ _ (Nat.le_refl _), ← List.countP_map, range_map]
theorem start_mem {l : List (List Int)} (seed : Int) {v : List Int} (h : v ∈ l) : v ∈ start l l.length seed := by
  have h1 : 0 < l.countP (· == v) := List.countP_pos_iff.2 ⟨v, h, by simp⟩
  rw [← start_all l seed v] at h1
  obtain ⟨x, hx, he⟩ := List.countP_pos_iff.1 h1
  simp only [beq_iff_eq] at he
  rw [← he]; exact hx
theorem start_sub {l : List (List Int)} {k seed : Int} {v : List Int} (h : v ∈ start l k seed) : v ∈ l := by
  have h1 : 0 < (start l k seed).countP (· == v) := List.countP_pos_iff.2 ⟨v, h, by simp⟩
  have h2 := start_count l k seed v
  obtain ⟨x, hx, he⟩ := List.countP_pos_iff.1 (Nat.lt_of_lt_of_le h1 h2)
  simp only [beq_iff_eq] at he
  rw [← he]; exact hx
/-- Rows that are alike in length, and may be. -/
def Alike (d : Nat) (l : List (List Int)) : Prop := ∀ v ∈ l, may v = true ∧ v.length = d
theorem Alike.both {d : Nat} {l : List (List Int)} {a b : List Int} (ha : may a = true ∧ a.length = d) (hb : may b = true ∧ b.length = d) : both a b = true := by
  simp [Fx.both, ha.1, hb.1, ha.2, hb.2]
theorem nearest_same {d : Nat} {l c : List (List Int)} (hl : Alike d l) (hc : Alike d c) (hs : ∀ v ∈ l, v ∈ c) {v : List Int} (hv : v ∈ l) : c.getD (at' v c) [] = v := by
  have hvc := hs v hv
  obtain ⟨j, hj, hjv⟩ := List.mem_iff_getElem.1 hvc
  have hm := nearest_min v hj
  have h0 : c.getD j [] = v := by simp [hj, hjv]
  rw [h0, l2_self] at hm
  have hp := l2_nonneg v (c.getD (at' v c) [])
  have hat := (at_eq v (cs := c) (by omega)).2
  have hg : c.getD (at' v c) [] = c[at' v c] := by simp [hat]
  rw [hg] at hm hp ⊢
  exact (l2_zero (Alike.both (l := l) (hl v hv) (hc _ (List.getElem_mem hat))) (by omega)).symm
theorem sumAt_rep {v : List Int} (k : Nat) : ∀ {g : List (List Int)}, (∀ x ∈ g, x = v) → sumAt g k = v.getD k 0 * (g.length : Int)
  | [], _ => by simp [sumAt]
  | x :: t, h => by
    have h1 := h x (by simp)
    have h2 := sumAt_rep (v := v) k (g := t) fun y hy => h y (by simp [hy])
    subst h1
    simp only [sumAt, List.map_cons, List.sum_cons, List.length_cons] at h2 ⊢
    rw [h2]
    have : ((t.length + 1 : Nat) : Int) = (t.length : Int) + 1 := by omega
    rw [this, Int.mul_add]; omega
theorem stepRow_same {d : Nat} {l c : List (List Int)} (hl : Alike d l) (hc : Alike d c) (hs : ∀ v ∈ l, v ∈ c) {i : Nat} (hi : i < c.length) : stepRow l c i = c[i] := by
  have hg : c.getD i [] = c[i] := by simp [hi]
  unfold stepRow
  split
  · exact hg
  · rename_i hne
    have hall : ∀ x ∈ groupOf c i l, x = c[i] := by
      intro x hx
      obtain ⟨h1, h2⟩ := List.mem_filter.1 hx
      simp only [beq_iff_eq] at h2
      rw [← nearest_same hl hc hs h1, h2, hg]
    have hn : 0 < (groupOf c i l).length := List.length_pos_iff.2 hne
    rw [hg]
    apply List.ext_getElem
    · simp [sums_len]
    · intro k h1 h2
      simp only [sums, List.map_map, List.getElem_map, List.getElem_range, Function.comp]
      rw [sumAt_rep k hall, Int.mul_ediv_cancel _ (by omega)]
      simp [h2]
theorem stepF_same {d : Nat} {l c : List (List Int)} (hl : Alike d l) (hc : Alike d c) (hs : ∀ v ∈ l, v ∈ c) : stepF l c = c := by
  apply List.ext_getElem
  · simp [stepF]
  · intro i h1 h2
    simp only [stepF, List.getElem_map, List.getElem_range]
    exact stepRow_same hl hc hs h2
theorem okRows_alike {d : Nat} {l : List (List Int)} (h : Alike d l) (h0 : 0 < l.length) : okRows l = true := by
  cases l with
  | nil => cases h0
  | cons a t =>
    simp only [okRows, Bool.and_eq_true, List.all_eq_true, decide_eq_true_eq]
    refine ⟨fun v hv => ?_, h0⟩
    have h1 := h v hv
    have h2 := (h a (by simp)).2
    simp only [okRow, h1.1, hd, h1.2, h2, Bool.true_and, decide_eq_true_eq]
theorem okStep_alike {d : Nat} {l c : List (List Int)} (h : Alike d l) (hc : Alike d c) (h0 : 0 < l.length) (h1 : 0 < c.length) : okStep l c = true := by
  have hlc : okRows (l ++ c) = true := okRows_alike (d := d) (fun v hv => by
    rcases List.mem_append.1 hv with hv | hv
    · exact h v hv
    · exact hc v hv) (by simp; omega)
  have e1 : (l.length == 0) = false := by simp; rintro rfl; cases h0
  have e2 : (c.length == 0) = false := by simp; rintro rfl; cases h1
  simp only [okStep, hlc, e1, e2]; rfl
theorem train_same {d : Nat} {l c : List (List Int)} (hl : Alike d l) (hc : Alike d c) (hs : ∀ v ∈ l, v ∈ c) (h0 : 0 < l.length) (h1 : 0 < c.length) : ∀ j, trainK l c j = c
  | 0 => rfl
  | j + 1 => by
    simp only [trainK, train_same hl hc hs h0 h1 j, stepOf, okStep_alike hl hc h0 h1, if_true]
    exact stepF_same hl hc hs
theorem loss_same {d : Nat} {l c : List (List Int)} (hl : Alike d l) (hc : Alike d c) (hs : ∀ v ∈ l, v ∈ c) : ∀ k, k ≤ l.length → lossK l c k = 0
  | 0, _ => rfl
  | k + 1, h => by
    have hk : l.getD k [] = l[k] := by simp [show k < l.length by omega]
    simp only [lossK, loss_same hl hc hs k (by omega), hk, nearest_same hl hc hs (List.getElem_mem (show k < l.length by omega)), l2_self]
    split <;> rfl
end Go.Proofs.Ytlnilonlaedafaa.Fx
