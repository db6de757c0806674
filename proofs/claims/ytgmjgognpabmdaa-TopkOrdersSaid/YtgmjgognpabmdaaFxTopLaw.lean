/- The plain law of the best so many: sorted lists, the heap's order. -/
import Derived.Test.YtgmjgognpabmdaaFxAwake07
namespace Go.Proofs.Ytgmjgognpabmdaa.Fx
open Go Go.RowKit
set_option linter.unusedSimpArgs false
set_option linter.unusedVariables false
section
variable {m : Int} (hM : mOk m = true)
include hM
theorem less_irr (x : Ht) : less m x x = false := by
  rw [Bool.eq_false_iff, Ne, less_lt m hM]; omega
theorem less_asym {x y : Ht} (h : less m x y = true) : less m y x = false := by
  rw [Bool.eq_false_iff, Ne, less_lt m hM]; rw [less_lt m hM] at h; omega
theorem le_tr {x y z : Ht} (h1 : less m y x = false) (h2 : less m z y = false) : less m z x = false := by
  rw [Bool.eq_false_iff, Ne, less_lt m hM] at *; omega
theorem le_an {x y : Ht} (h1 : less m y x = false) (h2 : less m x y = false) : x = y := by
  obtain ⟨a, b⟩ := x
  obtain ⟨c, d⟩ := y
  rw [Bool.eq_false_iff, Ne, less_lt m hM] at *
  simp only at h1 h2
  have : a = c ∧ b = d := by omega
  rw [this.1, this.2]
theorem less_conn {x y : Ht} (h : x ≠ y) (h1 : less m x y = false) : less m y x = true := by
  cases h2 : less m y x
  · exact absurd (le_an hM h2 h1) h
  · rfl
end
/-- Sorted: the better ones first. -/
def Sd (m : Int) (l : List Ht) : Prop := l.Pairwise (fun x y => less m y x = false)
theorem sd_unique {m : Int} (hM : mOk m = true) {a b : List Ht} (hp : a.Perm b) (ha : Sd m a) (hb : Sd m b) : a = b :=
  List.Perm.eq_of_pairwise (fun x y _ _ h1 h2 => le_an hM h1 h2) ha hb hp
theorem hsort_perm (m : Int) (l : List Ht) : (hsort m l).Perm l := List.mergeSort_perm _ _
theorem hsort_sd {m : Int} (hM : mOk m = true) (l : List Ht) : Sd m (hsort m l) := by
  have := List.pairwise_mergeSort (le := fun x y => !less m y x) (fun a b c h1 h2 => by simp at h1 h2 ⊢; exact le_tr hM h1 h2) (fun a b => by
    cases h1 : less m b a
    · simp
    · simp [less_asym hM h1]) l
  simpa [Sd, hsort] using this
def insRec (m : Int) (h : Ht) : List Ht → List Ht
  | [] => [h]
  | x :: r => if less m h x = true then h :: x :: r else x :: insRec m h r
theorem insF_true (m : Int) (h : Ht) : ∀ (l o : List Ht), l.foldl (insF m h) (true, o) = (true, o ++ l)
  | [], o => by simp
  | x :: l, o => by rw [List.foldl_cons, show insF m h (true, o) x = (true, o ++ [x]) by simp [insF], insF_true m h l]; simp
theorem insF_rec (m : Int) (h : Ht) : ∀ (l o : List Ht), (if (l.foldl (insF m h) (false, o)).1 = true then (l.foldl (insF m h) (false, o)).2 else (l.foldl (insF m h) (false, o)).2 ++ [h]) = o ++ insRec m h l
  | [], o => by simp [insRec]
  | x :: l, o => by
    rw [List.foldl_cons]
    cases hx : less m h x
    · rw [show insF m h (false, o) x = (false, o ++ [x]) by simp [insF, hx], insF_rec m h l, insRec, hx]
      simp
    · rw [show insF m h (false, o) x = (true, o ++ [h] ++ [x]) by simp [insF, hx], insF_true, insRec, hx]
      simp
theorem insR_rec (m : Int) (h : Ht) (l : List Ht) : insR m h l = insRec m h l := by
  have := insF_rec m h l []
  simpa [insR] using this
theorem insRec_perm (m : Int) (h : Ht) : ∀ l : List Ht, (insRec m h l).Perm (h :: l)
  | [] => .refl _
  | x :: l => by
    unfold insRec
    split
    · exact .refl _
    · exact ((insRec_perm m h l).cons x).trans (.swap h x l)
theorem insRec_sd {m : Int} (hM : mOk m = true) (h : Ht) : ∀ l : List Ht, Sd m l → Sd m (insRec m h l)
  | [], _ => by simp [insRec, Sd]
  | x :: l, hs => by
    have hs' := List.pairwise_cons.1 hs
    unfold insRec
    split
    · rename_i hx
      refine List.pairwise_cons.2 ⟨fun y hy => ?_, hs⟩
      rcases List.mem_cons.1 hy with rfl | hy
      · exact less_asym hM hx
      · exact le_tr hM (less_asym hM hx) (hs'.1 y hy)
    · rename_i hx
      refine List.pairwise_cons.2 ⟨fun y hy => ?_, insRec_sd hM h l hs'.2⟩
      rcases List.mem_cons.1 ((insRec_perm m h l).mem_iff.1 hy) with rfl | hy
      · simpa using hx
      · exact hs'.1 y hy
theorem insR_perm (m : Int) (h : Ht) (l : List Ht) : (insR m h l).Perm (h :: l) := by rw [insR_rec]; exact insRec_perm m h l
theorem insR_sd {m : Int} (hM : mOk m = true) (h : Ht) {l : List Ht} (hl : Sd m l) : Sd m (insR m h l) := by rw [insR_rec]; exact insRec_sd hM h l hl
theorem srt_both {m : Int} (hM : mOk m = true) : ∀ (l o : List Ht), Sd m o → Sd m (l.foldl (fun o x => insR m x o) o) ∧ (l.foldl (fun o x => insR m x o) o).Perm (o ++ l)
  | [], o, ho => ⟨ho, by simp⟩
  | x :: l, o, ho => by
    rw [List.foldl_cons]
    obtain ⟨h1, h2⟩ := srt_both hM l (insR m x o) (insR_sd hM x ho)
    exact ⟨h1, h2.trans (((insR_perm m x o).append_right l).trans List.perm_middle.symm)⟩
theorem srt_eq {m : Int} (hM : mOk m = true) (l : List Ht) : srt m l = hsort m l := by
  obtain ⟨h1, h2⟩ := srt_both hM l [] List.Pairwise.nil
  exact sd_unique hM ((by simpa [srt] using h2 : (srt m l).Perm l).trans (hsort_perm m l).symm) h1 (hsort_sd hM l)
theorem hg_ge {l : List Ht} {i : Nat} (h : l.length ≤ i) : hg l i = (0, 0) := by simp [hg, h]
theorem hg_set (l : List Ht) (i t : Nat) (z : Ht) (hi : i < l.length) : hg (l.set i z) t = if t = i then z else hg l t := by
  unfold hg
  by_cases h : t = i
  · subst h; simp [hi]
  · simp [h, List.getElem?_set, Ne.symm h, List.getD]
theorem hg_swap (l : List Ht) (i j t : Nat) (hi : i < l.length) (hj : j < l.length) : hg (hswap l i j) t = if t = j then hg l i else if t = i then hg l j else hg l t := by
  unfold hswap
  rw [hg_set _ _ _ _ (by simpa using hj), hg_set _ _ _ _ hi]
theorem hswap_perm (l : List Ht) (i j : Nat) (hi : i < l.length) (hj : j < l.length) : (hswap l i j).Perm l := by
  have e : hswap l i j = (l.set i l[j]).set j l[i] := by simp [hswap, hi, hj]
  rw [e]
  exact List.set_set_perm hi hj
theorem hup_perm (m : Int) (j : Nat) : ∀ (l : List Ht), j < l.length → (hup m l j).Perm l := by
  induction j using Nat.strongRecOn with
  | ind j ih =>
    intro l hj
    rw [hup]
    split
    · exact .refl _
    · split
      · exact (ih _ (by omega) _ (by rw [hswap_len]; omega)).trans (hswap_perm _ _ _ (by omega) hj)
      · exact .refl _
/-- The heap's order: no child is worse than its parent. -/
def HeapOk (m : Int) (l : List Ht) : Prop := ∀ i, 0 < i → i < l.length → less m (hg l ((i - 1) / 2)) (hg l i) = false
theorem root_worst {m : Int} (hM : mOk m = true) {l : List Ht} (h : HeapOk m l) (i : Nat) : i < l.length → less m (hg l 0) (hg l i) = false := by
  induction i using Nat.strongRecOn with
  | ind i ih =>
    intro hi
    rcases Nat.eq_zero_or_pos i with rfl | h0
    · exact less_irr hM _
    · exact le_tr hM (h i h0 hi) (ih ((i - 1) / 2) (by omega) (by omega))
theorem hup_ok {m : Int} (hM : mOk m = true) (j : Nat) : ∀ (l : List Ht), j < l.length → (∀ i, 0 < i → i < l.length → i ≠ j → less m (hg l ((i - 1) / 2)) (hg l i) = false) → (∀ i, 0 < i → i < l.length → (i - 1) / 2 = j → 0 < j → less m (hg l ((j - 1) / 2)) (hg l i) = false) → HeapOk m (hup m l j) := by
  induction j using Nat.strongRecOn with
  | ind j ih =>
    intro l hj h1 h2
    rw [hup]
    split
    · rename_i h0
      intro i hi hl
      exact h1 i hi hl (by omega)
    · rename_i h0
      split
      · rename_i hlt
        have hp : (j - 1) / 2 < l.length := by omega
        have hpj : (j - 1) / 2 < j := by omega
        have hge := less_asym hM hlt
        have g := fun t => hg_swap l ((j - 1) / 2) j t hp hj
        refine ih _ hpj _ (by rw [hswap_len]; exact hp) ?_ ?_
        · intro i hi hil hip
          rw [hswap_len] at hil
          rw [g, g]
          by_cases e1 : i = j
          · subst e1
            rw [if_neg (by omega), if_pos rfl, if_pos rfl]
            exact hge
          · rw [if_neg e1, if_neg hip]
            by_cases e2 : (i - 1) / 2 = j
            · rw [if_pos e2]; exact h2 i hi hil e2 (by omega)
            · rw [if_neg e2]
              by_cases e3 : (i - 1) / 2 = (j - 1) / 2
              · rw [if_pos e3]
                have := h1 i hi hil e1
                rw [e3] at this
                exact le_tr hM this hge
              · rw [if_neg e3]; exact h1 i hi hil e1
        · intro i hi hil hip hp0
          rw [hswap_len] at hil
          rw [g, g, if_neg (by omega), if_neg (by omega)]
          have hpp := h1 ((j - 1) / 2) hp0 hp (by omega)
          by_cases e1 : i = j
          · rw [if_pos e1]; exact hpp
          · rw [if_neg e1, if_neg (by omega)]
            have := h1 i hi hil e1
            rw [hip] at this
            exact le_tr hM this hpp
      · rename_i hlt
        intro i hi hl
        by_cases e1 : i = j
        · subst e1; simpa using hlt
        · exact h1 i hi hl e1
theorem hdn_perm (m : Int) (n : Nat) : ∀ (k : Nat) (l : List Ht) (i : Nat), n - i = k → n ≤ l.length → i < n → (hdn m n l i).1.Perm l ∧ ∀ t, n ≤ t → hg (hdn m n l i).1 t = hg l t := by
  intro k
  induction k using Nat.strongRecOn with
  | ind k ih =>
    intro l i hk hn hi
    rw [hdn]
    split
    · rename_i hc
      split
      · have h1 := hch_gt m n l i
        have h2 := hch_lt m n l i hc
        obtain ⟨q1, q2⟩ := ih (n - hch m n l i) (by omega) (hswap l i (hch m n l i)) (hch m n l i) rfl (by rw [hswap_len]; exact hn) h2
        refine ⟨q1.trans (hswap_perm _ _ _ (by omega) (by omega)), fun t ht => ?_⟩
        rw [q2 t ht, hg_swap _ _ _ _ (by omega) (by omega), if_neg (by omega), if_neg (by omega)]
      · exact ⟨.refl _, fun _ _ => rfl⟩
    · exact ⟨.refl _, fun _ _ => rfl⟩
theorem hch_worst {m : Int} (hM : mOk m = true) {n : Nat} {l : List Ht} {i : Nat} (c : Nat) (hc0 : 0 < c) (hcn : c < n) (hp : (c - 1) / 2 = i) : less m (hg l (hch m n l i)) (hg l c) = false := by
  have hcc : c = 2 * i + 1 ∨ c = 2 * i + 2 := by omega
  unfold hch
  split
  · rename_i h
    rcases hcc with rfl | rfl
    · exact less_asym hM h.2
    · exact less_irr hM _
  · rename_i h
    rcases hcc with rfl | rfl
    · exact less_irr hM _
    · rw [Bool.eq_false_iff]; exact fun e => h ⟨hcn, e⟩
theorem hdn_ok {m : Int} (hM : mOk m = true) (n : Nat) : ∀ (k : Nat) (l : List Ht) (i : Nat), n - i = k → n ≤ l.length → (∀ c, 0 < c → c < n → (c - 1) / 2 ≠ i → less m (hg l ((c - 1) / 2)) (hg l c) = false) → (∀ c, 0 < c → c < n → (c - 1) / 2 = i → 0 < i → less m (hg l ((i - 1) / 2)) (hg l c) = false) →
    ∀ c, 0 < c → c < n → less m (hg (hdn m n l i).1 ((c - 1) / 2)) (hg (hdn m n l i).1 c) = false := by
  intro k
  induction k using Nat.strongRecOn with
  | ind k ih =>
    intro l i hk hn h1 h2
    rw [hdn]
    split
    · rename_i hc
      have g1 := hch_gt m n l i
      have g2 := hch_lt m n l i hc
      have g3 : (hch m n l i - 1) / 2 = i := by unfold hch; split <;> omega
      have g4 := fun c a b d => hch_worst hM (n := n) (l := l) (i := i) c a b d
      generalize hch m n l i = j at *
      split
      · rename_i hlt
        have hge := less_asym hM hlt
        have g := fun t => hg_swap l i j t (by omega) (by omega)
        refine ih (n - j) (by omega) _ j rfl (by rw [hswap_len]; exact hn) ?_ ?_
        · intro c hc0 hcn hpc
          rw [g, g, if_neg hpc]
          by_cases e1 : c = j
          · subst e1
            rw [g3, if_pos rfl, if_pos rfl]
            exact hge
          · rw [if_neg e1]
            by_cases e2 : (c - 1) / 2 = i
            · rw [if_pos e2, if_neg (by omega)]
              exact g4 c hc0 hcn e2
            · rw [if_neg e2]
              by_cases e3 : c = i
              · subst e3
                rw [if_pos rfl]
                exact h2 j (by omega) g2 g3 hc0
              · rw [if_neg e3]
                exact h1 c hc0 hcn e2
        · intro c hc0 hcn hpc hj0
          rw [g, g, if_neg (by omega), if_pos g3, if_neg (by omega), if_neg (by omega)]
          have := h1 c hc0 hcn (by omega)
          rw [hpc] at this
          exact this
      · rename_i hlt
        rw [Bool.not_eq_true] at hlt
        intro c hc0 hcn
        by_cases e2 : (c - 1) / 2 = i
        · rw [e2]
          exact le_tr hM (g4 c hc0 hcn e2) hlt
        · exact h1 c hc0 hcn e2
    · rename_i hc
      intro c hc0 hcn
      exact h1 c hc0 hcn (by omega)
theorem hg_app_lt {l : List Ht} {x : Ht} {i : Nat} (h : i < l.length) : hg (l ++ [x]) i = hg l i := by simp [hg, h, List.getD, List.getElem?_append_left]
theorem hg_take {l : List Ht} {n i : Nat} (h : i < n) : hg (l.take n) i = hg l i := by simp [hg, List.getD, List.getElem?_take, h]
theorem hpush_ok {m : Int} (hM : mOk m = true) {l : List Ht} (h : HeapOk m l) (x : Ht) : HeapOk m (hpush m l x) ∧ (hpush m l x).Perm (x :: l) := by
  refine ⟨hup_ok hM _ _ (by simp) ?_ ?_, (hup_perm m _ _ (by simp)).trans List.perm_append_comm⟩
  · intro i hi hil hne
    simp at hil
    rw [hg_app_lt (by omega), hg_app_lt (by omega)]
    exact h i hi (by omega)
  · intro i hi hil hp h0
    simp at hil
    omega
theorem hpop_ok {m : Int} (hM : mOk m = true) {l : List Ht} (h : HeapOk m l) (hne : l ≠ []) : HeapOk m ((hpopL m l).take (l.length - 1)) ∧ l.Perm (hg l 0 :: (hpopL m l).take (l.length - 1)) := by
  have h0 := List.length_pos_iff.2 hne
  have hlen : (hpopL m l).length = l.length := by rw [hpopL, hdn_len, hswap_len]
  have hs := fun t => hg_swap l 0 (l.length - 1) t h0 (by omega)
  constructor
  · intro i hi hil
    rw [List.length_take, hlen] at hil
    rw [hg_take (by omega), hg_take (by omega)]
    refine hdn_ok hM (l.length - 1) _ _ 0 rfl (by rw [hswap_len]; omega) ?_ (fun _ _ _ _ h => absurd h (by omega)) i hi (by omega)
    intro c hc0 hcn hpc
    rw [hs, hs, if_neg (by omega), if_neg hpc, if_neg (by omega), if_neg (by omega)]
    exact h c hc0 (by omega)
  · rcases Nat.lt_or_ge 1 l.length with h2 | h2
    · obtain ⟨q1, q2⟩ := hdn_perm m (l.length - 1) _ (hswap l 0 (l.length - 1)) 0 rfl (by rw [hswap_len]; omega) (by omega)
      have hp : (hpopL m l).Perm l := q1.trans (hswap_perm _ _ _ h0 (by omega))
      have hlast : hg (hpopL m l) (l.length - 1) = hg l 0 := by
        rw [hpopL, q2 _ (Nat.le_refl _), hs, if_pos rfl]
      have hsplit : hpopL m l = (hpopL m l).take (l.length - 1) ++ [hg l 0] := by
        have := List.take_succ_eq_append_getElem (l := hpopL m l) (i := l.length - 1) (by omega)
        rw [Nat.sub_add_cancel h0, List.take_of_length_le (by omega), hg_get, hlast] at this
        exact this
      rw [hsplit] at hp
      exact hp.symm.trans List.perm_append_comm
    · obtain ⟨x, rfl⟩ := List.length_eq_one_iff.1 (show l.length = 1 by omega)
      simp [hg]
end Go.Proofs.Ytgmjgognpabmdaa.Fx
