/- The plain law of the best so many: the heap keeps what the document's list keeps; that is the beginning of all unlike hits sorted. -/
import Derived.Test.YtgmjgognpabmdaaFxTopLaw
namespace Go.Proofs.Ytgmjgognpabmdaa.Fx
open Go Go.RowKit
set_option linter.unusedSimpArgs false
set_option linter.unusedVariables false
/-- What the heap holds (H) and what the document keeps (W). -/
def Kp (m : Int) (k : Nat) (H W : List Ht) : Prop := HeapOk m H ∧ Sd m W ∧ H.Perm W ∧ H.length ≤ k
theorem kp_nil (m : Int) (k : Nat) : Kp m k [] [] := ⟨fun i _ h => absurd h (by simp), List.Pairwise.nil, .refl _, Nat.zero_le _⟩
theorem last_split {W : List Ht} (h : 0 < W.length) : ∃ W0 z, W = W0 ++ [z] := by
  have hne : W ≠ [] := List.length_pos_iff.1 h
  exact ⟨W.dropLast, W.getLast hne, (List.dropLast_concat_getLast hne).symm⟩
theorem hg_last (W0 : List Ht) (z : Ht) : hg (W0 ++ [z]) W0.length = z := by simp [hg, List.getD]
theorem insRec_last (m : Int) (x r : Ht) (h : less m x r = true) : ∀ W0 : List Ht, insRec m x (W0 ++ [r]) = insRec m x W0 ++ [r]
  | [] => by simp [insRec, h]
  | y :: W0 => by
    simp only [List.cons_append, insRec]
    split
    · simp
    · rw [insRec_last m x r h W0]; simp
theorem insRec_end (m : Int) (x : Ht) : ∀ W : List Ht, (∀ y ∈ W, less m x y = false) → insRec m x W = W ++ [x]
  | [], _ => rfl
  | y :: W, h => by
    rw [insRec, if_neg (by rw [h y (by simp)]; decide), insRec_end m x W fun z hz => h z (by simp [hz])]; simp
theorem hg_mem {l : List Ht} {i : Nat} (h : i < l.length) : hg l i ∈ l := by rw [← hg_get h]; exact List.getElem_mem h
theorem root_mem {m : Int} (hM : mOk m = true) {H : List Ht} (h : HeapOk m H) {y : Ht} (hy : y ∈ H) : less m (hg H 0) y = false := by
  obtain ⟨i, hi, rfl⟩ := List.getElem_of_mem hy
  rw [hg_get hi]
  exact root_worst hM h i hi
theorem kp_worst {m : Int} (hM : mOk m = true) {k : Nat} {H W : List Ht} (h : Kp m k H W) (h0 : 0 < H.length) : ∃ W0, W = W0 ++ [hg H 0] := by
  obtain ⟨h1, h2, h3, h4⟩ := h
  obtain ⟨W0, z, rfl⟩ := last_split (h3.length_eq ▸ h0)
  refine ⟨W0, ?_⟩
  have hz : z ∈ H := h3.mem_iff.2 (by simp)
  have hr : hg H 0 ∈ W0 ++ [z] := h3.mem_iff.1 (hg_mem h0)
  have a1 := root_mem hM h1 hz
  have a2 : less m z (hg H 0) = false := by
    rcases List.mem_append.1 hr with h | h
    · exact (List.pairwise_append.1 h2).2.2 _ h z (by simp)
    · rw [List.mem_singleton.1 h]; exact less_irr hM _
  rw [le_an hM a2 a1]
theorem kp_step {m : Int} (hM : mOk m = true) {k : Nat} (hk : 1 ≤ k) {H W : List Ht} (h : Kp m k H W) (x : Ht) :
    (hadd k m H x).1 = (radd m k W x).2 ∧ Kp m k (hadd k m H x).2 (radd m k W x).1 ∧ 0 < (hadd k m H x).2.length := by
  have hkp := h
  obtain ⟨h1, h2, h3, h4⟩ := h
  have hlen := h3.length_eq
  by_cases hx : x ∈ H
  · rw [hadd, if_pos (.inl hx), radd, if_pos (h3.mem_iff.1 hx)]
    exact ⟨rfl, hkp, List.length_pos_of_mem hx⟩
  have hx' : x ∉ W := fun e => hx (h3.mem_iff.2 e)
  by_cases hf : H.length = k
  · have h0 : 0 < H.length := by omega
    have hne : H ≠ [] := List.length_pos_iff.1 h0
    obtain ⟨W0, rfl⟩ := kp_worst hM hkp h0
    have hW0 : W0.length + 1 = k := by rw [List.length_append, List.length_singleton] at hlen; omega
    cases hlt : less m x (hg H 0)
    · have hend : insR m x (W0 ++ [hg H 0]) = (W0 ++ [hg H 0]) ++ [x] := by
        rw [insR_rec]
        refine insRec_end m x _ fun y hy => ?_
        exact le_tr hM (root_mem hM h1 (h3.mem_iff.2 hy)) hlt
      rw [hadd, if_pos (.inr ⟨by omega, hlt⟩), radd, if_neg hx', if_neg (by simp; omega), hend]
      have e1 : ((W0 ++ [hg H 0]) ++ [x]).take k = W0 ++ [hg H 0] := List.take_left' (by simp; omega)
      have e2 : hg ((W0 ++ [hg H 0]) ++ [x]) k = x := by
        have := hg_last (W0 ++ [hg H 0]) x
        rwa [show (W0 ++ [hg H 0]).length = k by simp; omega] at this
      rw [e1, e2]
      exact ⟨by simp, hkp, h0⟩
    · have hend : insR m x (W0 ++ [hg H 0]) = insRec m x W0 ++ [hg H 0] := by rw [insR_rec]; exact insRec_last m x _ hlt W0
      have hpl := (insRec_perm m x W0).length_eq
      simp only [List.length_cons] at hpl
      have e1 : (insRec m x W0 ++ [hg H 0]).take k = insRec m x W0 := List.take_left' (by omega)
      have e2 : hg (insRec m x W0 ++ [hg H 0]) k = hg H 0 := by
        have := hg_last (insRec m x W0) (hg H 0)
        rwa [show (insRec m x W0).length = k by omega] at this
      have hxr : ¬ hg H 0 = x := fun e => hx (e ▸ hg_mem h0)
      rw [hadd, if_neg (fun h => h.elim hx fun h => by rw [hlt] at h; cases h.2), if_pos (by omega), radd, if_neg hx', if_neg (by simp; omega), hend, e1, e2]
      obtain ⟨p1, p2⟩ := hpop_ok hM h1 hne
      obtain ⟨p3, p4⟩ := hpush_ok hM p1 x
      have p5 : (hpopL m H).take (H.length - 1) |>.Perm W0 := (p2.symm.trans (h3.trans List.perm_append_comm)).cons_inv
      have hs0 : Sd m W0 := (List.pairwise_append.1 h2).1
      refine ⟨by rw [decide_eq_false hxr]; rfl, ⟨p3, insRec_sd hM x W0 hs0, p4.trans ((p5.cons x).trans (insRec_perm m x W0).symm), ?_⟩, ?_⟩
      · rw [p4.length_eq, List.length_cons, p5.length_eq]; omega
      · rw [p4.length_eq]; simp
  · rw [hadd, if_neg (fun h => h.elim hx fun h => hf (by omega)), if_neg (by omega), radd, if_neg hx', if_pos (by omega)]
    obtain ⟨p3, p4⟩ := hpush_ok hM h1 x
    refine ⟨rfl, ⟨p3, insR_sd hM x h2, p4.trans ((h3.cons x).trans (insR_perm m x W).symm), ?_⟩, ?_⟩
    · rw [p4.length_eq, List.length_cons]; omega
    · rw [p4.length_eq]; simp
theorem kp_list {m : Int} (hM : mOk m = true) {k : Nat} {H W : List Ht} (h : Kp m k H W) : hsort m H = W := sd_unique hM ((hsort_perm m H).trans h.2.2.1) (hsort_sd hM H) h.2.1
def hadds (m : Int) (k : Nat) (H : List Ht) (l : List Ht) : List Ht := l.foldl (fun H x => (hadd k m H x).2) H
def radds (m : Int) (k : Nat) (W : List Ht) (l : List Ht) : List Ht := l.foldl (fun W x => (radd m k W x).1) W
theorem kp_adds {m : Int} (hM : mOk m = true) {k : Nat} (hk : 1 ≤ k) : ∀ (l H W : List Ht), Kp m k H W → Kp m k (hadds m k H l) (radds m k W l)
  | [], _, _, h => h
  | x :: l, H, W, h => kp_adds hM hk l _ _ (kp_step hM hk h x).2.1
theorem radd_fst (m : Int) (k : Nat) (W : List Ht) (x : Ht) : (radd m k W x).1 = if x ∈ W then W else (insR m x W).take k := by
  unfold radd
  split
  · rfl
  · split
    · rw [List.take_of_length_le (by rw [insR_len]; assumption)]
    · rfl
theorem insRec_take (m : Int) (x : Ht) : ∀ (S : List Ht) (k : Nat), (insRec m x (S.take k)).take k = (insRec m x S).take k
  | [], k => by simp
  | y :: S, 0 => by simp
  | y :: S, k + 1 => by
    rw [List.take_succ_cons]
    simp only [insRec]
    split
    · rw [List.take_succ_cons, List.take_succ_cons]
      cases k with
      | zero => simp
      | succ k => rw [List.take_succ_cons, List.take_succ_cons, List.take_take]; congr 3; omega
    · rw [List.take_succ_cons, List.take_succ_cons, insRec_take m x S k]
theorem uniq_snoc (P : List Ht) (x : Ht) : uniq (P ++ [x]) = uq (uniq P) x := by simp [uniq, List.foldl_append]
theorem kept_step {m : Int} (hM : mOk m = true) (k : Nat) (P : List Ht) (x : Ht) : (radd m k ((hsort m (uniq P)).take k) x).1 = (hsort m (uniq (P ++ [x]))).take k := by
  rw [radd_fst, uniq_snoc]
  have hs := hsort_sd hM (uniq P)
  have hp := hsort_perm m (uniq P)
  unfold uq
  by_cases hx : x ∈ uniq P
  · rw [if_pos hx]
    by_cases hx2 : x ∈ (hsort m (uniq P)).take k
    · rw [if_pos hx2]
    · rw [if_neg hx2, insR_rec]
      have hxs : x ∈ hsort m (uniq P) := hp.mem_iff.2 hx
      generalize hsort m (uniq P) = S at *
      have hxd : x ∈ S.drop k := by
        rw [← List.take_append_drop k S] at hxs
        exact (List.mem_append.1 hxs).resolve_left hx2
      have hkl : k ≤ S.length := by
        rcases Nat.lt_or_ge S.length k with h | h
        · rw [List.drop_of_length_le (by omega)] at hxd; simp at hxd
        · exact h
      have hs' := hs
      rw [Sd, ← List.take_append_drop k S] at hs'
      rw [insRec_end m x _ fun y hy => (List.pairwise_append.1 hs').2.2 y hy x hxd]
      exact List.take_left' (by rw [List.length_take]; omega)
  · rw [if_neg hx, if_neg (fun h => hx (hp.mem_iff.1 (List.mem_of_mem_take h))), insR_rec, insRec_take]
    congr 1
    refine sd_unique hM ?_ (insRec_sd hM x _ hs) (hsort_sd hM _)
    exact (insRec_perm m x _).trans ((hp.cons x).trans ((List.perm_append_comm (l₁ := [x])).trans (hsort_perm m _).symm))
theorem kept_all {m : Int} (hM : mOk m = true) (k : Nat) : ∀ (l P : List Ht), radds m k ((hsort m (uniq P)).take k) l = (hsort m (uniq (P ++ l))).take k
  | [], P => by simp [radds]
  | x :: l, P => by
    have := kept_all hM k l (P ++ [x])
    rw [List.append_assoc] at this
    rw [← List.singleton_append, ← this, radds, List.singleton_append, List.foldl_cons, kept_step hM]
    rfl
theorem kept_eq {m : Int} (hM : mOk m = true) (k : Nat) (l : List Ht) : radds m k [] l = (hsort m (uniq l)).take k := by
  have := kept_all hM k l []
  rw [List.nil_append] at this
  rw [← this]
  congr 1
  rw [show uniq [] = [] from rfl, show hsort m [] = [] by simp [hsort], List.take_nil]
theorem uq_both : ∀ (l o : List Ht), o.Nodup → (l.foldl uq o).Nodup ∧ ∀ x, x ∈ l.foldl uq o ↔ x ∈ o ∨ x ∈ l
  | [], o, h => ⟨h, fun x => by simp⟩
  | y :: l, o, h => by
    rw [List.foldl_cons]
    have hn : (uq o y).Nodup := by
      unfold uq
      split
      · exact h
      · rename_i hy
        rw [List.perm_append_comm.nodup_iff]
        exact List.nodup_cons.2 ⟨hy, h⟩
    obtain ⟨q1, q2⟩ := uq_both l (uq o y) hn
    refine ⟨q1, fun x => (q2 x).trans ?_⟩
    have : x ∈ uq o y ↔ x ∈ o ∨ x = y := by
      unfold uq
      split
      · rename_i hy
        exact ⟨.inl, fun h => h.elim id fun e => e ▸ hy⟩
      · simp
    rw [this, List.mem_cons, or_assoc]
theorem hsort_uniq_rev {m : Int} (hM : mOk m = true) (l : List Ht) : hsort m (uniq l.reverse) = hsort m (uniq l) := by
  obtain ⟨a1, a2⟩ := uq_both l [] List.nodup_nil
  obtain ⟨b1, b2⟩ := uq_both l.reverse [] List.nodup_nil
  have hp : (uniq l.reverse).Perm (uniq l) := (List.perm_ext_iff_of_nodup b1 a1).2 fun x => by rw [b2, a2]; simp
  exact sd_unique hM ((hsort_perm m _).trans (hp.trans (hsort_perm m _).symm)) (hsort_sd hM _) (hsort_sd hM _)
/-- The best so many of all: the beginning of all unlike ones, sorted; in whatever order they came. -/
theorem best_law {m : Int} (hM : mOk m = true) {k : Nat} (hk : 1 ≤ k) (l : List Ht) : hsort m (hadds m k [] l) = (hsort m (uniq l)).take k ∧ hsort m (hadds m k [] l.reverse) = (hsort m (uniq l)).take k := by
  refine ⟨(kp_list hM (kp_adds hM hk l _ _ (kp_nil m k))).trans (kept_eq hM k l), (kp_list hM (kp_adds hM hk l.reverse _ _ (kp_nil m k))).trans ?_⟩
  rw [kept_eq hM, hsort_uniq_rev hM]
end Go.Proofs.Ytgmjgognpabmdaa.Fx
