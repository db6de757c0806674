/- The laws of the choice and of the exact plans. -/
import Derived.Test.YteoddaeipckgcaaFxSure24
namespace Go.Proofs.Yteoddaeipckgcaa.Fx
open Go Go.RowKit Go.Proofs.Yteoddaeipckgcaa.Q
set_option maxRecDepth 100000
set_option linter.unusedSimpArgs false
set_option linter.unusedVariables false
set_option maxHeartbeats 4000000 in
theorem plansChoice_spec (l : List Pl) (ex : Bool) (k p b e : Int) (x : Bool) (c : Int) (hl : l.length ≤ 2932031007402) :
    Spec Try.prog 4 [.v (.t (.sl 6 (prows l))), .v (.t (.bool ex)), .agg [.t (.int .i64 k), .t (.int .i64 p), .t (.int .i64 b), .t (.int .i64 e), .t (.bool x), .t (.int .i64 c)]] [] [.v (.t (.bool true))] [] := by
  have h1 := choose_spec l ex (by omega)
  have h2 := choose2_spec l ex (by omega)
  have h3 := check_spec k p b e x c
  have h4 := check2_spec k p b e x c
  have h5 := same24_spec l (by omega)
  have b1 := tt (show l.length * 48 ≤ 140737488355328 by omega)
  have b2 := tt (show l.length ≤ 9223372036854775807 by omega)
  have ht : (prows l).take l.length = prows l := List.take_of_length_le (by rw [prows_len]; omega)
  obtain ⟨⟨r1, r2, r3, r4, r5, r6⟩, hch⟩ : ∃ z, chosen ex l = z := ⟨_, rfl⟩
  rw [hch, pcells_eq] at h1 h2
  refine spec_by Try.func4 rfl mixed tOk evOk (n := 50) rfl (by simp) (by simp) ?_
  rw [initSt_mk, show Try.f4.results.toList = [.tmp 6] from rfl]
  simp only [initL, AV.sv, List.map_cons, List.map_nil, Nat.reduceAdd, Nat.zero_add]
  repeat' (first
   | (with_reducible first | refine s_seq ?_ | refine s_block ?_ | refine s_region fun kr hr => ?_)
   | (with_reducible refine s_text tOk [5, 8, 10, 14, 1000, 1001, 1002, 1003] (by kernel_rfl) (by simp [HeapIn, namers, namerDst, namerOp, Blk.has, hasRows, hasL, CV.has, hasRows_up, hasRows_append, b1, b2, ht, prows_len]) fun kr hr => ?_)
   | (with_reducible first | refine s_op fun K' hk => ?_ | refine t_op fun K' hk => ?_ | (refine hk _ ?_; clear hk K') | (refine ht _ ?_; clear ht hf KT KF) | (refine hf _ ?_; clear ht hf KT KF) | ((first | refine s_nil ?_ | refine t_nil ?_); refine hr _ ?_; clear hr kr))
   | ((with_reducible refine n_seqK [0, 1, 2, 3, 4, 5, 6, 7, 8, 9, 10, 11, 13, 14, 15, 16, 17, 25, 30] [5, 8, 10, 14] ?_); simp only [mk_keep, keepL, List.mem_cons, List.not_mem_nil, Nat.reduceEqDiff, Nat.zero_ne_one, Nat.one_ne_zero, reduceCtorEq, or_false, false_or, or_true, true_or, or_self, eq_self, ↓reduceIte])
   | (with_reducible first | refine s_cond fun KT KF ht hf => ?_ | refine s_skip ?_)
   | ((with_reducible refine s_long ?_); simp only [List.cons_append, List.nil_append])
   | (with_reducible first | refine s_exit ?_ | refine s_ret ?_ | refine e_seq ?_ | refine r_seq ?_ | refine n_block ?_ | refine e_block ?_ | refine r_block ?_ | refine e_loop ?_ | refine r_loop ?_ | refine e_round ?_ | refine r_round ?_ | refine s_round ?_ | refine f_block ?_ (by decide) | refine r_res ?_ | refine n_res ?_)
   | (simp only [hgb, go_sem, Int.reduceToNat, ↓reduceIte, reduceCtorEq, Nat.reduceEqDiff, Nat.reduceAdd, Nat.reduceMul, Nat.reduceLT, Nat.reduceLeDiff, Nat.reduceBEq, Int.reduceBEq, Int.reduceBNe, Int.reduceEq, Int.reduceLT, Int.reduceLE, Int.reduceGE, Int.reduceGT, b1, b2, ht, prows_len, callE, resSV, AV.flat, CV.flat, TV.flat]; clear hgb)
   | simp only [go_sem, Int.reduceToNat, ↓reduceIte, reduceCtorEq, Nat.reduceEqDiff, Nat.reduceAdd, Nat.reduceMul, Nat.reduceLT, Nat.reduceLeDiff, Nat.reduceBEq, Int.reduceBEq, Int.reduceBNe, Int.reduceEq, Int.reduceLT, Int.reduceLE, Int.reduceGE, Int.reduceGT, b1, b2, ht, prows_len, callE, resSV, AV.flat, CV.flat, TV.flat, hAll]
   | refine Or.inl ⟨_, ⟨fun _ _ => rfl, h1⟩, ?_⟩
   | refine ⟨_, ⟨fun _ _ => rfl, h1⟩, ?_⟩
   | refine Or.inl ⟨_, ⟨fun _ _ => rfl, h2⟩, ?_⟩
   | refine ⟨_, ⟨fun _ _ => rfl, h2⟩, ?_⟩
   | refine Or.inl ⟨_, ⟨fun _ _ => rfl, h3⟩, ?_⟩
   | refine ⟨_, ⟨fun _ _ => rfl, h3⟩, ?_⟩
   | refine Or.inl ⟨_, ⟨fun _ _ => rfl, h4⟩, ?_⟩
   | refine ⟨_, ⟨fun _ _ => rfl, h4⟩, ?_⟩
   | refine Or.inl ⟨_, ⟨fun _ _ => rfl, h5⟩, ?_⟩
   | refine ⟨_, ⟨fun _ _ => rfl, h5⟩, ?_⟩
   | refine Or.inl ⟨_, ⟨fun _ _ => rfl, sure24_spec⟩, ?_⟩
   | refine ⟨_, ⟨fun _ _ => rfl, sure24_spec⟩, ?_⟩
   | (refine ite_guard (fun hg => ?_) (fun hg => ?_) <;> (try simp only [Bool.not_eq_true, Bool.not_eq_false, Decidable.not_not] at hg) <;> (first | have hgb : (_ : Bool) = _ := hg | have hgb := ff hg | have hgb := tt hg))
   | (refine ⟨fun hc => ht _ ?_, fun hc => hf _ ?_⟩ <;> clear ht hf KT KF)
   | fail)
/-! ### which is the best -/
theorem bestI_is (ex : Bool) (l : List Pl) : ∀ k b, bestI ex l k = some b → okp ex (l.getD b z0) = true ∧ ∀ j, j < k → okp ex (l.getD j z0) = true → (l.getD b z0).2.2.2.2.2 ≤ (l.getD j z0).2.2.2.2.2
  | k + 1, b, h => by
    simp only [bestI] at h
    cases hb : bestI ex l k with
    | none =>
      rw [hb] at h
      simp only at h
      split at h
      · rename_i ho
        cases h
        refine ⟨ho, fun j hj hoj => ?_⟩
        by_cases e : j = k
        · subst e; exact Int.le_refl _
        · exfalso
          have : ∀ m, bestI ex l m = none → ∀ j, j < m → okp ex (l.getD j z0) = false := by
            intro m
            induction m with
            | zero => intro _ j hj; omega
            | succ m ih =>
              intro hm j hj
              simp only [bestI] at hm
              cases hbm : bestI ex l m with
              | none =>
                rw [hbm] at hm
                simp only at hm
                split at hm
                · cases hm
                · rename_i hno
                  by_cases e : j = m
                  · subst e; simpa using hno
                  · exact ih hbm j (by omega)
              | some b => rw [hbm] at hm; simp only at hm; split at hm <;> cases hm
          rw [this k hb j (by omega)] at hoj
          cases hoj
      · cases h
    | some b' =>
      rw [hb] at h
      simp only at h
      obtain ⟨h1, h2⟩ := bestI_is ex l k b' hb
      split at h
      · rename_i ho
        cases h
        refine ⟨ho.1, fun j hj hoj => ?_⟩
        by_cases e : j = k
        · subst e; exact Int.le_refl _
        · have := h2 j (by omega) hoj; omega
      · rename_i ho
        cases h
        refine ⟨h1, fun j hj hoj => ?_⟩
        by_cases e : j = k
        · subst e
          by_cases hlt : (l.getD j z0).2.2.2.2.2 < (l.getD b z0).2.2.2.2.2
          · exact absurd ⟨hoj, hlt⟩ ho
          · omega
        · exact h2 j (by omega) hoj
theorem bestI_some {ex : Bool} {l : List Pl} {j : Nat} (hj : okp ex (l.getD j z0) = true) : ∀ k, j < k → (bestI ex l k).isSome = true
  | k + 1, h => by
    simp only [bestI]
    cases hb : bestI ex l k with
    | none =>
      simp only
      by_cases e : j = k
      · subst e; rw [if_pos hj]; rfl
      · have := bestI_some hj k (by omega)
        rw [hb] at this; cases this
    | some b => simp only; split <;> rfl
theorem chosen_is {ex : Bool} {l : List Pl} {j : Nat} (hj : okp ex (l.getD j z0) = true) (hl : j < l.length) : chosenE ex l = 0 ∧ okp ex (chosen ex l) = true ∧ ∀ i, i < l.length → okp ex (l.getD i z0) = true → (chosen ex l).2.2.2.2.2 ≤ (l.getD i z0).2.2.2.2.2 := by
  have h := bestI_some hj l.length hl
  cases hb : bestI ex l l.length with
  | none => rw [hb] at h; cases h
  | some b =>
    obtain ⟨h1, h2⟩ := bestI_is ex l _ b hb
    refine ⟨by simp only [chosenE, hb]; rfl, ?_, ?_⟩
    · simp only [chosen, bestP, hb]; exact h1
    · simp only [chosen, bestP, hb]; exact h2
/-! ### the plans of a search -/
def fine (z : Pl) : Prop := chk z.1 z.2.1 z.2.2.1 z.2.2.2.1 z.2.2.2.2.1 z.2.2.2.2.2 = 0 ∧ (z.2.2.2.2.1 = true → z.1 ≠ 5 ∧ z.1 ≠ 3)
theorem part_fine {n p d r : Int} (l2 cn : Bool) (hg : Good n p d r) : ∀ i, ∀ z ∈ part n p d r l2 cn i, fine z := by
  obtain ⟨⟨n0, n1⟩, ⟨p0, p1⟩, ⟨d0, d1⟩, ⟨r0, r1⟩, ⟨pd0, pd1⟩, ⟨rd0, rd1⟩, ⟨pe0, pe1⟩⟩ := hg
  have v1 : 0 ≤ 4 * p * d / r := Int.ediv_nonneg pe0 (by omega)
  have v2 : 0 ≤ p * d / (2 * r) := Int.ediv_nonneg pd0 (by omega)
  have v3 : 0 ≤ p * d / 4 := Int.ediv_nonneg pd0 (by omega)
  have key : ∀ (k q b e : Int) (x : Bool) (c : Int), pok k q b e x c = true → (x = true → k ≠ 5 ∧ k ≠ 3) → fine (k, q, b, e, x, c) := fun k q b e x c h1 h2 => ⟨by simp only [chk, h1, if_true], h2⟩
  intro i z hz
  unfold part at hz
  split at hz
  · rw [List.mem_singleton] at hz; subst hz; refine key _ _ _ _ _ _ ?_ (by simp); simp [pok]; omega
  · rw [List.mem_singleton] at hz; subst hz; refine key _ _ _ _ _ _ ?_ (by simp); simp [pok]; omega
  · split at hz
    · rw [List.mem_singleton] at hz; subst hz; refine key _ _ _ _ _ _ ?_ (by simp); simp [pok]; omega
    · cases hz
  · rw [List.mem_singleton] at hz; subst hz; refine key _ _ _ _ _ _ ?_ (by simp); simp [pok]; omega
  · split at hz
    · rw [List.mem_singleton] at hz; subst hz; refine key _ _ _ _ _ _ ?_ (by simp); simp [pok]; omega
    · cases hz
  · split at hz
    · rw [List.mem_singleton] at hz; subst hz; refine key _ _ _ _ _ _ ?_ (by simp); simp [pok]; omega
    · cases hz
  · split at hz
    · rw [List.mem_singleton] at hz; subst hz; refine key _ _ _ _ _ _ ?_ (by simp); simp [pok]; omega
    · cases hz
  · cases hz
theorem pre_fine {n p d r : Int} (l2 cn : Bool) (hg : Good n p d r) : ∀ i, ∀ z ∈ pre n p d r l2 cn i, fine z
  | 0, z, h => by cases h
  | i + 1, z, h => by
    simp only [pre, List.mem_append] at h
    rcases h with h | h
    · exact pre_fine l2 cn hg i z h
    · exact part_fine l2 cn hg i z h
theorem pre_first (n p d r : Int) (l2 cn : Bool) : ∀ i, 0 < i → (pre n p d r l2 cn i)[0]? = some (1, 0, 0, 0, true, n + p * d)
  | 1, _ => rfl
  | i + 2, _ => by
    have h := pre_first n p d r l2 cn (i + 1) (by omega)
    show (pre n p d r l2 cn (i + 1) ++ part n p d r l2 cn (i + 1))[0]? = _
    rw [List.getElem?_append_left (List.getElem?_eq_some_iff.1 h).1, h]
set_option maxHeartbeats 8000000 in
theorem exact_walk (c ps dm : Int) (l2 cn : Bool) (L : List Pl) (q : Int) (hL7 : L.length ≤ 7) (h0 : L[0]? = some (1, 0, 0, 0, true, q)) (hfine : ∀ z ∈ L, fine z)
    (hen : Spec Try.prog 11 [.agg [.t (.int .i64 c), .t (.int .i64 ps), .t (.bool l2), .t (.bool cn), .t (.int .i64 dm)]] [] [.v (.t (.sl 6 (prows L)))] []) :
    Spec Try.prog 5 [.agg [.t (.int .i64 c), .t (.int .i64 ps), .t (.bool l2), .t (.bool cn), .t (.int .i64 dm)]] [] [.v (.t (.bool true))] [] := by
  have hlen := (List.getElem?_eq_some_iff.1 h0).1
  have hg0 : L.getD 0 z0 = (1, 0, 0, 0, true, q) := by rw [List.getD_eq_getElem?_getD, h0]; rfl
  obtain ⟨a1, a2, a3⟩ := chosen_is (ex := true) (l := L) (j := 0) (by rw [hg0]; rfl) hlen
  obtain ⟨c1, c2, c3⟩ := chosen_is (ex := false) (l := L) (j := 0) (by rw [hg0]; rfl) hlen
  have hab := c3
  have hca := choose_spec L true (by omega)
  have hcb := choose_spec L false (by omega)
  rw [a1] at hca
  rw [c1] at hcb
  have hle : (chosen false L).2.2.2.2.2 ≤ (chosen true L).2.2.2.2.2 := by
    have h := bestI_some (ex := true) (l := L) (j := 0) (by rw [hg0]; rfl) L.length hlen
    cases hb : bestI true L L.length with
    | none => rw [hb] at h; cases h
    | some b =>
      have e : chosen true L = L.getD b z0 := by simp only [chosen, bestP, hb]
      rw [e]
      exact c3 b (bestI_lt _ _ _ _ hb) (by simp [okp])
  obtain ⟨⟨u1, u2, u3, u4, u5, u6⟩, hu⟩ : ∃ z, chosen true L = z := ⟨_, rfl⟩
  obtain ⟨⟨v1, v2, v3, v4, v5, v6⟩, hv⟩ : ∃ z, chosen false L = z := ⟨_, rfl⟩
  rw [hu] at a2 a3 hle hca
  rw [hv] at c2 c3 hle hcb
  obtain rfl : u5 = true := by simpa [okp] using a2
  simp only at hle a3 c3
  have g1 := ff (show ¬ (v6 > u6) by omega)
  have g2 := ff (show ¬ ((L.length : Int) = 0) by omega)
  refine spec_by Try.func5 rfl mixed tOk evOk (n := 124) rfl (by simp) (by simp) ?_
  rw [initSt_mk, show Try.f5.results.toList = [.tmp 2] from rfl]
  simp only [initL, AV.sv, List.map_cons, List.map_nil, Nat.reduceAdd, Nat.zero_add]
  repeat' (first
   | (with_reducible first | refine s_seq ?_ | refine s_block ?_ | refine s_region fun kr hr => ?_)
   | (with_reducible refine s_text tOk [1, 5, 7, 1000, 1001, 1002, 1003] (by kernel_rfl) (by simp [HeapIn, namers, namerDst, namerOp, Blk.has, hasRows, hasL, CV.has, hasRows_up, hasRows_append, g2, h0, prows_len, prows_get, prow_eq]) fun kr hr => ?_)
   | (with_reducible first | refine s_op fun K' hk => ?_ | refine t_op fun K' hk => ?_ | (refine hk _ ?_; clear hk K') | (refine ht _ ?_; clear ht hf KT KF) | (refine hf _ ?_; clear ht hf KT KF) | ((first | refine s_nil ?_ | refine t_nil ?_); refine hr _ ?_; clear hr kr))
   | ((with_reducible refine n_seqK [0, 1, 2, 3, 4, 5, 6, 7, 8, 9, 13, 14, 16, 23, 25, 28, 30, 31, 32, 63, 91, 95, 122] [1, 5, 7] ?_); simp only [mk_keep, keepL, List.mem_cons, List.not_mem_nil, Nat.reduceEqDiff, Nat.zero_ne_one, Nat.one_ne_zero, reduceCtorEq, or_false, false_or, or_true, true_or, or_self, eq_self, ↓reduceIte])
   | (with_reducible first | refine s_cond fun KT KF ht hf => ?_ | refine s_skip ?_)
   | ((with_reducible refine s_long ?_); simp only [List.cons_append, List.nil_append])
   | (with_reducible first | refine s_exit ?_ | refine s_ret ?_ | refine e_seq ?_ | refine r_seq ?_ | refine n_block ?_ | refine e_block ?_ | refine r_block ?_ | refine e_loop ?_ | refine r_loop ?_ | refine e_round ?_ | refine r_round ?_ | refine s_round ?_ | refine f_block ?_ (by decide) | refine r_res ?_ | refine n_res ?_)
   | simp only [go_sem, Int.reduceToNat, ↓reduceIte, reduceCtorEq, Nat.reduceEqDiff, Nat.reduceAdd, Nat.reduceMul, Nat.reduceLT, Nat.reduceLeDiff, Nat.reduceBEq, Int.reduceBEq, Int.reduceBNe, Int.reduceEq, Int.reduceLT, Int.reduceLE, Int.reduceGE, Int.reduceGT, g2, h0, prows_len, prows_get, prow_eq, callE, resSV, AV.flat, CV.flat, TV.flat, hAll]
   | refine Or.inl ⟨_, ⟨fun _ _ => rfl, hen⟩, ?_⟩
   | refine ⟨_, ⟨fun _ _ => rfl, hen⟩, ?_⟩
   | fail)
  refine w_loop [1, 2, 3, 4] [1] (σ := Nat) (fun i st => st = mk [(1, .c (.mp 1 0 0)), (2, B false), (3, V (.sl 6 (prows L))), (4, I i)] [(1, .cells 5 [[.t (.int .i64 c), .t (.int .i64 ps), .t (.bool l2), .t (.bool cn), .t (.int .i64 dm)]])] ∧ i ≤ L.length) (fun i => L.length - i) 0 ?_ ?_
  · simp only [mk_keep, keepL, List.mem_cons, List.not_mem_nil, Nat.reduceEqDiff, Nat.zero_ne_one, Nat.one_ne_zero, reduceCtorEq, or_false, false_or, or_true, true_or, or_self, eq_self, ↓reduceIte]
    exact ⟨rfl, Nat.zero_le _⟩
  · rintro i st' ⟨rfl, hi⟩
    by_cases hlt : i < L.length
    · have f1 := ltI hlt
      have f2 := get_of_lt hlt
      have f3 := wUp hlt (by omega)
      have hf := hfine _ (List.getElem_mem hlt)
      obtain ⟨⟨q1, q2, q3, q4, q5, q6⟩, hz⟩ : ∃ z, L[i] = z := ⟨_, rfl⟩
      rw [hz] at f2 hf
      obtain ⟨hf1, hf2⟩ := hf
      simp only at hf1 hf2
      have hck := check_spec q1 q2 q3 q4 q5 q6
      rw [hf1] at hck
      cases q5 with
      | true =>
        have k5 := ff (hf2 rfl).1
        have k3 := ff (hf2 rfl).2
        repeat' (first
         | (with_reducible first | refine s_seq ?_ | refine s_block ?_ | refine s_region fun kr hr => ?_)
         | (with_reducible refine s_text tOk [1, 5, 7, 1000, 1001, 1002, 1003] (by kernel_rfl) (by simp [HeapIn, namers, namerDst, namerOp, Blk.has, hasRows, hasL, CV.has, hasRows_up, hasRows_append, f1, f2, f3, k5, k3, prows_get, prows_len, prow_eq]) fun kr hr => ?_)
         | (with_reducible first | refine s_op fun K' hk => ?_ | refine t_op fun K' hk => ?_ | (refine hk _ ?_; clear hk K') | (refine ht _ ?_; clear ht hf KT KF) | (refine hf _ ?_; clear ht hf KT KF) | ((first | refine s_nil ?_ | refine t_nil ?_); refine hr _ ?_; clear hr kr))
         | ((with_reducible refine n_seqK [0, 1, 2, 3, 4, 5, 6, 7, 8, 9, 13, 14, 16, 23, 25, 28, 30, 31, 32, 63, 91, 95, 122] [1, 5, 7] ?_); simp only [mk_keep, keepL, List.mem_cons, List.not_mem_nil, Nat.reduceEqDiff, Nat.zero_ne_one, Nat.one_ne_zero, reduceCtorEq, or_false, false_or, or_true, true_or, or_self, eq_self, ↓reduceIte])
         | (with_reducible first | refine s_cond fun KT KF ht hf => ?_ | refine s_skip ?_)
         | ((with_reducible refine s_long ?_); simp only [List.cons_append, List.nil_append])
         | (with_reducible first | refine s_exit ?_ | refine s_ret ?_ | refine e_seq ?_ | refine r_seq ?_ | refine n_block ?_ | refine e_block ?_ | refine r_block ?_ | refine e_loop ?_ | refine r_loop ?_ | refine e_round ?_ | refine r_round ?_ | refine s_round ?_ | refine f_block ?_ (by decide) | refine r_res ?_ | refine n_res ?_)
         | (simp only [hgb, go_sem, Int.reduceToNat, ↓reduceIte, reduceCtorEq, Nat.reduceEqDiff, Nat.reduceAdd, Nat.reduceMul, Nat.reduceLT, Nat.reduceLeDiff, Nat.reduceBEq, Int.reduceBEq, Int.reduceBNe, Int.reduceEq, Int.reduceLT, Int.reduceLE, Int.reduceGE, Int.reduceGT, f1, f2, f3, k5, k3, prows_get, prows_len, prow_eq, callE, resSV, AV.flat, CV.flat, TV.flat]; clear hgb)
         | simp only [go_sem, Int.reduceToNat, ↓reduceIte, reduceCtorEq, Nat.reduceEqDiff, Nat.reduceAdd, Nat.reduceMul, Nat.reduceLT, Nat.reduceLeDiff, Nat.reduceBEq, Int.reduceBEq, Int.reduceBNe, Int.reduceEq, Int.reduceLT, Int.reduceLE, Int.reduceGE, Int.reduceGT, f1, f2, f3, k5, k3, prows_get, prows_len, prow_eq, callE, resSV, AV.flat, CV.flat, TV.flat, hAll]
         | refine Or.inl ⟨_, ⟨fun _ _ => rfl, hck⟩, ?_⟩
         | refine ⟨_, ⟨fun _ _ => rfl, hck⟩, ?_⟩
         | (refine ite_guard (fun hg => ?_) (fun hg => ?_) <;> (try simp only [Bool.not_eq_true, Bool.not_eq_false, Decidable.not_not] at hg) <;> (first | have hgb : (_ : Bool) = _ := hg | have hgb := ff hg | have hgb := tt hg))
         | (refine ⟨fun hc => ht _ ?_, fun hc => hf _ ?_⟩ <;> clear ht hf KT KF)
         | fail)
        refine n_loop (i + 1) [1, 2, 3, 4] [1] ⟨?_, hlt⟩ (by omega)
        simp only [mk_keep, keepL, List.mem_cons, List.not_mem_nil, Nat.reduceEqDiff, Nat.zero_ne_one, Nat.one_ne_zero, reduceCtorEq, or_false, false_or, or_true, true_or, or_self, eq_self, ↓reduceIte]
      | false =>
        repeat' (first
         | (with_reducible first | refine s_seq ?_ | refine s_block ?_ | refine s_region fun kr hr => ?_)
         | (with_reducible refine s_text tOk [1, 5, 7, 1000, 1001, 1002, 1003] (by kernel_rfl) (by simp [HeapIn, namers, namerDst, namerOp, Blk.has, hasRows, hasL, CV.has, hasRows_up, hasRows_append, f1, f2, f3, prows_get, prows_len, prow_eq]) fun kr hr => ?_)
         | (with_reducible first | refine s_op fun K' hk => ?_ | refine t_op fun K' hk => ?_ | (refine hk _ ?_; clear hk K') | (refine ht _ ?_; clear ht hf KT KF) | (refine hf _ ?_; clear ht hf KT KF) | ((first | refine s_nil ?_ | refine t_nil ?_); refine hr _ ?_; clear hr kr))
         | ((with_reducible refine n_seqK [0, 1, 2, 3, 4, 5, 6, 7, 8, 9, 13, 14, 16, 23, 25, 28, 30, 31, 32, 63, 91, 95, 122] [1, 5, 7] ?_); simp only [mk_keep, keepL, List.mem_cons, List.not_mem_nil, Nat.reduceEqDiff, Nat.zero_ne_one, Nat.one_ne_zero, reduceCtorEq, or_false, false_or, or_true, true_or, or_self, eq_self, ↓reduceIte])
         | (with_reducible first | refine s_cond fun KT KF ht hf => ?_ | refine s_skip ?_)
         | ((with_reducible refine s_long ?_); simp only [List.cons_append, List.nil_append])
         | (with_reducible first | refine s_exit ?_ | refine s_ret ?_ | refine e_seq ?_ | refine r_seq ?_ | refine n_block ?_ | refine e_block ?_ | refine r_block ?_ | refine e_loop ?_ | refine r_loop ?_ | refine e_round ?_ | refine r_round ?_ | refine s_round ?_ | refine f_block ?_ (by decide) | refine r_res ?_ | refine n_res ?_)
         | (simp only [hgb, go_sem, Int.reduceToNat, ↓reduceIte, reduceCtorEq, Nat.reduceEqDiff, Nat.reduceAdd, Nat.reduceMul, Nat.reduceLT, Nat.reduceLeDiff, Nat.reduceBEq, Int.reduceBEq, Int.reduceBNe, Int.reduceEq, Int.reduceLT, Int.reduceLE, Int.reduceGE, Int.reduceGT, f1, f2, f3, prows_get, prows_len, prow_eq, callE, resSV, AV.flat, CV.flat, TV.flat]; clear hgb)
         | simp only [go_sem, Int.reduceToNat, ↓reduceIte, reduceCtorEq, Nat.reduceEqDiff, Nat.reduceAdd, Nat.reduceMul, Nat.reduceLT, Nat.reduceLeDiff, Nat.reduceBEq, Int.reduceBEq, Int.reduceBNe, Int.reduceEq, Int.reduceLT, Int.reduceLE, Int.reduceGE, Int.reduceGT, f1, f2, f3, prows_get, prows_len, prow_eq, callE, resSV, AV.flat, CV.flat, TV.flat, hAll]
         | refine Or.inl ⟨_, ⟨fun _ _ => rfl, hck⟩, ?_⟩
         | refine ⟨_, ⟨fun _ _ => rfl, hck⟩, ?_⟩
         | (refine ite_guard (fun hg => ?_) (fun hg => ?_) <;> (try simp only [Bool.not_eq_true, Bool.not_eq_false, Decidable.not_not] at hg) <;> (first | have hgb : (_ : Bool) = _ := hg | have hgb := ff hg | have hgb := tt hg))
         | (refine ⟨fun hc => ht _ ?_, fun hc => hf _ ?_⟩ <;> clear ht hf KT KF)
         | fail)
        refine n_loop (i + 1) [1, 2, 3, 4] [1] ⟨?_, hlt⟩ (by omega)
        simp only [mk_keep, keepL, List.mem_cons, List.not_mem_nil, Nat.reduceEqDiff, Nat.zero_ne_one, Nat.one_ne_zero, reduceCtorEq, or_false, false_or, or_true, true_or, or_self, eq_self, ↓reduceIte]
    · have f1 := nltI hlt
      repeat' (first
       | (with_reducible first | refine s_seq ?_ | refine s_block ?_ | refine s_region fun kr hr => ?_)
       | (with_reducible refine s_text tOk [1, 5, 7, 1000, 1001, 1002, 1003] (by kernel_rfl) (by simp [HeapIn, namers, namerDst, namerOp, Blk.has, hasRows, hasL, CV.has, hasRows_up, hasRows_append, f1, g1, prows_len, pcells_eq]) fun kr hr => ?_)
       | (with_reducible first | refine s_op fun K' hk => ?_ | refine t_op fun K' hk => ?_ | (refine hk _ ?_; clear hk K') | (refine ht _ ?_; clear ht hf KT KF) | (refine hf _ ?_; clear ht hf KT KF) | ((first | refine s_nil ?_ | refine t_nil ?_); refine hr _ ?_; clear hr kr))
       | ((with_reducible refine n_seqK [0, 1, 2, 3, 4, 5, 6, 7, 8, 9, 13, 14, 16, 23, 25, 28, 30, 31, 32, 63, 91, 95, 122] [1, 5, 7] ?_); simp only [mk_keep, keepL, List.mem_cons, List.not_mem_nil, Nat.reduceEqDiff, Nat.zero_ne_one, Nat.one_ne_zero, reduceCtorEq, or_false, false_or, or_true, true_or, or_self, eq_self, ↓reduceIte])
       | (with_reducible first | refine s_cond fun KT KF ht hf => ?_ | refine s_skip ?_)
       | ((with_reducible refine s_long ?_); simp only [List.cons_append, List.nil_append])
       | (with_reducible first | refine s_exit ?_ | refine s_ret ?_ | refine e_seq ?_ | refine r_seq ?_ | refine n_block ?_ | refine e_block ?_ | refine r_block ?_ | refine e_loop ?_ | refine r_loop ?_ | refine e_round ?_ | refine r_round ?_ | refine s_round ?_ | refine f_block ?_ (by decide) | refine r_res ?_ | refine n_res ?_)
       | simp only [go_sem, Int.reduceToNat, ↓reduceIte, reduceCtorEq, Nat.reduceEqDiff, Nat.reduceAdd, Nat.reduceMul, Nat.reduceLT, Nat.reduceLeDiff, Nat.reduceBEq, Int.reduceBEq, Int.reduceBNe, Int.reduceEq, Int.reduceLT, Int.reduceLE, Int.reduceGE, Int.reduceGT, f1, g1, prows_len, pcells_eq, callE, resSV, AV.flat, CV.flat, TV.flat, hAll]
       | refine Or.inl ⟨_, ⟨fun _ _ => rfl, hca⟩, ?_⟩
       | refine ⟨_, ⟨fun _ _ => rfl, hca⟩, ?_⟩
       | refine Or.inl ⟨_, ⟨fun _ _ => rfl, hcb⟩, ?_⟩
       | refine ⟨_, ⟨fun _ _ => rfl, hcb⟩, ?_⟩
       | fail)
      refine w_loop [2, 3, 5, 7, 9] [5, 7] (σ := Nat) (fun i st => st = mk [(2, B false), (3, V (.sl 6 (prows L))), (5, .c (.mp 5 0 0)), (7, .c (.mp 7 0 0)), (9, I i)] [(5, .cells 6 [[.t (.int .i64 u1), .t (.int .i64 u2), .t (.int .i64 u3), .t (.int .i64 u4), .t (.bool true), .t (.int .i64 u6)]]), (7, .cells 6 [[.t (.int .i64 v1), .t (.int .i64 v2), .t (.int .i64 v3), .t (.int .i64 v4), .t (.bool v5), .t (.int .i64 v6)]])] ∧ i ≤ L.length) (fun i => L.length - i) 0 ?_ ?_
      · simp only [mk_keep, keepL, List.mem_cons, List.not_mem_nil, Nat.reduceEqDiff, Nat.zero_ne_one, Nat.one_ne_zero, reduceCtorEq, or_false, false_or, or_true, true_or, or_self, eq_self, ↓reduceIte]
        exact ⟨rfl, Nat.zero_le _⟩
      · rintro i st' ⟨rfl, hi⟩
        by_cases hlt : i < L.length
        · have f1 := ltI hlt
          have f2 := get_of_lt hlt
          have f3 := wUp hlt (by omega)
          have hgi : L.getD i z0 = L[i] := by simp [hlt]
          have m1 := c3 i hlt (by simp [okp])
          have m2 := a3 i hlt
          obtain ⟨⟨q1, q2, q3, q4, q5, q6⟩, hz⟩ : ∃ z, L[i] = z := ⟨_, rfl⟩
          rw [hgi, hz] at m1 m2
          rw [hz] at f2
          simp only [okp] at m1 m2
          have k1 := ff (show ¬ (q6 < v6) by omega)
          cases q5 with
          | true =>
            have k2 := ff (show ¬ (q6 < u6) by have := m2 rfl; omega)
            repeat' (first
             | (with_reducible first | refine s_seq ?_ | refine s_block ?_ | refine s_region fun kr hr => ?_)
             | (with_reducible refine s_text tOk [1, 5, 7, 1000, 1001, 1002, 1003] (by kernel_rfl) (by simp [HeapIn, namers, namerDst, namerOp, Blk.has, hasRows, hasL, CV.has, hasRows_up, hasRows_append, f1, f2, f3, k1, k2, prows_get, prows_len, prow_eq]) fun kr hr => ?_)
             | (with_reducible first | refine s_op fun K' hk => ?_ | refine t_op fun K' hk => ?_ | (refine hk _ ?_; clear hk K') | (refine ht _ ?_; clear ht hf KT KF) | (refine hf _ ?_; clear ht hf KT KF) | ((first | refine s_nil ?_ | refine t_nil ?_); refine hr _ ?_; clear hr kr))
             | ((with_reducible refine n_seqK [0, 1, 2, 3, 4, 5, 6, 7, 8, 9, 13, 14, 16, 23, 25, 28, 30, 31, 32, 63, 91, 95, 122] [1, 5, 7] ?_); simp only [mk_keep, keepL, List.mem_cons, List.not_mem_nil, Nat.reduceEqDiff, Nat.zero_ne_one, Nat.one_ne_zero, reduceCtorEq, or_false, false_or, or_true, true_or, or_self, eq_self, ↓reduceIte])
             | (with_reducible first | refine s_cond fun KT KF ht hf => ?_ | refine s_skip ?_)
             | ((with_reducible refine s_long ?_); simp only [List.cons_append, List.nil_append])
             | (with_reducible first | refine s_exit ?_ | refine s_ret ?_ | refine e_seq ?_ | refine r_seq ?_ | refine n_block ?_ | refine e_block ?_ | refine r_block ?_ | refine e_loop ?_ | refine r_loop ?_ | refine e_round ?_ | refine r_round ?_ | refine s_round ?_ | refine f_block ?_ (by decide) | refine r_res ?_ | refine n_res ?_)
             | (simp only [hgb, go_sem, Int.reduceToNat, ↓reduceIte, reduceCtorEq, Nat.reduceEqDiff, Nat.reduceAdd, Nat.reduceMul, Nat.reduceLT, Nat.reduceLeDiff, Nat.reduceBEq, Int.reduceBEq, Int.reduceBNe, Int.reduceEq, Int.reduceLT, Int.reduceLE, Int.reduceGE, Int.reduceGT, f1, f2, f3, k1, k2, prows_get, prows_len, prow_eq]; clear hgb)
             | simp only [go_sem, Int.reduceToNat, ↓reduceIte, reduceCtorEq, Nat.reduceEqDiff, Nat.reduceAdd, Nat.reduceMul, Nat.reduceLT, Nat.reduceLeDiff, Nat.reduceBEq, Int.reduceBEq, Int.reduceBNe, Int.reduceEq, Int.reduceLT, Int.reduceLE, Int.reduceGE, Int.reduceGT, f1, f2, f3, k1, k2, prows_get, prows_len, prow_eq, hAll]
             | (refine ite_guard (fun hg => ?_) (fun hg => ?_) <;> (try simp only [Bool.not_eq_true, Bool.not_eq_false, Decidable.not_not] at hg) <;> (first | have hgb : (_ : Bool) = _ := hg | have hgb := ff hg | have hgb := tt hg))
             | (refine ⟨fun hc => ht _ ?_, fun hc => hf _ ?_⟩ <;> clear ht hf KT KF)
             | fail)
            refine n_loop (i + 1) [2, 3, 5, 7, 9] [5, 7] ⟨?_, hlt⟩ (by omega)
            simp only [mk_keep, keepL, List.mem_cons, List.not_mem_nil, Nat.reduceEqDiff, Nat.zero_ne_one, Nat.one_ne_zero, reduceCtorEq, or_false, false_or, or_true, true_or, or_self, eq_self, ↓reduceIte]
          | false =>
            repeat' (first
             | (with_reducible first | refine s_seq ?_ | refine s_block ?_ | refine s_region fun kr hr => ?_)
             | (with_reducible refine s_text tOk [1, 5, 7, 1000, 1001, 1002, 1003] (by kernel_rfl) (by simp [HeapIn, namers, namerDst, namerOp, Blk.has, hasRows, hasL, CV.has, hasRows_up, hasRows_append, f1, f2, f3, k1, prows_get, prows_len, prow_eq]) fun kr hr => ?_)
             | (with_reducible first | refine s_op fun K' hk => ?_ | refine t_op fun K' hk => ?_ | (refine hk _ ?_; clear hk K') | (refine ht _ ?_; clear ht hf KT KF) | (refine hf _ ?_; clear ht hf KT KF) | ((first | refine s_nil ?_ | refine t_nil ?_); refine hr _ ?_; clear hr kr))
             | ((with_reducible refine n_seqK [0, 1, 2, 3, 4, 5, 6, 7, 8, 9, 13, 14, 16, 23, 25, 28, 30, 31, 32, 63, 91, 95, 122] [1, 5, 7] ?_); simp only [mk_keep, keepL, List.mem_cons, List.not_mem_nil, Nat.reduceEqDiff, Nat.zero_ne_one, Nat.one_ne_zero, reduceCtorEq, or_false, false_or, or_true, true_or, or_self, eq_self, ↓reduceIte])
             | (with_reducible first | refine s_cond fun KT KF ht hf => ?_ | refine s_skip ?_)
             | ((with_reducible refine s_long ?_); simp only [List.cons_append, List.nil_append])
             | (with_reducible first | refine s_exit ?_ | refine s_ret ?_ | refine e_seq ?_ | refine r_seq ?_ | refine n_block ?_ | refine e_block ?_ | refine r_block ?_ | refine e_loop ?_ | refine r_loop ?_ | refine e_round ?_ | refine r_round ?_ | refine s_round ?_ | refine f_block ?_ (by decide) | refine r_res ?_ | refine n_res ?_)
             | (simp only [hgb, go_sem, Int.reduceToNat, ↓reduceIte, reduceCtorEq, Nat.reduceEqDiff, Nat.reduceAdd, Nat.reduceMul, Nat.reduceLT, Nat.reduceLeDiff, Nat.reduceBEq, Int.reduceBEq, Int.reduceBNe, Int.reduceEq, Int.reduceLT, Int.reduceLE, Int.reduceGE, Int.reduceGT, f1, f2, f3, k1, prows_get, prows_len, prow_eq]; clear hgb)
             | simp only [go_sem, Int.reduceToNat, ↓reduceIte, reduceCtorEq, Nat.reduceEqDiff, Nat.reduceAdd, Nat.reduceMul, Nat.reduceLT, Nat.reduceLeDiff, Nat.reduceBEq, Int.reduceBEq, Int.reduceBNe, Int.reduceEq, Int.reduceLT, Int.reduceLE, Int.reduceGE, Int.reduceGT, f1, f2, f3, k1, prows_get, prows_len, prow_eq, hAll]
             | (refine ite_guard (fun hg => ?_) (fun hg => ?_) <;> (try simp only [Bool.not_eq_true, Bool.not_eq_false, Decidable.not_not] at hg) <;> (first | have hgb : (_ : Bool) = _ := hg | have hgb := ff hg | have hgb := tt hg))
             | (refine ⟨fun hc => ht _ ?_, fun hc => hf _ ?_⟩ <;> clear ht hf KT KF)
             | fail)
            refine n_loop (i + 1) [2, 3, 5, 7, 9] [5, 7] ⟨?_, hlt⟩ (by omega)
            simp only [mk_keep, keepL, List.mem_cons, List.not_mem_nil, Nat.reduceEqDiff, Nat.zero_ne_one, Nat.one_ne_zero, reduceCtorEq, or_false, false_or, or_true, true_or, or_self, eq_self, ↓reduceIte]
        · have f1 := nltI hlt
          repeat' (first
           | (with_reducible first | refine s_seq ?_ | refine s_block ?_ | refine s_region fun kr hr => ?_)
           | (with_reducible refine s_text tOk [1, 5, 7, 1000, 1001, 1002, 1003] (by kernel_rfl) (by simp [HeapIn, namers, namerDst, namerOp, Blk.has, hasRows, hasL, CV.has, hasRows_up, hasRows_append, f1, prows_len]) fun kr hr => ?_)
           | (with_reducible first | refine s_op fun K' hk => ?_ | refine t_op fun K' hk => ?_ | (refine hk _ ?_; clear hk K') | (refine ht _ ?_; clear ht hf KT KF) | (refine hf _ ?_; clear ht hf KT KF) | ((first | refine s_nil ?_ | refine t_nil ?_); refine hr _ ?_; clear hr kr))
           | ((with_reducible refine n_seqK [0, 1, 2, 3, 4, 5, 6, 7, 8, 9, 13, 14, 16, 23, 25, 28, 30, 31, 32, 63, 91, 95, 122] [1, 5, 7] ?_); simp only [mk_keep, keepL, List.mem_cons, List.not_mem_nil, Nat.reduceEqDiff, Nat.zero_ne_one, Nat.one_ne_zero, reduceCtorEq, or_false, false_or, or_true, true_or, or_self, eq_self, ↓reduceIte])
           | (with_reducible first | refine s_cond fun KT KF ht hf => ?_ | refine s_skip ?_)
           | ((with_reducible refine s_long ?_); simp only [List.cons_append, List.nil_append])
           | (with_reducible first | refine s_exit ?_ | refine s_ret ?_ | refine e_seq ?_ | refine r_seq ?_ | refine n_block ?_ | refine e_block ?_ | refine r_block ?_ | refine e_loop ?_ | refine r_loop ?_ | refine e_round ?_ | refine r_round ?_ | refine s_round ?_ | refine f_block ?_ (by decide) | refine r_res ?_ | refine n_res ?_)
           | (simp only [hgb, go_sem, Int.reduceToNat, ↓reduceIte, reduceCtorEq, Nat.reduceEqDiff, Nat.reduceAdd, Nat.reduceMul, Nat.reduceLT, Nat.reduceLeDiff, Nat.reduceBEq, Int.reduceBEq, Int.reduceBNe, Int.reduceEq, Int.reduceLT, Int.reduceLE, Int.reduceGE, Int.reduceGT, f1, prows_len, callE, resSV, AV.flat, CV.flat, TV.flat]; clear hgb)
           | simp only [go_sem, Int.reduceToNat, ↓reduceIte, reduceCtorEq, Nat.reduceEqDiff, Nat.reduceAdd, Nat.reduceMul, Nat.reduceLT, Nat.reduceLeDiff, Nat.reduceBEq, Int.reduceBEq, Int.reduceBNe, Int.reduceEq, Int.reduceLT, Int.reduceLE, Int.reduceGE, Int.reduceGT, f1, prows_len, callE, resSV, AV.flat, CV.flat, TV.flat, hAll]
           | refine Or.inl ⟨_, ⟨fun _ _ => rfl, sure24_spec⟩, ?_⟩
           | refine ⟨_, ⟨fun _ _ => rfl, sure24_spec⟩, ?_⟩
           | (refine ite_guard (fun hg => ?_) (fun hg => ?_) <;> (try simp only [Bool.not_eq_true, Bool.not_eq_false, Decidable.not_not] at hg) <;> (first | have hgb : (_ : Bool) = _ := hg | have hgb := ff hg | have hgb := tt hg))
           | (refine ⟨fun hc => ht _ ?_, fun hc => hf _ ?_⟩ <;> clear ht hf KT KF)
           | fail)
theorem plansExact_spec (c ps dm : Int) (l2 cn : Bool) : Spec Try.prog 5 [.agg [.t (.int .i64 c), .t (.int .i64 ps), .t (.bool l2), .t (.bool cn), .t (.int .i64 dm)]] [] [.v (.t (.bool true))] [] := by
  obtain ⟨n, hn⟩ : ∃ n, (if (4503599627370496 : Int) < (if (0 : Int) > c then 0 else c) then 4503599627370496 else (if (0 : Int) > c then 0 else c)) = n := ⟨_, rfl⟩
  obtain ⟨p, hp⟩ : ∃ p, (if n < (if (0 : Int) > ps then 0 else ps) then n else (if (0 : Int) > ps then 0 else ps)) = p := ⟨_, rfl⟩
  obtain ⟨d, hd⟩ : ∃ d, (if (64 : Int) < (if (1 : Int) > dm then 1 else dm) then 64 else (if (1 : Int) > dm then 1 else dm)) = d := ⟨_, rfl⟩
  obtain ⟨s, hs⟩ := Root.ex n
  obtain ⟨r, hr⟩ : ∃ r, (if (1 : Int) > s then 1 else s) = r := ⟨_, rfl⟩
  have n1 : 0 ≤ n ∧ n ≤ 4503599627370496 := by rw [← hn]; constructor <;> (repeat' split) <;> omega
  have p1 : 0 ≤ p ∧ p ≤ n := by rw [← hp]; constructor <;> (repeat' split) <;> omega
  have d1 : 1 ≤ d ∧ d ≤ 64 := by rw [← hd]; constructor <;> (repeat' split) <;> omega
  have s1 := hs.le n1.1
  have r1 : 1 ≤ r ∧ r ≤ 4503599627370496 := by rw [← hr]; constructor <;> (repeat' split) <;> omega
  have hg := Good.mk' n1 p1 d1 r1
  exact exact_walk c ps dm l2 cn (pre n p d r l2 cn 7) (n + p * d) (pre_le _ _ _ _ _ _ _) (pre_first _ _ _ _ _ _ 7 (by omega)) (pre_fine l2 cn hg 7) (enum_spec c ps dm n p d s r l2 cn hn hp hd hr hs hg)
end Go.Proofs.Yteoddaeipckgcaa.Fx
