/- The root of a number, downwards. -/
import Derived.Test.YteoddaeipckgcaaFxFold
import Derived.Test.YteoddaeipckgcaaQMath
namespace Go.Proofs.Yteoddaeipckgcaa.Fx
open Go Go.RowKit Go.Proofs.Yteoddaeipckgcaa.Q
set_option maxRecDepth 100000
set_option linter.unusedSimpArgs false
set_option linter.unusedVariables false
/-- The root downwards, none below one. -/
def Root (n s : Int) : Prop := (n < 1 ∧ s = 0) ∨ (1 ≤ n ∧ IsRoot n s)
theorem root_ex : ∀ m : Nat, ∃ s : Int, IsRoot m s
  | 0 => ⟨0, by simp [IsRoot]⟩
  | m + 1 => by
    obtain ⟨s, h0, h1, h2⟩ := root_ex m
    by_cases h : ((m + 1 : Nat) : Int) < (s + 1) * (s + 1)
    · exact ⟨s, h0, by omega, h⟩
    · refine ⟨s + 1, by omega, by omega, ?_⟩
      have e : (s + 1 + 1) * (s + 1 + 1) = (s + 1) * (s + 1) + 2 * (s + 1) + 1 := by
        rw [Int.mul_add, Int.add_mul]; omega
      omega
theorem Root.ex (n : Int) : ∃ s, Root n s := by
  by_cases h : n < 1
  · exact ⟨0, .inl ⟨h, rfl⟩⟩
  · obtain ⟨s, hs⟩ := root_ex n.toNat
    rw [Int.toNat_of_nonneg (by omega)] at hs
    exact ⟨s, .inr ⟨by omega, hs⟩⟩
theorem Root.le {n s : Int} (h : Root n s) (hn : 0 ≤ n) : 0 ≤ s ∧ s ≤ n := by
  rcases h with ⟨h1, rfl⟩ | ⟨h1, h2, h3, _⟩
  · omega
  · refine ⟨h2, ?_⟩
    by_cases e : s = 0
    · omega
    · have : s * 1 ≤ s * s := Int.mul_le_mul_of_nonneg_left (by omega) h2
      omega
theorem isqrt_spec (n s : Int) (h2 : n ≤ 9223372036854775807) (hs : Root n s) : Spec Try.prog 28 [.v (.t (.int .i64 n))] [] [.v (.t (.int .i64 s))] [] := by
  refine spec_by Try.func28 rfl mixed tOk evOk (n := 22) rfl (by simp) (by simp) ?_
  rw [initSt_mk, show Try.f28.results.toList = [.tmp 2] from rfl]
  simp only [initL, AV.sv, List.map_cons, List.map_nil, Nat.reduceAdd, Nat.zero_add]
  rcases hs with ⟨h1, rfl⟩ | ⟨h1, hrt⟩
  · have f1 := tt (show n < 1 from h1)
    repeat' (first
     | (with_reducible first | refine s_seq ?_ | refine s_block ?_ | refine s_region fun kr hr => ?_)
     | (with_reducible refine s_text tOk [1000, 1001, 1002, 1003] (by kernel_rfl) (by simp [HeapIn, namers, namerDst, namerOp, Blk.has, hasRows, hasL, CV.has, hasRows_up, hasRows_append, f1]) fun kr hr => ?_)
     | (with_reducible first | refine s_op fun K' hk => ?_ | refine t_op fun K' hk => ?_ | (refine hk _ ?_; clear hk K') | (refine ht _ ?_; clear ht hf KT KF) | (refine hf _ ?_; clear ht hf KT KF) | ((first | refine s_nil ?_ | refine t_nil ?_); refine hr _ ?_; clear hr kr))
     | ((with_reducible refine n_seqK [0, 1, 2, 3, 4, 5, 7, 9, 19] [] ?_); simp only [mk_keep, keepL, List.mem_cons, List.not_mem_nil, Nat.reduceEqDiff, Nat.zero_ne_one, Nat.one_ne_zero, reduceCtorEq, or_false, false_or, or_true, true_or, or_self, eq_self, ↓reduceIte])
     | (with_reducible first | refine s_cond fun KT KF ht hf => ?_ | refine s_skip ?_)
     | ((with_reducible refine s_long ?_); simp only [List.cons_append, List.nil_append])
     | (with_reducible first | refine s_exit ?_ | refine s_ret ?_ | refine e_seq ?_ | refine r_seq ?_ | refine n_block ?_ | refine e_block ?_ | refine r_block ?_ | refine e_loop ?_ | refine r_loop ?_ | refine e_round ?_ | refine r_round ?_ | refine s_round ?_ | refine f_block ?_ (by decide) | refine r_res ?_ | refine n_res ?_)
     | (simp only [hgb, go_sem, Int.reduceToNat, ↓reduceIte, reduceCtorEq, Nat.reduceEqDiff, Nat.reduceAdd, Nat.reduceMul, Nat.reduceLT, Nat.reduceLeDiff, Nat.reduceBEq, Int.reduceBEq, Int.reduceBNe, Int.reduceEq, Int.reduceLT, Int.reduceLE, Int.reduceGE, Int.reduceGT, f1]; clear hgb)
     | simp only [go_sem, Int.reduceToNat, ↓reduceIte, reduceCtorEq, Nat.reduceEqDiff, Nat.reduceAdd, Nat.reduceMul, Nat.reduceLT, Nat.reduceLeDiff, Nat.reduceBEq, Int.reduceBEq, Int.reduceBNe, Int.reduceEq, Int.reduceLT, Int.reduceLE, Int.reduceGE, Int.reduceGT, f1, hAll]
     | (refine ite_guard (fun hg => ?_) (fun hg => ?_) <;> (try simp only [Bool.not_eq_true, Bool.not_eq_false, Decidable.not_not] at hg) <;> (first | have hgb : (_ : Bool) = _ := hg | have hgb := ff hg | have hgb := tt hg))
     | (refine ⟨fun hc => ht _ ?_, fun hc => hf _ ?_⟩ <;> clear ht hf KT KF)
     | fail)
  · have f1 := ff (show ¬ n < 1 by omega)
    repeat' (first
     | (with_reducible first | refine s_seq ?_ | refine s_block ?_ | refine s_region fun kr hr => ?_)
     | (with_reducible refine s_text tOk [1000, 1001, 1002, 1003] (by kernel_rfl) (by simp [HeapIn, namers, namerDst, namerOp, Blk.has, hasRows, hasL, CV.has, hasRows_up, hasRows_append, f1]) fun kr hr => ?_)
     | (with_reducible first | refine s_op fun K' hk => ?_ | refine t_op fun K' hk => ?_ | (refine hk _ ?_; clear hk K') | (refine ht _ ?_; clear ht hf KT KF) | (refine hf _ ?_; clear ht hf KT KF) | ((first | refine s_nil ?_ | refine t_nil ?_); refine hr _ ?_; clear hr kr))
     | ((with_reducible refine n_seqK [0, 1, 2, 3, 4, 5, 7, 9, 19] [] ?_); simp only [mk_keep, keepL, List.mem_cons, List.not_mem_nil, Nat.reduceEqDiff, Nat.zero_ne_one, Nat.one_ne_zero, reduceCtorEq, or_false, false_or, or_true, true_or, or_self, eq_self, ↓reduceIte])
     | (with_reducible first | refine s_cond fun KT KF ht hf => ?_ | refine s_skip ?_)
     | ((with_reducible refine s_long ?_); simp only [List.cons_append, List.nil_append])
     | (with_reducible first | refine s_exit ?_ | refine s_ret ?_ | refine e_seq ?_ | refine r_seq ?_ | refine n_block ?_ | refine e_block ?_ | refine r_block ?_ | refine e_loop ?_ | refine r_loop ?_ | refine e_round ?_ | refine r_round ?_ | refine s_round ?_ | refine f_block ?_ (by decide) | refine r_res ?_ | refine n_res ?_)
     | (simp only [hgb, go_sem, Int.reduceToNat, ↓reduceIte, reduceCtorEq, Nat.reduceEqDiff, Nat.reduceAdd, Nat.reduceMul, Nat.reduceLT, Nat.reduceLeDiff, Nat.reduceBEq, Int.reduceBEq, Int.reduceBNe, Int.reduceEq, Int.reduceLT, Int.reduceLE, Int.reduceGE, Int.reduceGT, f1]; clear hgb)
     | simp only [go_sem, Int.reduceToNat, ↓reduceIte, reduceCtorEq, Nat.reduceEqDiff, Nat.reduceAdd, Nat.reduceMul, Nat.reduceLT, Nat.reduceLeDiff, Nat.reduceBEq, Int.reduceBEq, Int.reduceBNe, Int.reduceEq, Int.reduceLT, Int.reduceLE, Int.reduceGE, Int.reduceGT, f1, hAll]
     | (refine ite_guard (fun hg => ?_) (fun hg => ?_) <;> (try simp only [Bool.not_eq_true, Bool.not_eq_false, Decidable.not_not] at hg) <;> (first | have hgb : (_ : Bool) = _ := hg | have hgb := ff hg | have hgb := tt hg))
     | (refine ⟨fun hc => ht _ ?_, fun hc => hf _ ?_⟩ <;> clear ht hf KT KF)
     | fail)
    refine w_loop [0, 3, 4] [] (σ := Nat × Int) (fun p st => st = mk [(0, I n), (3, I p.2), (4, I (2 ^ p.1 / 2))] [] ∧ (p.1 ≤ 32 ∧ 0 ≤ p.2 ∧ p.2 % 2 ^ p.1 = 0 ∧ p.2 + 2 ^ p.1 ≤ 4294967296 ∧ p.2 * p.2 ≤ n ∧ n < (p.2 + 2 ^ p.1) * (p.2 + 2 ^ p.1))) (fun p => p.1) (32, 0) ?_ ?_
    · simp only [mk_keep, keepL, List.mem_cons, List.not_mem_nil, Nat.reduceEqDiff, Nat.zero_ne_one, Nat.one_ne_zero, reduceCtorEq, or_false, false_or, or_true, true_or, or_self, eq_self, ↓reduceIte]
      exact ⟨rfl, by omega, by omega, by simp, by simp, by omega, by simp; omega⟩
    · rintro ⟨m, r⟩ st' ⟨rfl, hm, h0, hd, hb, hle, hlt⟩
      simp only at hm h0 hd hb hle hlt ⊢
      cases m with
      | zero =>
        have e : (2 : Int) ^ 0 / 2 = 0 := by decide
        rw [e]
        have : r = s := IsRoot.unique ⟨h0, hle, by simpa using hlt⟩ hrt
        repeat' (first
         | (with_reducible first | refine s_seq ?_ | refine s_block ?_ | refine s_region fun kr hr => ?_)
         | (with_reducible refine s_text tOk [1000, 1001, 1002, 1003] (by kernel_rfl) (by simp [HeapIn, namers, namerDst, namerOp, Blk.has, hasRows, hasL, CV.has, hasRows_up, hasRows_append, Int.lt_irrefl]) fun kr hr => ?_)
         | (with_reducible first | refine s_op fun K' hk => ?_ | refine t_op fun K' hk => ?_ | (refine hk _ ?_; clear hk K') | (refine ht _ ?_; clear ht hf KT KF) | (refine hf _ ?_; clear ht hf KT KF) | ((first | refine s_nil ?_ | refine t_nil ?_); refine hr _ ?_; clear hr kr))
         | ((with_reducible refine n_seqK [0, 1, 2, 3, 4, 5, 7, 9, 19] [] ?_); simp only [mk_keep, keepL, List.mem_cons, List.not_mem_nil, Nat.reduceEqDiff, Nat.zero_ne_one, Nat.one_ne_zero, reduceCtorEq, or_false, false_or, or_true, true_or, or_self, eq_self, ↓reduceIte])
         | (with_reducible first | refine s_cond fun KT KF ht hf => ?_ | refine s_skip ?_)
         | ((with_reducible refine s_long ?_); simp only [List.cons_append, List.nil_append])
         | (with_reducible first | refine s_exit ?_ | refine s_ret ?_ | refine e_seq ?_ | refine r_seq ?_ | refine n_block ?_ | refine e_block ?_ | refine r_block ?_ | refine e_loop ?_ | refine r_loop ?_ | refine e_round ?_ | refine r_round ?_ | refine s_round ?_ | refine f_block ?_ (by decide) | refine r_res ?_ | refine n_res ?_)
         | simp only [go_sem, Int.reduceToNat, ↓reduceIte, reduceCtorEq, Nat.reduceEqDiff, Nat.reduceAdd, Nat.reduceMul, Nat.reduceLT, Nat.reduceLeDiff, Nat.reduceBEq, Int.reduceBEq, Int.reduceBNe, Int.reduceEq, Int.reduceLT, Int.reduceLE, Int.reduceGE, Int.reduceGT, Int.lt_irrefl, hAll]
         | fail)
        exact ires this
      | succ m =>
        have hB0 := Int.pow_pos (n := 2) (m := m) (by omega)
        have hB1 : (2 : Int) ^ (m + 1) = 2 ^ m * 2 := Int.pow_succ 2 m
        have hhalf : (2 : Int) ^ (m + 1) / 2 = 2 ^ m := by rw [hB1]; omega
        have hor0 : Go.bits .or .i64 r (2 ^ m) = r + 2 ^ m := or_join h0 (by omega) hd (by omega)
        rw [hhalf]
        have hd2 : r % 2 ^ m = 0 := by
          have := Int.emod_emod_of_dvd r (Int.dvd_mul_right (2 ^ m) 2)
          rw [← hB1, hd] at this
          simpa using this.symm
        have hsum : r + 2 ^ m + 2 ^ m = r + 2 ^ (m + 1) := by omega
        rw [← hsum] at hlt
        have hm0 : (2 : Int) ^ (m + 1) = 2 ^ m + 2 ^ m := by omega
        have hemod : (r + 2 ^ m) % 2 ^ m = 0 := by rw [Int.add_emod_right, hd2]
        have hinvT : n < (r + 2 ^ m + 2 ^ m) * (r + 2 ^ m + 2 ^ m) := hlt
        have htd : Int.tdiv n (r + 2 ^ m) = n / (r + 2 ^ m) := Int.tdiv_eq_ediv_of_nonneg (by omega)
        have hq0 : 0 ≤ n / (r + 2 ^ m) := Int.ediv_nonneg (by omega) (by omega)
        have hq1 : n / (r + 2 ^ m) ≤ n := Int.ediv_le_self _ (by omega)
        have hiff : r + 2 ^ m ≤ n / (r + 2 ^ m) ↔ (r + 2 ^ m) * (r + 2 ^ m) ≤ n := Int.le_ediv_iff_mul_le (by omega)
        have f2 : ((2 : Int) ^ m > 0) = True := eq_true hB0
        have f12 : intOp .or .i64 r (2 ^ m) = some (.int .i64 (r + 2 ^ m)) := by rw [← hor0]; rfl
        have f13 : shiftOp .shr .i64 (2 ^ m) 1 = some (.int .i64 (2 ^ m / 2)) := by
          show some (TV.int .i64 (Int.fdiv (2 ^ m) 2)) = _
          rw [Int.fdiv_eq_ediv_of_nonneg _ (by omega)]
        have f4 : (r + 2 ^ m = 0) = False := eq_false (by omega)
        have f5 : IntKind.wrap .i64 (Int.tdiv n (r + 2 ^ m)) = n / (r + 2 ^ m) := by rw [htd]; exact wI (by omega) (by omega)
        by_cases hcc : (r + 2 ^ m) * (r + 2 ^ m) ≤ n
        · have f7 : (r + 2 ^ m ≤ n / (r + 2 ^ m)) = True := eq_true (hiff.2 hcc)
          repeat' (first
           | (with_reducible first | refine s_seq ?_ | refine s_block ?_ | refine s_region fun kr hr => ?_)
           | (with_reducible refine s_text tOk [1000, 1001, 1002, 1003] (by kernel_rfl) (by simp [HeapIn, namers, namerDst, namerOp, Blk.has, hasRows, hasL, CV.has, hasRows_up, hasRows_append, f2, f4, f5, f7, ↓f12, ↓f13]) fun kr hr => ?_)
           | (with_reducible first | refine s_op fun K' hk => ?_ | refine t_op fun K' hk => ?_ | (refine hk _ ?_; clear hk K') | (refine ht _ ?_; clear ht hf KT KF) | (refine hf _ ?_; clear ht hf KT KF) | ((first | refine s_nil ?_ | refine t_nil ?_); refine hr _ ?_; clear hr kr))
           | ((with_reducible refine n_seqK [0, 1, 2, 3, 4, 5, 7, 9, 19] [] ?_); simp only [mk_keep, keepL, List.mem_cons, List.not_mem_nil, Nat.reduceEqDiff, Nat.zero_ne_one, Nat.one_ne_zero, reduceCtorEq, or_false, false_or, or_true, true_or, or_self, eq_self, ↓reduceIte])
           | (with_reducible first | refine s_cond fun KT KF ht hf => ?_ | refine s_skip ?_)
           | ((with_reducible refine s_long ?_); simp only [List.cons_append, List.nil_append])
           | (with_reducible first | refine s_exit ?_ | refine s_ret ?_ | refine e_seq ?_ | refine r_seq ?_ | refine n_block ?_ | refine e_block ?_ | refine r_block ?_ | refine e_loop ?_ | refine r_loop ?_ | refine e_round ?_ | refine r_round ?_ | refine s_round ?_ | refine f_block ?_ (by decide) | refine r_res ?_ | refine n_res ?_)
           | (simp only [hgb, go_sem, Int.reduceToNat, ↓reduceIte, reduceCtorEq, Nat.reduceEqDiff, Nat.reduceAdd, Nat.reduceMul, Nat.reduceLT, Nat.reduceLeDiff, Nat.reduceBEq, Int.reduceBEq, Int.reduceBNe, Int.reduceEq, Int.reduceLT, Int.reduceLE, Int.reduceGE, Int.reduceGT, f2, f4, f5, f7, ↓f12, ↓f13]; clear hgb)
           | simp only [go_sem, Int.reduceToNat, ↓reduceIte, reduceCtorEq, Nat.reduceEqDiff, Nat.reduceAdd, Nat.reduceMul, Nat.reduceLT, Nat.reduceLeDiff, Nat.reduceBEq, Int.reduceBEq, Int.reduceBNe, Int.reduceEq, Int.reduceLT, Int.reduceLE, Int.reduceGE, Int.reduceGT, f2, f4, f5, f7, ↓f12, ↓f13, hAll]
           | (refine ite_guard (fun hg => ?_) (fun hg => ?_) <;> (try simp only [Bool.not_eq_true, Bool.not_eq_false, Decidable.not_not] at hg) <;> (first | have hgb : (_ : Bool) = _ := hg | have hgb := ff hg | have hgb := tt hg))
           | (refine ⟨fun hc => ht _ ?_, fun hc => hf _ ?_⟩ <;> clear ht hf KT KF)
           | fail)
          refine n_loop (m, r + 2 ^ m) [0, 3, 4] [] ⟨?_, by simp only; omega, by simp only; omega, hemod, by simp only; omega, hcc, hinvT⟩ (Nat.lt_succ_self m)
          simp only [mk_keep, keepL, List.mem_cons, List.not_mem_nil, Nat.reduceEqDiff, Nat.zero_ne_one, Nat.one_ne_zero, reduceCtorEq, or_false, false_or, or_true, true_or, or_self, eq_self, ↓reduceIte]
        · have f7 : (r + 2 ^ m ≤ n / (r + 2 ^ m)) = False := eq_false (fun h => hcc (hiff.1 h))
          repeat' (first
           | (with_reducible first | refine s_seq ?_ | refine s_block ?_ | refine s_region fun kr hr => ?_)
           | (with_reducible refine s_text tOk [1000, 1001, 1002, 1003] (by kernel_rfl) (by simp [HeapIn, namers, namerDst, namerOp, Blk.has, hasRows, hasL, CV.has, hasRows_up, hasRows_append, f2, f4, f5, f7, ↓f12, ↓f13]) fun kr hr => ?_)
           | (with_reducible first | refine s_op fun K' hk => ?_ | refine t_op fun K' hk => ?_ | (refine hk _ ?_; clear hk K') | (refine ht _ ?_; clear ht hf KT KF) | (refine hf _ ?_; clear ht hf KT KF) | ((first | refine s_nil ?_ | refine t_nil ?_); refine hr _ ?_; clear hr kr))
           | ((with_reducible refine n_seqK [0, 1, 2, 3, 4, 5, 7, 9, 19] [] ?_); simp only [mk_keep, keepL, List.mem_cons, List.not_mem_nil, Nat.reduceEqDiff, Nat.zero_ne_one, Nat.one_ne_zero, reduceCtorEq, or_false, false_or, or_true, true_or, or_self, eq_self, ↓reduceIte])
           | (with_reducible first | refine s_cond fun KT KF ht hf => ?_ | refine s_skip ?_)
           | ((with_reducible refine s_long ?_); simp only [List.cons_append, List.nil_append])
           | (with_reducible first | refine s_exit ?_ | refine s_ret ?_ | refine e_seq ?_ | refine r_seq ?_ | refine n_block ?_ | refine e_block ?_ | refine r_block ?_ | refine e_loop ?_ | refine r_loop ?_ | refine e_round ?_ | refine r_round ?_ | refine s_round ?_ | refine f_block ?_ (by decide) | refine r_res ?_ | refine n_res ?_)
           | (simp only [hgb, go_sem, Int.reduceToNat, ↓reduceIte, reduceCtorEq, Nat.reduceEqDiff, Nat.reduceAdd, Nat.reduceMul, Nat.reduceLT, Nat.reduceLeDiff, Nat.reduceBEq, Int.reduceBEq, Int.reduceBNe, Int.reduceEq, Int.reduceLT, Int.reduceLE, Int.reduceGE, Int.reduceGT, f2, f4, f5, f7, ↓f12, ↓f13]; clear hgb)
           | simp only [go_sem, Int.reduceToNat, ↓reduceIte, reduceCtorEq, Nat.reduceEqDiff, Nat.reduceAdd, Nat.reduceMul, Nat.reduceLT, Nat.reduceLeDiff, Nat.reduceBEq, Int.reduceBEq, Int.reduceBNe, Int.reduceEq, Int.reduceLT, Int.reduceLE, Int.reduceGE, Int.reduceGT, f2, f4, f5, f7, ↓f12, ↓f13, hAll]
           | (refine ite_guard (fun hg => ?_) (fun hg => ?_) <;> (try simp only [Bool.not_eq_true, Bool.not_eq_false, Decidable.not_not] at hg) <;> (first | have hgb : (_ : Bool) = _ := hg | have hgb := ff hg | have hgb := tt hg))
           | (refine ⟨fun hc => ht _ ?_, fun hc => hf _ ?_⟩ <;> clear ht hf KT KF)
           | fail)
          refine n_loop (m, r) [0, 3, 4] [] ⟨?_, by simp only; omega, h0, hd2, by simp only; omega, hle, by simp only; omega⟩ (Nat.lt_succ_self m)
          simp only [mk_keep, keepL, List.mem_cons, List.not_mem_nil, Nat.reduceEqDiff, Nat.zero_ne_one, Nat.one_ne_zero, reduceCtorEq, or_false, false_or, or_true, true_or, or_self, eq_self, ↓reduceIte]
end Go.Proofs.Yteoddaeipckgcaa.Fx
