/- The law TopkOrders. -/
import Derived.Test.YtgmjgognpabmdaaFxTopLaw
namespace Go.Proofs.Ytgmjgognpabmdaa.Fx
open Go Go.RowKit
set_option maxRecDepth 100000
set_option linter.unusedSimpArgs false
set_option linter.unusedVariables false
set_option maxHeartbeats 16000000 in
theorem topkOrders_spec (m a1 a2 b1 b2 : Int) (l : List Ht) (hl : (l.length + 1) * 16 ≤ 140737488355328) : Spec Try.prog 3 [.v (.t (.int .i64 m)), .agg [.t (.int .i64 a1), .t (.int .i64 a2), .t (.int .i64 b1), .t (.int .i64 b2)], .v (.t (.sl 2 (hrows l)))] [] [.v (.t (.bool true))] [] := by
  have hab := less_spec m (a1, a2) (b1, b2)
  have hab2 := less2_spec m (a1, a2) (b1, b2)
  simp only [hcell] at hab hab2
  have qr := rsort_spec m l (by omega)
  have hsame2 := same_spec l l (by omega)
  rw [decide_eq_true rfl] at hsame2
  have c1 := tt (show (l.length + 1) * 16 ≤ 140737488355328 by omega)
  have c2 := tt (show l.length ≤ 9223372036854775806 by omega)
  have c3 := tt (show l.length * 16 ≤ 140737488355328 by omega)
  have c4 := tt (show l.length ≤ 9223372036854775807 by omega)
  have c5 := tt (show l.length ≤ l.length + 1 by omega)
  have c6 := tt (Nat.zero_le l.length)
  have c7 := tt (show (l.length : Int) < ((l.length + 1 : Nat) : Int) by omega)
  have c8 := tt (show l.length < l.length + 1 by omega)
  have e1 : (up (hrows l)).take l.length = up (hrows l) := List.take_of_length_le (by simp [up, hrows])
  have e2 : (up (hrows l)).length = l.length := by simp [up, hrows]
  have e3 : List.take l.length (hrows (l ++ [(-77, 0)])) = hrows l := by simp [hrows]
  have e4 : (hrows (l ++ [(-77, 0)])).length = l.length + 1 := by simp [hrows]
  have e5 : (hrows (l ++ [(-77, 0)]))[l.length]? = some [.int .i64 (-77), .int .i64 0] := by simp [hrows, hrow]
  have e6 : List.take (l.length + 1) (hrows (l ++ [(-77, 0)])) = hrows (l ++ [(-77, 0)]) := List.take_of_length_le (by omega)
  have e7 := tt (show l.length + 1 ≤ (hrows (l ++ [(-77, 0)])).length by omega)
  by_cases hM : mOk m = true
  · rw [if_pos hM, srt_eq hM] at qr
    have qs := tsort_tree m l hM (by omega)
    have hS := hsort_len m l
    have hsame := same_spec (hsort m l) (hsort m l) (by omega)
    rw [decide_eq_true rfl] at hsame
    generalize hsort m l = S at *
    generalize less m (a1, a2) (b1, b2) = lab at *
    refine spec_by Try.func3 rfl mixed tOk evOk (n := 80) rfl (by simp) (by simp) ?_
    rw [initSt_mk, show Try.f3.results.toList = [.tmp 6] from rfl]
    simp only [initL, AV.sv, List.map_cons, List.map_nil, Nat.reduceAdd, Nat.zero_add]
    repeat' (first
     | ((with_reducible_and_instances refine s_frz 21 rfl (viewRows_up _) ?_); simp only [del, mapV, SV.frz, CV.frz, hasA, AV.has, CV.has, List.drop_zero, List.map_cons, List.map_nil, Nat.zero_add, Nat.reduceEqDiff, Nat.reduceLeDiff, Nat.le_refl, ↓reduceIte, Bool.false_eq_true, c1, c2, c3, c4, c5, c6, Nat.sub_zero, e1, e2, hrows_len, hasRows_up, up_app, e3, e4, e5, e6, e7, listB])
     | (with_reducible first | refine s_seq ?_ | refine s_block ?_ | refine s_region fun kr hr => ?_)
     | (with_reducible refine s_text tOk [4, 7, 8, 18, 20, 21, 27, 33, 1000, 1001, 1002, 1003] (by kernel_rfl) (by simp [HeapIn, namers, namerDst, namerOp, namedOp, namedFn, Blk.has, hasRows, hasL, CV.has, hasRows_up, hasRows_append, c1, c2, c3, c4, c5, c6, Nat.sub_zero, e1, e2, hrows_len, hasRows_up, up_app, e3, e4, e5, e6, e7, listB]; (try ((repeat' apply And.intro) <;> intros <;> omega))) fun kr hr => ?_)
     | (with_reducible first | refine s_op fun K' hk => ?_ | refine t_op fun K' hk => ?_ | (refine hk _ ?_; clear hk K') | (refine ht _ ?_; clear ht hf KT KF) | (refine hf _ ?_; clear ht hf KT KF) | ((first | refine s_nil ?_ | refine t_nil ?_); refine hr _ ?_; clear hr kr))
     | ((with_reducible refine n_seqK [0, 1, 2, 3, 4, 5, 6, 7, 8, 9, 10, 11, 12, 14, 15, 16, 17, 18, 19, 23, 24, 25, 37] [4, 7, 8, 18, 20, 21, 27, 33] ?_); simp only [mk_keep, keepL, List.mem_cons, List.not_mem_nil, Nat.reduceEqDiff, Nat.zero_ne_one, Nat.one_ne_zero, reduceCtorEq, or_false, false_or, or_true, true_or, or_self, eq_self, ↓reduceIte])
     | (with_reducible first | refine s_cond fun KT KF ht hf => ?_ | refine s_skip ?_)
     | ((with_reducible refine s_long ?_); simp only [List.cons_append, List.nil_append])
     | (with_reducible first | refine s_exit ?_ | refine s_ret ?_ | refine e_seq ?_ | refine r_seq ?_ | refine n_block ?_ | refine e_block ?_ | refine r_block ?_ | refine e_loop ?_ | refine r_loop ?_ | refine e_round ?_ | refine r_round ?_ | refine s_round ?_ | refine f_block ?_ (by decide) | refine r_res ?_ | refine n_res ?_)
     | (simp only [hgb, go_sem, Int.reduceToNat, ↓reduceIte, reduceCtorEq, Nat.reduceEqDiff, Nat.reduceAdd, Nat.reduceMul, Nat.reduceLT, Nat.reduceLeDiff, Nat.reduceBEq, Int.reduceBEq, Int.reduceBNe, Int.reduceEq, Int.reduceLT, Int.reduceLE, Int.reduceGE, Int.reduceGT, c1, c2, c3, c4, c5, c6, Nat.sub_zero, e1, e2, hrows_len, hasRows_up, up_app, e3, e4, e5, e6, e7, listB, callE, resSV, AV.flat, CV.flat, TV.flat]; clear hgb)
     | simp only [go_sem, Int.reduceToNat, ↓reduceIte, reduceCtorEq, Nat.reduceEqDiff, Nat.reduceAdd, Nat.reduceMul, Nat.reduceLT, Nat.reduceLeDiff, Nat.reduceBEq, Int.reduceBEq, Int.reduceBNe, Int.reduceEq, Int.reduceLT, Int.reduceLE, Int.reduceGE, Int.reduceGT, c1, c2, c3, c4, c5, c6, Nat.sub_zero, e1, e2, hrows_len, hasRows_up, up_app, e3, e4, e5, e6, e7, listB, callE, resSV, AV.flat, CV.flat, TV.flat, hAll]
     | refine Or.inr (m_callT ⟨fun _ _ => rfl, qs⟩ rfl rfl (by first | (intro k; simp [hasA, AV.has, CV.has, hasL]; done) | fail) (by first | (intro k; simp [hasRows, hasRows_up]; done) | fail) (by decide) (by first | (simp [freshL, Blk.has, hasRows, hasL, CV.has, hasRows_up]; done) | fail) ?_)
     | refine (m_callT ⟨fun _ _ => rfl, qs⟩ rfl rfl (by first | (intro k; simp [hasA, AV.has, CV.has, hasL]; done) | fail) (by first | (intro k; simp [hasRows, hasRows_up]; done) | fail) (by decide) (by first | (simp [freshL, Blk.has, hasRows, hasL, CV.has, hasRows_up]; done) | fail) ?_)
     | (refine ite_guard (fun hg => ?_) (fun hg => ?_) <;> (try simp only [Bool.not_eq_true, Bool.not_eq_false, Decidable.not_not] at hg) <;> (first | have hgb : (_ : Bool) = _ := hg | have hgb := ff hg | have hgb := tt hg))
     | (refine ⟨fun hc => ht _ ?_, fun hc => hf _ ?_⟩ <;> clear ht hf KT KF)
     | fail)
    refine w_loop [0, 2, 6, 7, 8, 9, 10, 11, 12] [7, 8, 27, 33] (σ := Nat × List Ht) (fun s st => st = mk [(0, .c (.t (.int .i64 m))), (2, .c (.t (.sl 2 (hrows l)))), (6, .c (.t (.bool false))), (7, .c (.mp 7 0 0)), (8, .c (.mp 8 0 0)), (9, .c (.t (.sl 2 (hrows (l ++ [(-77, 0)]))))), (10, .c (.mr 27 0 l.length)), (11, .c (.mr 33 0 l.length)), (12, .c (.t (.int .i64 s.1)))] [(7, .cells 2 [[.t (.int .i64 a1), .t (.int .i64 a2)]]), (8, .cells 2 [[.t (.int .i64 b1), .t (.int .i64 b2)]]), (27, .cells 2 (up (hrows s.2))), (33, .cells 2 (up (hrows S)))] ∧ s.1 ≤ l.length ∧ s.2.length = l.length) (fun s => l.length - s.1) (0, S) ?_ ?_
    · refine ⟨?_, Nat.zero_le _, hS⟩
      simp only [go_sem, Int.reduceToNat, ↓reduceIte, reduceCtorEq, Nat.reduceEqDiff, Nat.reduceAdd, Nat.reduceMul, Nat.reduceLT, Nat.reduceLeDiff, Nat.reduceBEq, Int.reduceBEq, Int.reduceBNe, Int.reduceEq, Int.reduceLT, Int.reduceLE, Int.reduceGE, Int.reduceGT, mk_keep, keepL, List.mem_cons, List.not_mem_nil, Nat.reduceEqDiff, Nat.zero_ne_one, Nat.one_ne_zero, reduceCtorEq, or_false, false_or, or_true, true_or, or_self, eq_self, ↓reduceIte]
    rintro ⟨j, X⟩ st ⟨rfl, hj, hX⟩
    simp only at hj hX
    by_cases hjl : j < l.length
    · have p1 := tt (show (j : Int) < l.length by omega)
      have p3 := wUp (k := j) (n := l.length) (by omega) (by omega)
      have p4 := tt (show j < l.length from hjl)
      have p5 : (up (hrows X)).set j [.t (.int .i64 (-78)), .t (.int .i64 0)] = up (hrows (X.set j (-78, 0))) := hset_up X j (-78, 0)
      have p6 : (up (hrows X)).length = l.length := by rw [uph_len, hX]
      have p7 : (up (hrows X))[j]? = some (hcell X[j]) := by rw [hcell_get, get_of_lt (by omega)]; rfl
      repeat' (first
       | (with_reducible first | refine s_seq ?_ | refine s_block ?_ | refine s_region fun kr hr => ?_)
       | (with_reducible refine s_text tOk [4, 7, 8, 18, 20, 21, 27, 33, 1000, 1001, 1002, 1003] (by kernel_rfl) (by simp [HeapIn, namers, namerDst, namerOp, namedOp, namedFn, Blk.has, hasRows, hasL, CV.has, hasRows_up, hasRows_append, p1, p3, p4, p5, p6, p7, hcell, hrows_len]; (try ((repeat' apply And.intro) <;> intros <;> omega))) fun kr hr => ?_)
       | (with_reducible first | refine s_op fun K' hk => ?_ | refine t_op fun K' hk => ?_ | (refine hk _ ?_; clear hk K') | (refine ht _ ?_; clear ht hf KT KF) | (refine hf _ ?_; clear ht hf KT KF) | ((first | refine s_nil ?_ | refine t_nil ?_); refine hr _ ?_; clear hr kr))
       | ((with_reducible refine n_seqK [0, 1, 2, 3, 4, 5, 6, 7, 8, 9, 10, 11, 12, 14, 15, 16, 17, 18, 19, 23, 24, 25, 37] [4, 7, 8, 18, 20, 21, 27, 33] ?_); simp only [mk_keep, keepL, List.mem_cons, List.not_mem_nil, Nat.reduceEqDiff, Nat.zero_ne_one, Nat.one_ne_zero, reduceCtorEq, or_false, false_or, or_true, true_or, or_self, eq_self, ↓reduceIte])
       | (with_reducible first | refine s_cond fun KT KF ht hf => ?_ | refine s_skip ?_)
       | ((with_reducible refine s_long ?_); simp only [List.cons_append, List.nil_append])
       | (with_reducible first | refine s_exit ?_ | refine s_ret ?_ | refine e_seq ?_ | refine r_seq ?_ | refine n_block ?_ | refine e_block ?_ | refine r_block ?_ | refine e_loop ?_ | refine r_loop ?_ | refine e_round ?_ | refine r_round ?_ | refine s_round ?_ | refine f_block ?_ (by decide) | refine r_res ?_ | refine n_res ?_)
       | (simp only [hgb, go_sem, Int.reduceToNat, ↓reduceIte, reduceCtorEq, Nat.reduceEqDiff, Nat.reduceAdd, Nat.reduceMul, Nat.reduceLT, Nat.reduceLeDiff, Nat.reduceBEq, Int.reduceBEq, Int.reduceBNe, Int.reduceEq, Int.reduceLT, Int.reduceLE, Int.reduceGE, Int.reduceGT, p1, p3, p4, p5, p6, p7, hcell, hrows_len]; clear hgb)
       | simp only [go_sem, Int.reduceToNat, ↓reduceIte, reduceCtorEq, Nat.reduceEqDiff, Nat.reduceAdd, Nat.reduceMul, Nat.reduceLT, Nat.reduceLeDiff, Nat.reduceBEq, Int.reduceBEq, Int.reduceBNe, Int.reduceEq, Int.reduceLT, Int.reduceLE, Int.reduceGE, Int.reduceGT, p1, p3, p4, p5, p6, p7, hcell, hrows_len, hAll]
       | (refine ite_guard (fun hg => ?_) (fun hg => ?_) <;> (try simp only [Bool.not_eq_true, Bool.not_eq_false, Decidable.not_not] at hg) <;> (first | have hgb : (_ : Bool) = _ := hg | have hgb := ff hg | have hgb := tt hg))
       | (refine ⟨fun hc => ht _ ?_, fun hc => hf _ ?_⟩ <;> clear ht hf KT KF)
       | fail)
      refine n_loop (j + 1, X.set j (-78, 0)) [0, 2, 6, 7, 8, 9, 10, 11, 12] [7, 8, 27, 33] ⟨?_, hjl, by simpa using hX⟩ (by simp only; omega)
      simp only [go_sem, Int.reduceToNat, ↓reduceIte, reduceCtorEq, Nat.reduceEqDiff, Nat.reduceAdd, Nat.reduceMul, Nat.reduceLT, Nat.reduceLeDiff, Nat.reduceBEq, Int.reduceBEq, Int.reduceBNe, Int.reduceEq, Int.reduceLT, Int.reduceLE, Int.reduceGE, Int.reduceGT, mk_keep, keepL, List.mem_cons, List.not_mem_nil, Nat.reduceEqDiff, Nat.zero_ne_one, Nat.one_ne_zero, reduceCtorEq, or_false, false_or, or_true, true_or, or_self, eq_self, ↓reduceIte]
    · have p1 := ff (show ¬ ((j : Int) < l.length) by omega)
      have p8 : List.take l.length (hrows S) = hrows S := List.take_of_length_le (by rw [hrows_len]; omega)
      cases lab
      all_goals
        repeat' (first
         | (with_reducible first | refine s_seq ?_ | refine s_block ?_ | refine s_region fun kr hr => ?_)
         | (with_reducible refine s_text tOk [4, 7, 8, 18, 20, 21, 27, 33, 1000, 1001, 1002, 1003] (by kernel_rfl) (by simp [HeapIn, namers, namerDst, namerOp, namedOp, namedFn, Blk.has, hasRows, hasL, CV.has, hasRows_up, hasRows_append, c1, c2, c3, c4, c5, c6, Nat.sub_zero, e1, e2, hrows_len, hasRows_up, up_app, e3, e4, e5, e6, e7, c7, c8, p1, p8, hS, beq_self_eq_true]; (try ((repeat' apply And.intro) <;> intros <;> omega))) fun kr hr => ?_)
         | (with_reducible first | refine s_op fun K' hk => ?_ | refine t_op fun K' hk => ?_ | (refine hk _ ?_; clear hk K') | (refine ht _ ?_; clear ht hf KT KF) | (refine hf _ ?_; clear ht hf KT KF) | ((first | refine s_nil ?_ | refine t_nil ?_); refine hr _ ?_; clear hr kr))
         | ((with_reducible refine n_seqK [0, 1, 2, 3, 4, 5, 6, 7, 8, 9, 10, 11, 12, 14, 15, 16, 17, 18, 19, 23, 24, 25, 37] [4, 7, 8, 18, 20, 21, 27, 33] ?_); simp only [mk_keep, keepL, List.mem_cons, List.not_mem_nil, Nat.reduceEqDiff, Nat.zero_ne_one, Nat.one_ne_zero, reduceCtorEq, or_false, false_or, or_true, true_or, or_self, eq_self, ↓reduceIte])
         | (with_reducible first | refine s_cond fun KT KF ht hf => ?_ | refine s_skip ?_)
         | ((with_reducible refine s_long ?_); simp only [List.cons_append, List.nil_append])
         | (with_reducible first | refine s_exit ?_ | refine s_ret ?_ | refine e_seq ?_ | refine r_seq ?_ | refine n_block ?_ | refine e_block ?_ | refine r_block ?_ | refine e_loop ?_ | refine r_loop ?_ | refine e_round ?_ | refine r_round ?_ | refine s_round ?_ | refine f_block ?_ (by decide) | refine r_res ?_ | refine n_res ?_)
         | (simp only [hgb, go_sem, Int.reduceToNat, ↓reduceIte, reduceCtorEq, Nat.reduceEqDiff, Nat.reduceAdd, Nat.reduceMul, Nat.reduceLT, Nat.reduceLeDiff, Nat.reduceBEq, Int.reduceBEq, Int.reduceBNe, Int.reduceEq, Int.reduceLT, Int.reduceLE, Int.reduceGE, Int.reduceGT, c1, c2, c3, c4, c5, c6, Nat.sub_zero, e1, e2, hrows_len, hasRows_up, up_app, e3, e4, e5, e6, e7, c7, c8, p1, p8, hS, beq_self_eq_true, callE, resSV, AV.flat, CV.flat, TV.flat]; clear hgb)
         | simp only [go_sem, Int.reduceToNat, ↓reduceIte, reduceCtorEq, Nat.reduceEqDiff, Nat.reduceAdd, Nat.reduceMul, Nat.reduceLT, Nat.reduceLeDiff, Nat.reduceBEq, Int.reduceBEq, Int.reduceBNe, Int.reduceEq, Int.reduceLT, Int.reduceLE, Int.reduceGE, Int.reduceGT, c1, c2, c3, c4, c5, c6, Nat.sub_zero, e1, e2, hrows_len, hasRows_up, up_app, e3, e4, e5, e6, e7, c7, c8, p1, p8, hS, beq_self_eq_true, callE, resSV, AV.flat, CV.flat, TV.flat, hAll]
         | refine Or.inl ⟨_, ⟨fun _ _ => rfl, hab⟩, ?_⟩
         | refine ⟨_, ⟨fun _ _ => rfl, hab⟩, ?_⟩
         | refine Or.inl ⟨_, ⟨fun _ _ => rfl, hab2⟩, ?_⟩
         | refine ⟨_, ⟨fun _ _ => rfl, hab2⟩, ?_⟩
         | refine Or.inl ⟨_, ⟨fun _ _ => rfl, qr⟩, ?_⟩
         | refine ⟨_, ⟨fun _ _ => rfl, qr⟩, ?_⟩
         | refine Or.inl ⟨_, ⟨fun _ _ => rfl, hsame⟩, ?_⟩
         | refine ⟨_, ⟨fun _ _ => rfl, hsame⟩, ?_⟩
         | refine Or.inl ⟨_, ⟨fun _ _ => rfl, hsame2⟩, ?_⟩
         | refine ⟨_, ⟨fun _ _ => rfl, hsame2⟩, ?_⟩
         | refine Or.inl ⟨_, ⟨fun _ _ => rfl, awake07_spec⟩, ?_⟩
         | refine ⟨_, ⟨fun _ _ => rfl, awake07_spec⟩, ?_⟩
         | (refine ite_guard (fun hg => ?_) (fun hg => ?_) <;> (try simp only [Bool.not_eq_true, Bool.not_eq_false, Decidable.not_not] at hg) <;> (first | have hgb : (_ : Bool) = _ := hg | have hgb := ff hg | have hgb := tt hg))
         | (refine ⟨fun hc => ht _ ?_, fun hc => hf _ ?_⟩ <;> clear ht hf KT KF)
         | fail)
  · rw [if_neg hM] at qr
    rw [Bool.not_eq_true] at hM
    rw [show less m (a1, a2) (b1, b2) = false by simp [less, hM]] at hab hab2
    have qs := tsort_tnone m (hrows l) hM
    have hsame := same_spec [] [] (by decide)
    rw [decide_eq_true rfl] at hsame
    refine spec_by Try.func3 rfl mixed tOk evOk (n := 80) rfl (by simp) (by simp) ?_
    rw [initSt_mk, show Try.f3.results.toList = [.tmp 6] from rfl]
    simp only [initL, AV.sv, List.map_cons, List.map_nil, Nat.reduceAdd, Nat.zero_add]
    repeat' (first
     | ((with_reducible_and_instances refine s_frz 21 rfl (viewRows_up _) ?_); simp only [del, mapV, SV.frz, CV.frz, hasA, AV.has, CV.has, List.drop_zero, List.map_cons, List.map_nil, Nat.zero_add, Nat.reduceEqDiff, Nat.reduceLeDiff, Nat.le_refl, ↓reduceIte, Bool.false_eq_true, c1, c2, c3, c4, c5, c6, Nat.sub_zero, e1, e2, hrows_len, hasRows_up, up_app, e3, e4, e5, e6, e7, listB])
     | (with_reducible first | refine s_seq ?_ | refine s_block ?_ | refine s_region fun kr hr => ?_)
     | (with_reducible refine s_text tOk [4, 7, 8, 18, 20, 21, 27, 33, 1000, 1001, 1002, 1003] (by kernel_rfl) (by simp [HeapIn, namers, namerDst, namerOp, namedOp, namedFn, Blk.has, hasRows, hasL, CV.has, hasRows_up, hasRows_append, c1, c2, c3, c4, c5, c6, Nat.sub_zero, e1, e2, hrows_len, hasRows_up, up_app, e3, e4, e5, e6, e7, listB]; (try ((repeat' apply And.intro) <;> intros <;> omega))) fun kr hr => ?_)
     | (with_reducible first | refine s_op fun K' hk => ?_ | refine t_op fun K' hk => ?_ | (refine hk _ ?_; clear hk K') | (refine ht _ ?_; clear ht hf KT KF) | (refine hf _ ?_; clear ht hf KT KF) | ((first | refine s_nil ?_ | refine t_nil ?_); refine hr _ ?_; clear hr kr))
     | ((with_reducible refine n_seqK [0, 1, 2, 3, 4, 5, 6, 7, 8, 9, 10, 11, 12, 14, 15, 16, 17, 18, 19, 23, 24, 25, 37] [4, 7, 8, 18, 20, 21, 27, 33] ?_); simp only [mk_keep, keepL, List.mem_cons, List.not_mem_nil, Nat.reduceEqDiff, Nat.zero_ne_one, Nat.one_ne_zero, reduceCtorEq, or_false, false_or, or_true, true_or, or_self, eq_self, ↓reduceIte])
     | (with_reducible first | refine s_cond fun KT KF ht hf => ?_ | refine s_skip ?_)
     | ((with_reducible refine s_long ?_); simp only [List.cons_append, List.nil_append])
     | (with_reducible first | refine s_exit ?_ | refine s_ret ?_ | refine e_seq ?_ | refine r_seq ?_ | refine n_block ?_ | refine e_block ?_ | refine r_block ?_ | refine e_loop ?_ | refine r_loop ?_ | refine e_round ?_ | refine r_round ?_ | refine s_round ?_ | refine f_block ?_ (by decide) | refine r_res ?_ | refine n_res ?_)
     | (simp only [hgb, go_sem, Int.reduceToNat, ↓reduceIte, reduceCtorEq, Nat.reduceEqDiff, Nat.reduceAdd, Nat.reduceMul, Nat.reduceLT, Nat.reduceLeDiff, Nat.reduceBEq, Int.reduceBEq, Int.reduceBNe, Int.reduceEq, Int.reduceLT, Int.reduceLE, Int.reduceGE, Int.reduceGT, c1, c2, c3, c4, c5, c6, Nat.sub_zero, e1, e2, hrows_len, hasRows_up, up_app, e3, e4, e5, e6, e7, listB, callE, resSV, AV.flat, CV.flat, TV.flat]; clear hgb)
     | simp only [go_sem, Int.reduceToNat, ↓reduceIte, reduceCtorEq, Nat.reduceEqDiff, Nat.reduceAdd, Nat.reduceMul, Nat.reduceLT, Nat.reduceLeDiff, Nat.reduceBEq, Int.reduceBEq, Int.reduceBNe, Int.reduceEq, Int.reduceLT, Int.reduceLE, Int.reduceGE, Int.reduceGT, c1, c2, c3, c4, c5, c6, Nat.sub_zero, e1, e2, hrows_len, hasRows_up, up_app, e3, e4, e5, e6, e7, listB, callE, resSV, AV.flat, CV.flat, TV.flat, hAll]
     | refine Or.inl ⟨_, ⟨fun _ _ => rfl, qs⟩, ?_⟩
     | refine ⟨_, ⟨fun _ _ => rfl, qs⟩, ?_⟩
     | (refine ite_guard (fun hg => ?_) (fun hg => ?_) <;> (try simp only [Bool.not_eq_true, Bool.not_eq_false, Decidable.not_not] at hg) <;> (first | have hgb : (_ : Bool) = _ := hg | have hgb := ff hg | have hgb := tt hg))
     | (refine ⟨fun hc => ht _ ?_, fun hc => hf _ ?_⟩ <;> clear ht hf KT KF)
     | fail)
    refine w_unroll 1 ?_
    repeat' (first
     | (with_reducible first | refine s_seq ?_ | refine s_block ?_ | refine s_region fun kr hr => ?_)
     | (with_reducible refine s_text tOk [4, 7, 8, 18, 20, 21, 1000, 1001, 1002, 1003] (by kernel_rfl) (by simp [HeapIn, namers, namerDst, namerOp, namedOp, namedFn, Blk.has, hasRows, hasL, CV.has, hasRows_up, hasRows_append, c1, c2, c3, c4, c5, c6, Nat.sub_zero, e1, e2, hrows_len, hasRows_up, up_app, e3, e4, e5, e6, e7, c7, c8]; (try ((repeat' apply And.intro) <;> intros <;> omega))) fun kr hr => ?_)
     | (with_reducible first | refine s_op fun K' hk => ?_ | refine t_op fun K' hk => ?_ | (refine hk _ ?_; clear hk K') | (refine ht _ ?_; clear ht hf KT KF) | (refine hf _ ?_; clear ht hf KT KF) | ((first | refine s_nil ?_ | refine t_nil ?_); refine hr _ ?_; clear hr kr))
     | ((with_reducible refine n_seqK [0, 1, 2, 3, 4, 5, 6, 7, 8, 9, 10, 11, 12, 14, 15, 16, 17, 18, 19, 23, 24, 25, 37] [4, 7, 8, 18, 20, 21] ?_); simp only [mk_keep, keepL, List.mem_cons, List.not_mem_nil, Nat.reduceEqDiff, Nat.zero_ne_one, Nat.one_ne_zero, reduceCtorEq, or_false, false_or, or_true, true_or, or_self, eq_self, ↓reduceIte])
     | ((with_reducible refine n_round [0, 1, 2, 3, 4, 5, 6, 7, 8, 9, 10, 11, 12, 14, 15, 16, 17, 18, 19, 23, 24, 25, 37] [4, 7, 8, 18, 20, 21] ?_); simp only [mk_keep, keepL, List.mem_cons, List.not_mem_nil, Nat.reduceEqDiff, Nat.zero_ne_one, Nat.one_ne_zero, reduceCtorEq, or_false, false_or, or_true, true_or, or_self, eq_self, ↓reduceIte])
     | (with_reducible first | refine s_cond fun KT KF ht hf => ?_ | refine s_skip ?_)
     | ((with_reducible refine s_long ?_); simp only [List.cons_append, List.nil_append])
     | (with_reducible first | refine s_exit ?_ | refine s_ret ?_ | refine e_seq ?_ | refine r_seq ?_ | refine n_block ?_ | refine e_block ?_ | refine r_block ?_ | refine e_loop ?_ | refine r_loop ?_ | refine e_round ?_ | refine r_round ?_ | refine s_round ?_ | refine f_block ?_ (by decide) | refine r_res ?_ | refine n_res ?_)
     | (simp only [hgb, go_sem, Int.reduceToNat, ↓reduceIte, reduceCtorEq, Nat.reduceEqDiff, Nat.reduceAdd, Nat.reduceMul, Nat.reduceLT, Nat.reduceLeDiff, Nat.reduceBEq, Int.reduceBEq, Int.reduceBNe, Int.reduceEq, Int.reduceLT, Int.reduceLE, Int.reduceGE, Int.reduceGT, c1, c2, c3, c4, c5, c6, Nat.sub_zero, e1, e2, hrows_len, hasRows_up, up_app, e3, e4, e5, e6, e7, c7, c8, callE, resSV, AV.flat, CV.flat, TV.flat]; clear hgb)
     | simp only [go_sem, Int.reduceToNat, ↓reduceIte, reduceCtorEq, Nat.reduceEqDiff, Nat.reduceAdd, Nat.reduceMul, Nat.reduceLT, Nat.reduceLeDiff, Nat.reduceBEq, Int.reduceBEq, Int.reduceBNe, Int.reduceEq, Int.reduceLT, Int.reduceLE, Int.reduceGE, Int.reduceGT, c1, c2, c3, c4, c5, c6, Nat.sub_zero, e1, e2, hrows_len, hasRows_up, up_app, e3, e4, e5, e6, e7, c7, c8, callE, resSV, AV.flat, CV.flat, TV.flat, hAll]
     | refine Or.inl ⟨_, ⟨fun _ _ => rfl, hab⟩, ?_⟩
     | refine ⟨_, ⟨fun _ _ => rfl, hab⟩, ?_⟩
     | refine Or.inl ⟨_, ⟨fun _ _ => rfl, hab2⟩, ?_⟩
     | refine ⟨_, ⟨fun _ _ => rfl, hab2⟩, ?_⟩
     | refine Or.inl ⟨_, ⟨fun _ _ => rfl, qr⟩, ?_⟩
     | refine ⟨_, ⟨fun _ _ => rfl, qr⟩, ?_⟩
     | refine Or.inl ⟨_, ⟨fun _ _ => rfl, hsame⟩, ?_⟩
     | refine ⟨_, ⟨fun _ _ => rfl, hsame⟩, ?_⟩
     | refine Or.inl ⟨_, ⟨fun _ _ => rfl, hsame2⟩, ?_⟩
     | refine ⟨_, ⟨fun _ _ => rfl, hsame2⟩, ?_⟩
     | refine Or.inl ⟨_, ⟨fun _ _ => rfl, awake07_spec⟩, ?_⟩
     | refine ⟨_, ⟨fun _ _ => rfl, awake07_spec⟩, ?_⟩
     | (refine ite_guard (fun hg => ?_) (fun hg => ?_) <;> (try simp only [Bool.not_eq_true, Bool.not_eq_false, Decidable.not_not] at hg) <;> (first | have hgb : (_ : Bool) = _ := hg | have hgb := ff hg | have hgb := tt hg))
     | (refine ⟨fun hc => ht _ ?_, fun hc => hf _ ?_⟩ <;> clear ht hf KT KF)
     | fail)
end Go.Proofs.Ytgmjgognpabmdaa.Fx
