/- What must come whatever the input is: fuse's examples. -/
import Derived.Test.YtgmjgognpabmdaaFxWeighAll
import Derived.Test.YtgmjgognpabmdaaFxSame07
-- ren_map
namespace Go.Proofs.Ytgmjgognpabmdaa.Fx
open Go Go.RowKit
set_option maxRecDepth 100000
set_option linter.unusedSimpArgs false
set_option linter.unusedVariables false
theorem ex25_a : hits (es0.all [[(1, 0), (2, 0)], [(2, 0), (3, 0)]] 2).mm = [(1, 17189), (2, 34101), (3, 16912)] := by decide
theorem ex25_b : hsort 2 [(1, 17189), (2, 34101), (3, 16912)] = [(2, 34101), (1, 17189), (3, 16912)] := by simp [hsort, List.mergeSort, List.MergeSort.Internal.splitInTwo, List.merge, less, mOk]
theorem ex25_c : weighR [[(1, 5)], [(1, 7)]] [1, 2] [2, 3] = ([(1, 11)], 0) := by
  have e1 : hits (ws0.all [2, 3] [1, 2] [[(1, 5)], [(1, 7)]] 2).mm = [(1, 11)] := by decide
  have e2 : (ws0.all [2, 3] [1, 2] [[(1, 5)], [(1, 7)]] 2).ov = false := by decide
  unfold weighR
  rw [if_pos (by decide)]
  simp only [List.length_cons, List.length_nil, Nat.reduceAdd, Nat.zero_add, e1, e2]
  simp [hsort, List.mergeSort]
theorem awake25_spec : Spec Try.prog 31 [] [] [.v (.t (.bool true))] [] := by
  have h1 := rank_spec [[(1, 0), (2, 0)], [(2, 0), (3, 0)]] (by decide) (by decide)
  rw [show ([[(1, 0), (2, 0)], [(2, 0), (3, 0)]] : List (List Ht)).length = 2 from rfl, ex25_a, ex25_b] at h1
  have h2 := weigh_spec [[(1, 5)], [(1, 7)]] [1, 2] [2, 3] (by decide) (by decide) (by decide) (by decide) (by decide)
  rw [ex25_c] at h2
  have h3 := same_spec [(2, 34101), (1, 17189), (3, 16912)] [(2, 34101), (1, 17189), (3, 16912)] (by decide)
  rw [decide_eq_true rfl] at h3
  have h4 := same_spec [(1, 11)] [(1, 11)] (by decide)
  rw [decide_eq_true rfl] at h4
  have e1 : lists [[(1, 0), (2, 0)], [(2, 0), (3, 0)]] = [[.sl 2 [[.int .i64 1, .int .i64 0], [.int .i64 2, .int .i64 0]]], [.sl 2 [[.int .i64 2, .int .i64 0], [.int .i64 3, .int .i64 0]]]] := rfl
  have e2 : lists [[(1, 5)], [(1, 7)]] = [[.sl 2 [[.int .i64 1, .int .i64 5]]], [.sl 2 [[.int .i64 1, .int .i64 7]]]] := rfl
  have e3 : hrows [(2, 34101), (1, 17189), (3, 16912)] = [[.int .i64 2, .int .i64 34101], [.int .i64 1, .int .i64 17189], [.int .i64 3, .int .i64 16912]] := rfl
  have e4 : hrows [(1, 11)] = [[.int .i64 1, .int .i64 11]] := rfl
  have e5 : ints [1, 2] = [[.int .i64 1], [.int .i64 2]] := rfl
  have e6 : ints [2, 3] = [[.int .i64 2], [.int .i64 3]] := rfl
  rw [e1, e3] at h1
  simp only [e2, e4, e5, e6] at h2
  rw [e3] at h3
  rw [e4] at h4
  refine spec_by Try.func31 rfl mixed tOk evOk (n := 39) rfl (by simp) (by simp) ?_
  rw [initSt_mk, show Try.f31.results.toList = [.tmp 0] from rfl]
  simp only [initL, AV.sv, List.map_cons, List.map_nil, Nat.reduceAdd, Nat.zero_add]
  repeat' (first
   | ((with_reducible_and_instances refine s_fold 10 0 6 rfl rfl rfl rfl (by decide) ?_); simp only [ins, del, List.modify_succ_cons, List.modify_zero_cons, List.modifyHead_cons, List.set_cons_zero, lcell_cons, lcell_nil, Nat.reduceEqDiff, Nat.reduceLT, Nat.reduceLeDiff, ↓reduceIte])
   | ((with_reducible_and_instances refine s_fold 10 1 9 rfl rfl rfl rfl (by decide) ?_); simp only [ins, del, List.modify_succ_cons, List.modify_zero_cons, List.modifyHead_cons, List.set_cons_zero, lcell_cons, lcell_nil, Nat.reduceEqDiff, Nat.reduceLT, Nat.reduceLeDiff, ↓reduceIte])
   | ((with_reducible_and_instances refine s_fold 17 0 14 rfl rfl rfl rfl (by decide) ?_); simp only [ins, del, List.modify_succ_cons, List.modify_zero_cons, List.modifyHead_cons, List.set_cons_zero, lcell_cons, lcell_nil, Nat.reduceEqDiff, Nat.reduceLT, Nat.reduceLeDiff, ↓reduceIte])
   | ((with_reducible_and_instances refine s_fold 17 1 16 rfl rfl rfl rfl (by decide) ?_); simp only [ins, del, List.modify_succ_cons, List.modify_zero_cons, List.modifyHead_cons, List.set_cons_zero, lcell_cons, lcell_nil, Nat.reduceEqDiff, Nat.reduceLT, Nat.reduceLeDiff, ↓reduceIte])
   | ((with_reducible_and_instances refine s_frz 10 rfl rfl ?_); simp only [del, mapV, SV.frz, CV.frz, hasA, AV.has, CV.has, List.drop, List.take, List.length_cons, List.length_nil, List.map_cons, List.map_nil, Nat.reduceAdd, Nat.zero_add, Nat.reduceEqDiff, Nat.reduceLeDiff, Nat.le_refl, ↓reduceIte, Bool.false_eq_true])
   | ((with_reducible_and_instances refine s_frz 17 rfl rfl ?_); simp only [del, mapV, SV.frz, CV.frz, hasA, AV.has, CV.has, List.drop, List.take, List.length_cons, List.length_nil, List.map_cons, List.map_nil, Nat.reduceAdd, Nat.zero_add, Nat.reduceEqDiff, Nat.reduceLeDiff, Nat.le_refl, ↓reduceIte, Bool.false_eq_true])
   | ((with_reducible_and_instances refine s_frz 18 rfl rfl ?_); simp only [del, mapV, SV.frz, CV.frz, hasA, AV.has, CV.has, List.drop, List.take, List.length_cons, List.length_nil, List.map_cons, List.map_nil, Nat.reduceAdd, Nat.zero_add, Nat.reduceEqDiff, Nat.reduceLeDiff, Nat.le_refl, ↓reduceIte, Bool.false_eq_true])
   | ((with_reducible_and_instances refine s_frz 19 rfl rfl ?_); simp only [del, mapV, SV.frz, CV.frz, hasA, AV.has, CV.has, List.drop, List.take, List.length_cons, List.length_nil, List.map_cons, List.map_nil, Nat.reduceAdd, Nat.zero_add, Nat.reduceEqDiff, Nat.reduceLeDiff, Nat.le_refl, ↓reduceIte, Bool.false_eq_true])
   | ((with_reducible_and_instances refine s_frz 27 rfl rfl ?_); simp only [del, mapV, SV.frz, CV.frz, hasA, AV.has, CV.has, List.drop, List.take, List.length_cons, List.length_nil, List.map_cons, List.map_nil, Nat.reduceAdd, Nat.zero_add, Nat.reduceEqDiff, Nat.reduceLeDiff, Nat.le_refl, ↓reduceIte, Bool.false_eq_true])
   | ((with_reducible_and_instances refine s_frz 32 rfl rfl ?_); simp only [del, mapV, SV.frz, CV.frz, hasA, AV.has, CV.has, List.drop, List.take, List.length_cons, List.length_nil, List.map_cons, List.map_nil, Nat.reduceAdd, Nat.zero_add, Nat.reduceEqDiff, Nat.reduceLeDiff, Nat.le_refl, ↓reduceIte, Bool.false_eq_true])
   | (with_reducible first | refine s_seq ?_ | refine s_block ?_ | refine s_region fun kr hr => ?_)
   | (with_reducible refine s_text tOk [6, 9, 10, 14, 16, 17, 18, 19, 27, 32, 1000, 1001, 1002, 1003] (by kernel_rfl) (by simp [HeapIn, namers, namerDst, namerOp, namedOp, namedFn, ownLoad, Blk.has, hasRows, hasL, CV.has, hasRows_up, hasM_up, hasRows_append]; (try ((repeat' apply And.intro) <;> intros <;> omega))) fun kr hr => ?_)
   | (with_reducible first | refine s_op fun K' hk => ?_ | refine t_op fun K' hk => ?_ | (refine hk _ ?_; clear hk K') | (refine ht _ ?_; clear ht hf KT KF) | (refine hf _ ?_; clear ht hf KT KF) | ((first | refine s_nil ?_ | refine t_nil ?_); refine hr _ ?_; clear hr kr))
   | ((with_reducible refine n_seqK [0, 1, 2, 3, 5, 7, 11, 17, 23, 25, 29, 32] [6, 9, 10, 14, 16, 17, 18, 19, 27, 32] ?_); simp only [mk_keep, keepL, List.mem_cons, List.not_mem_nil, Nat.reduceEqDiff, Nat.zero_ne_one, Nat.one_ne_zero, reduceCtorEq, or_false, false_or, or_true, true_or, or_self, eq_self, ↓reduceIte])
   | (with_reducible first | refine s_cond fun KT KF ht hf => ?_ | refine s_skip ?_)
   | ((with_reducible refine s_long ?_); simp only [List.cons_append, List.nil_append])
   | (with_reducible first | refine s_exit ?_ | refine s_ret ?_ | refine e_seq ?_ | refine r_seq ?_ | refine n_block ?_ | refine e_block ?_ | refine r_block ?_ | refine e_loop ?_ | refine r_loop ?_ | refine e_round ?_ | refine r_round ?_ | refine s_round ?_ | refine f_block ?_ (by decide) | refine r_res ?_ | refine n_res ?_)
   | (simp only [hgb, go_sem, Int.reduceToNat, ↓reduceIte, reduceCtorEq, Nat.reduceEqDiff, Nat.reduceAdd, Nat.reduceMul, Nat.reduceLT, Nat.reduceLeDiff, Nat.reduceBEq, Int.reduceBEq, Int.reduceBNe, String.reduceBEq, Int.reduceEq, Int.reduceLT, Int.reduceLE, Int.reduceGE, Int.reduceGT, callE, resSV, AV.flat, CV.flat, TV.flat]; clear hgb)
   | simp only [go_sem, Int.reduceToNat, ↓reduceIte, reduceCtorEq, Nat.reduceEqDiff, Nat.reduceAdd, Nat.reduceMul, Nat.reduceLT, Nat.reduceLeDiff, Nat.reduceBEq, Int.reduceBEq, Int.reduceBNe, String.reduceBEq, Int.reduceEq, Int.reduceLT, Int.reduceLE, Int.reduceGE, Int.reduceGT, callE, resSV, AV.flat, CV.flat, TV.flat, hAll]
   | refine Or.inl ⟨_, ⟨fun _ _ => rfl, h1⟩, ?_⟩
   | refine ⟨_, ⟨fun _ _ => rfl, h1⟩, ?_⟩
   | refine Or.inl ⟨_, ⟨fun _ _ => rfl, h2⟩, ?_⟩
   | refine ⟨_, ⟨fun _ _ => rfl, h2⟩, ?_⟩
   | refine Or.inl ⟨_, ⟨fun _ _ => rfl, h3⟩, ?_⟩
   | refine ⟨_, ⟨fun _ _ => rfl, h3⟩, ?_⟩
   | refine Or.inl ⟨_, ⟨fun _ _ => rfl, h4⟩, ?_⟩
   | refine ⟨_, ⟨fun _ _ => rfl, h4⟩, ?_⟩
   | (refine ite_guard (fun hg => ?_) (fun hg => ?_) <;> (try simp only [Bool.not_eq_true, Bool.not_eq_false, Decidable.not_not] at hg) <;> (first | have hgb : (_ : Bool) = _ := hg | have hgb := ff hg | have hgb := tt hg))
   | (refine ⟨fun hc => ht _ ?_, fun hc => hf _ ?_⟩ <;> clear ht hf KT KF)
   | fail)
end Go.Proofs.Ytgmjgognpabmdaa.Fx
