/- A best that is none; of two unlike hits just one is better. -/
import Derived.Test.YtgmjgognpabmdaaFxAwake07
namespace Go.Proofs.Ytgmjgognpabmdaa.Fx
open Go Go.RowKit
set_option maxRecDepth 100000
set_option linter.unusedSimpArgs false
set_option linter.unusedVariables false
theorem len_nil : Spec Try.prog 25 [.v (.t .nilp)] [] [.v (.t (.int .i64 0))] [] := by
  refine spec_by Try.func25 rfl mixed tOk evOk (n := 11) rfl (by simp) (by simp) ?_
  rw [initSt_mk, show Try.f25.results.toList = [.tmp 2] from rfl]
  simp only [initL, AV.sv, List.map_cons, List.map_nil, Nat.reduceAdd, Nat.zero_add]
  repeat' (first
   | (with_reducible first | refine s_seq ?_ | refine s_block ?_ | refine s_region fun kr hr => ?_)
   | (with_reducible refine s_text tOk [1000, 1001, 1002, 1003] (by kernel_rfl) (by simp [HeapIn, namers, namerDst, namerOp, Blk.has, hasRows, hasL, CV.has, hasRows_up, hasRows_append]; (try ((repeat' apply And.intro) <;> intros <;> omega))) fun kr hr => ?_)
   | (with_reducible first | refine s_op fun K' hk => ?_ | refine t_op fun K' hk => ?_ | (refine hk _ ?_; clear hk K') | (refine ht _ ?_; clear ht hf KT KF) | (refine hf _ ?_; clear ht hf KT KF) | ((first | refine s_nil ?_ | refine t_nil ?_); refine hr _ ?_; clear hr kr))
   | ((with_reducible refine n_seqK [0, 1, 2, 4] [] ?_); simp only [mk_keep, keepL, List.mem_cons, List.not_mem_nil, Nat.reduceEqDiff, Nat.zero_ne_one, Nat.one_ne_zero, reduceCtorEq, or_false, false_or, or_true, true_or, or_self, eq_self, ↓reduceIte])
   | (with_reducible first | refine s_cond fun KT KF ht hf => ?_ | refine s_skip ?_)
   | ((with_reducible refine s_long ?_); simp only [List.cons_append, List.nil_append])
   | (with_reducible first | refine s_exit ?_ | refine s_ret ?_ | refine e_seq ?_ | refine r_seq ?_ | refine n_block ?_ | refine e_block ?_ | refine r_block ?_ | refine e_loop ?_ | refine r_loop ?_ | refine e_round ?_ | refine r_round ?_ | refine s_round ?_ | refine f_block ?_ (by decide) | refine r_res ?_ | refine n_res ?_)
   | (simp only [hgb, go_sem, Int.reduceToNat, ↓reduceIte, reduceCtorEq, Nat.reduceEqDiff, Nat.reduceAdd, Nat.reduceMul, Nat.reduceLT, Nat.reduceLeDiff, Nat.reduceBEq, Int.reduceBEq, Int.reduceBNe, Int.reduceEq, Int.reduceLT, Int.reduceLE, Int.reduceGE, Int.reduceGT]; clear hgb)
   | simp only [go_sem, Int.reduceToNat, ↓reduceIte, reduceCtorEq, Nat.reduceEqDiff, Nat.reduceAdd, Nat.reduceMul, Nat.reduceLT, Nat.reduceLeDiff, Nat.reduceBEq, Int.reduceBEq, Int.reduceBNe, Int.reduceEq, Int.reduceLT, Int.reduceLE, Int.reduceGE, Int.reduceGT, hAll]
   | (refine ite_guard (fun hg => ?_) (fun hg => ?_) <;> (try simp only [Bool.not_eq_true, Bool.not_eq_false, Decidable.not_not] at hg) <;> (first | have hgb : (_ : Bool) = _ := hg | have hgb := ff hg | have hgb := tt hg))
   | (refine ⟨fun hc => ht _ ?_, fun hc => hf _ ?_⟩ <;> clear ht hf KT KF)
   | fail)
theorem full_nil : Spec Try.prog 26 [.v (.t .nilp)] [] [.v (.t (.bool false))] [] := by
  refine spec_by Try.func26 rfl mixed tOk evOk (n := 18) rfl (by simp) (by simp) ?_
  rw [initSt_mk, show Try.f26.results.toList = [.tmp 2] from rfl]
  simp only [initL, AV.sv, List.map_cons, List.map_nil, Nat.reduceAdd, Nat.zero_add]
  repeat' (first
   | (with_reducible first | refine s_seq ?_ | refine s_block ?_ | refine s_region fun kr hr => ?_)
   | (with_reducible refine s_text tOk [1000, 1001, 1002, 1003] (by kernel_rfl) (by simp [HeapIn, namers, namerDst, namerOp, Blk.has, hasRows, hasL, CV.has, hasRows_up, hasRows_append]; (try ((repeat' apply And.intro) <;> intros <;> omega))) fun kr hr => ?_)
   | (with_reducible first | refine s_op fun K' hk => ?_ | refine t_op fun K' hk => ?_ | (refine hk _ ?_; clear hk K') | (refine ht _ ?_; clear ht hf KT KF) | (refine hf _ ?_; clear ht hf KT KF) | ((first | refine s_nil ?_ | refine t_nil ?_); refine hr _ ?_; clear hr kr))
   | ((with_reducible refine n_seqK [0, 1, 2] [] ?_); simp only [mk_keep, keepL, List.mem_cons, List.not_mem_nil, Nat.reduceEqDiff, Nat.zero_ne_one, Nat.one_ne_zero, reduceCtorEq, or_false, false_or, or_true, true_or, or_self, eq_self, ↓reduceIte])
   | (with_reducible first | refine s_cond fun KT KF ht hf => ?_ | refine s_skip ?_)
   | ((with_reducible refine s_long ?_); simp only [List.cons_append, List.nil_append])
   | (with_reducible first | refine s_exit ?_ | refine s_ret ?_ | refine e_seq ?_ | refine r_seq ?_ | refine n_block ?_ | refine e_block ?_ | refine r_block ?_ | refine e_loop ?_ | refine r_loop ?_ | refine e_round ?_ | refine r_round ?_ | refine s_round ?_ | refine f_block ?_ (by decide) | refine r_res ?_ | refine n_res ?_)
   | (simp only [hgb, go_sem, Int.reduceToNat, ↓reduceIte, reduceCtorEq, Nat.reduceEqDiff, Nat.reduceAdd, Nat.reduceMul, Nat.reduceLT, Nat.reduceLeDiff, Nat.reduceBEq, Int.reduceBEq, Int.reduceBNe, Int.reduceEq, Int.reduceLT, Int.reduceLE, Int.reduceGE, Int.reduceGT]; clear hgb)
   | simp only [go_sem, Int.reduceToNat, ↓reduceIte, reduceCtorEq, Nat.reduceEqDiff, Nat.reduceAdd, Nat.reduceMul, Nat.reduceLT, Nat.reduceLeDiff, Nat.reduceBEq, Int.reduceBEq, Int.reduceBNe, Int.reduceEq, Int.reduceLT, Int.reduceLE, Int.reduceGE, Int.reduceGT, hAll]
   | (refine ite_guard (fun hg => ?_) (fun hg => ?_) <;> (try simp only [Bool.not_eq_true, Bool.not_eq_false, Decidable.not_not] at hg) <;> (first | have hgb : (_ : Bool) = _ := hg | have hgb := ff hg | have hgb := tt hg))
   | (refine ⟨fun hc => ht _ ?_, fun hc => hf _ ?_⟩ <;> clear ht hf KT KF)
   | fail)
theorem worst_nil : Spec Try.prog 27 [.v (.t .nilp)] [] [.agg (hcell (0, 0)), .v (.t (.bool false))] [] := by
  refine spec_by Try.func27 rfl mixed tOk evOk (n := 15) rfl (by simp) (by simp) ?_
  rw [initSt_mk, show Try.f27.results.toList = [.cell 2 23, .tmp 3] from rfl]
  simp only [initL, AV.sv, List.map_cons, List.map_nil, Nat.reduceAdd, Nat.zero_add, hcell]
  repeat' (first
   | (with_reducible first | refine s_seq ?_ | refine s_block ?_ | refine s_region fun kr hr => ?_)
   | (with_reducible refine s_text tOk [2, 1000, 1001, 1002, 1003] (by kernel_rfl) (by simp [HeapIn, namers, namerDst, namerOp, Blk.has, hasRows, hasL, CV.has, hasRows_up, hasRows_append]; (try ((repeat' apply And.intro) <;> intros <;> omega))) fun kr hr => ?_)
   | (with_reducible first | refine s_op fun K' hk => ?_ | refine t_op fun K' hk => ?_ | (refine hk _ ?_; clear hk K') | (refine ht _ ?_; clear ht hf KT KF) | (refine hf _ ?_; clear ht hf KT KF) | ((first | refine s_nil ?_ | refine t_nil ?_); refine hr _ ?_; clear hr kr))
   | ((with_reducible refine n_seqK [0, 1, 2, 3, 6] [2] ?_); simp only [mk_keep, keepL, List.mem_cons, List.not_mem_nil, Nat.reduceEqDiff, Nat.zero_ne_one, Nat.one_ne_zero, reduceCtorEq, or_false, false_or, or_true, true_or, or_self, eq_self, ↓reduceIte])
   | (with_reducible first | refine s_cond fun KT KF ht hf => ?_ | refine s_skip ?_)
   | ((with_reducible refine s_long ?_); simp only [List.cons_append, List.nil_append])
   | (with_reducible first | refine s_exit ?_ | refine s_ret ?_ | refine e_seq ?_ | refine r_seq ?_ | refine n_block ?_ | refine e_block ?_ | refine r_block ?_ | refine e_loop ?_ | refine r_loop ?_ | refine e_round ?_ | refine r_round ?_ | refine s_round ?_ | refine f_block ?_ (by decide) | refine r_res ?_ | refine n_res ?_)
   | (simp only [hgb, go_sem, Int.reduceToNat, ↓reduceIte, reduceCtorEq, Nat.reduceEqDiff, Nat.reduceAdd, Nat.reduceMul, Nat.reduceLT, Nat.reduceLeDiff, Nat.reduceBEq, Int.reduceBEq, Int.reduceBNe, Int.reduceEq, Int.reduceLT, Int.reduceLE, Int.reduceGE, Int.reduceGT, callE, resSV, AV.flat, CV.flat, TV.flat]; clear hgb)
   | simp only [go_sem, Int.reduceToNat, ↓reduceIte, reduceCtorEq, Nat.reduceEqDiff, Nat.reduceAdd, Nat.reduceMul, Nat.reduceLT, Nat.reduceLeDiff, Nat.reduceBEq, Int.reduceBEq, Int.reduceBNe, Int.reduceEq, Int.reduceLT, Int.reduceLE, Int.reduceGE, Int.reduceGT, callE, resSV, AV.flat, CV.flat, TV.flat, hAll]
   | refine Or.inl ⟨_, ⟨fun _ _ => rfl, len_nil⟩, ?_⟩
   | refine ⟨_, ⟨fun _ _ => rfl, len_nil⟩, ?_⟩
   | (refine ite_guard (fun hg => ?_) (fun hg => ?_) <;> (try simp only [Bool.not_eq_true, Bool.not_eq_false, Decidable.not_not] at hg) <;> (first | have hgb : (_ : Bool) = _ := hg | have hgb := ff hg | have hgb := tt hg))
   | (refine ⟨fun hc => ht _ ?_, fun hc => hf _ ?_⟩ <;> clear ht hf KT KF)
   | fail)
theorem add_nil (a b : Int) : Spec Try.prog 21 [.v (.t .nilp), .agg (hcell (a, b))] [] [.v (.t (.bool false))] [] := by
  refine spec_by Try.func21 rfl mixed tOk evOk (n := 50) rfl (by simp) (by simp) ?_
  rw [initSt_mk, show Try.f21.results.toList = [.tmp 4] from rfl]
  simp only [initL, AV.sv, List.map_cons, List.map_nil, Nat.reduceAdd, Nat.zero_add, hcell]
  repeat' (first
   | with_reducible refine s_draw (id := 1) ?_
   | with_reducible refine s_draw (id := 5) ?_
   | ((with_reducible refine a_seg tOk [3, 1000, 1001, 1002, 1003] 31 0 9 (by decide) (by kernel_rfl) (by simp [HeapIn, namers, namerDst, namerOp, Blk.has, hasRows, hasL, CV.has, hasRows_up, hasRows_append]; (try ((repeat' apply And.intro) <;> intros <;> omega))) fun kr hr => ?_); simp only [List.drop_succ_cons, List.drop_zero, List.take_succ_cons, List.take_zero, List.map_cons, List.map_nil, List.cons_append, List.nil_append, Nat.reduceSub])
   | ((with_reducible refine a_seg tOk [3, 1000, 1001, 1002, 1003] 31 10 13 (by decide) (by kernel_rfl) (by simp [HeapIn, namers, namerDst, namerOp, Blk.has, hasRows, hasL, CV.has, hasRows_up, hasRows_append]; (try ((repeat' apply And.intro) <;> intros <;> omega))) fun kr hr => ?_); simp only [List.drop_succ_cons, List.drop_zero, List.take_succ_cons, List.take_zero, List.map_cons, List.map_nil, List.cons_append, List.nil_append, Nat.reduceSub])
   | ((with_reducible refine a_seg tOk [3, 1000, 1001, 1002, 1003] 31 14 27 (by decide) (by kernel_rfl) (by simp [HeapIn, namers, namerDst, namerOp, Blk.has, hasRows, hasL, CV.has, hasRows_up, hasRows_append]; (try ((repeat' apply And.intro) <;> intros <;> omega))) fun kr hr => ?_); simp only [List.drop_succ_cons, List.drop_zero, List.take_succ_cons, List.take_zero, List.map_cons, List.map_nil, List.cons_append, List.nil_append, Nat.reduceSub])
   | ((with_reducible refine a_seg tOk [3, 1000, 1001, 1002, 1003] 31 28 31 (by decide) (by kernel_rfl) (by simp [HeapIn, namers, namerDst, namerOp, Blk.has, hasRows, hasL, CV.has, hasRows_up, hasRows_append]; (try ((repeat' apply And.intro) <;> intros <;> omega))) fun kr hr => ?_); simp only [List.drop_succ_cons, List.drop_zero, List.take_succ_cons, List.take_zero, List.map_cons, List.map_nil, List.cons_append, List.nil_append, Nat.reduceSub])
   | ((with_reducible refine a_one 31 9 (by decide) (by kernel_rfl) fun kr hr => ?_); simp only [List.drop_succ_cons, List.drop_zero, List.take_succ_cons, List.take_zero, List.map_cons, List.map_nil, List.cons_append, List.nil_append, Nat.reduceSub])
   | ((with_reducible refine a_one 31 13 (by decide) (by kernel_rfl) fun kr hr => ?_); simp only [List.drop_succ_cons, List.drop_zero, List.take_succ_cons, List.take_zero, List.map_cons, List.map_nil, List.cons_append, List.nil_append, Nat.reduceSub])
   | ((with_reducible refine a_one 31 27 (by decide) (by kernel_rfl) fun kr hr => ?_); simp only [List.drop_succ_cons, List.drop_zero, List.take_succ_cons, List.take_zero, List.map_cons, List.map_nil, List.cons_append, List.nil_append, Nat.reduceSub])
   | with_reducible refine a_end 31 (by decide) ?_
   | ((with_reducible refine a_seg tOk [3, 1000, 1001, 1002, 1003] 7 0 6 (by decide) (by kernel_rfl) (by simp [HeapIn, namers, namerDst, namerOp, Blk.has, hasRows, hasL, CV.has, hasRows_up, hasRows_append]; (try ((repeat' apply And.intro) <;> intros <;> omega))) fun kr hr => ?_); simp only [List.drop_succ_cons, List.drop_zero, List.take_succ_cons, List.take_zero, List.map_cons, List.map_nil, List.cons_append, List.nil_append, Nat.reduceSub])
   | ((with_reducible refine a_one 7 6 (by decide) (by kernel_rfl) fun kr hr => ?_); simp only [List.drop_succ_cons, List.drop_zero, List.take_succ_cons, List.take_zero, List.map_cons, List.map_nil, List.cons_append, List.nil_append, Nat.reduceSub])
   | with_reducible refine a_end 7 (by decide) ?_
   | (with_reducible refine hr _ ?_; clear hr kr)
   | (with_reducible first | refine s_seq ?_ | refine s_block ?_ | refine s_region fun kr hr => ?_)
   | (with_reducible refine s_text tOk [3, 1000, 1001, 1002, 1003] (by kernel_rfl) (by simp [HeapIn, namers, namerDst, namerOp, Blk.has, hasRows, hasL, CV.has, hasRows_up, hasRows_append]; (try ((repeat' apply And.intro) <;> intros <;> omega))) fun kr hr => ?_)
   | (with_reducible first | refine s_op fun K' hk => ?_ | refine t_op fun K' hk => ?_ | (refine hk _ ?_; clear hk K') | (refine ht _ ?_; clear ht hf KT KF) | (refine hf _ ?_; clear ht hf KT KF) | ((first | refine s_nil ?_ | refine t_nil ?_); refine hr _ ?_; clear hr kr))
   | ((with_reducible refine n_seqK [0, 1, 2, 3, 4, 20, 23, 26, 31, 35, 37, 45, 46] [3] ?_); simp only [mk_keep, keepL, List.mem_cons, List.not_mem_nil, Nat.reduceEqDiff, Nat.zero_ne_one, Nat.one_ne_zero, reduceCtorEq, or_false, false_or, or_true, true_or, or_self, eq_self, ↓reduceIte])
   | (with_reducible first | refine s_cond fun KT KF ht hf => ?_ | refine s_skip ?_)
   | ((with_reducible refine s_long ?_); simp only [List.cons_append, List.nil_append])
   | (with_reducible first | refine s_exit ?_ | refine s_ret ?_ | refine e_seq ?_ | refine r_seq ?_ | refine n_block ?_ | refine e_block ?_ | refine r_block ?_ | refine e_loop ?_ | refine r_loop ?_ | refine e_round ?_ | refine r_round ?_ | refine s_round ?_ | refine f_block ?_ (by decide) | refine r_res ?_ | refine n_res ?_)
   | (simp only [hgb, go_sem, Int.reduceToNat, ↓reduceIte, reduceCtorEq, Nat.reduceEqDiff, Nat.reduceAdd, Nat.reduceMul, Nat.reduceLT, Nat.reduceLeDiff, Nat.reduceBEq, Int.reduceBEq, Int.reduceBNe, Int.reduceEq, Int.reduceLT, Int.reduceLE, Int.reduceGE, Int.reduceGT]; clear hgb)
   | simp only [go_sem, Int.reduceToNat, ↓reduceIte, reduceCtorEq, Nat.reduceEqDiff, Nat.reduceAdd, Nat.reduceMul, Nat.reduceLT, Nat.reduceLeDiff, Nat.reduceBEq, Int.reduceBEq, Int.reduceBNe, Int.reduceEq, Int.reduceLT, Int.reduceLE, Int.reduceGE, Int.reduceGT, hAll]
   | (refine ite_guard (fun hg => ?_) (fun hg => ?_) <;> (try simp only [Bool.not_eq_true, Bool.not_eq_false, Decidable.not_not] at hg) <;> (first | have hgb : (_ : Bool) = _ := hg | have hgb := ff hg | have hgb := tt hg))
   | (refine ⟨fun hc => ht _ ?_, fun hc => hf _ ?_⟩ <;> clear ht hf KT KF)
   | fail)
set_option maxHeartbeats 4000000 in
theorem topkNone_spec (a b : Int) : Spec Try.prog 7 [.agg [.t (.int .i64 a), .t (.int .i64 b)]] [] [.v (.t (.bool true))] [] := by
  have h1 := worst_nil
  have h2 := add_nil a b
  rw [hcell_eq] at h1 h2
  refine spec_by Try.func7 rfl mixed tOk evOk (n := 43) rfl (by simp) (by simp) ?_
  rw [initSt_mk, show Try.f7.results.toList = [.tmp 2] from rfl]
  simp only [initL, AV.sv, List.map_cons, List.map_nil, Nat.reduceAdd, Nat.zero_add]
  repeat' (first
   | (with_reducible first | refine s_seq ?_ | refine s_block ?_ | refine s_region fun kr hr => ?_)
   | (with_reducible refine s_text tOk [1, 4, 1000, 1001, 1002, 1003] (by kernel_rfl) (by simp [HeapIn, namers, namerDst, namerOp, Blk.has, hasRows, hasL, CV.has, hasRows_up, hasRows_append]; (try ((repeat' apply And.intro) <;> intros <;> omega))) fun kr hr => ?_)
   | (with_reducible first | refine s_op fun K' hk => ?_ | refine t_op fun K' hk => ?_ | (refine hk _ ?_; clear hk K') | (refine ht _ ?_; clear ht hf KT KF) | (refine hf _ ?_; clear ht hf KT KF) | ((first | refine s_nil ?_ | refine t_nil ?_); refine hr _ ?_; clear hr kr))
   | ((with_reducible refine n_seqK [0, 1, 2, 3, 4, 5, 23, 27, 31] [1, 4] ?_); simp only [mk_keep, keepL, List.mem_cons, List.not_mem_nil, Nat.reduceEqDiff, Nat.zero_ne_one, Nat.one_ne_zero, reduceCtorEq, or_false, false_or, or_true, true_or, or_self, eq_self, ↓reduceIte])
   | (with_reducible first | refine s_cond fun KT KF ht hf => ?_ | refine s_skip ?_)
   | ((with_reducible refine s_long ?_); simp only [List.cons_append, List.nil_append])
   | (with_reducible first | refine s_exit ?_ | refine s_ret ?_ | refine e_seq ?_ | refine r_seq ?_ | refine n_block ?_ | refine e_block ?_ | refine r_block ?_ | refine e_loop ?_ | refine r_loop ?_ | refine e_round ?_ | refine r_round ?_ | refine s_round ?_ | refine f_block ?_ (by decide) | refine r_res ?_ | refine n_res ?_)
   | (simp only [hgb, go_sem, Int.reduceToNat, ↓reduceIte, reduceCtorEq, Nat.reduceEqDiff, Nat.reduceAdd, Nat.reduceMul, Nat.reduceLT, Nat.reduceLeDiff, Nat.reduceBEq, Int.reduceBEq, Int.reduceBNe, Int.reduceEq, Int.reduceLT, Int.reduceLE, Int.reduceGE, Int.reduceGT, callE, resSV, AV.flat, CV.flat, TV.flat]; clear hgb)
   | simp only [go_sem, Int.reduceToNat, ↓reduceIte, reduceCtorEq, Nat.reduceEqDiff, Nat.reduceAdd, Nat.reduceMul, Nat.reduceLT, Nat.reduceLeDiff, Nat.reduceBEq, Int.reduceBEq, Int.reduceBNe, Int.reduceEq, Int.reduceLT, Int.reduceLE, Int.reduceGE, Int.reduceGT, callE, resSV, AV.flat, CV.flat, TV.flat, hAll]
   | refine Or.inl ⟨_, ⟨fun _ _ => rfl, h1⟩, ?_⟩
   | refine ⟨_, ⟨fun _ _ => rfl, h1⟩, ?_⟩
   | refine Or.inl ⟨_, ⟨fun _ _ => rfl, h2⟩, ?_⟩
   | refine ⟨_, ⟨fun _ _ => rfl, h2⟩, ?_⟩
   | refine Or.inl ⟨_, ⟨fun _ _ => rfl, len_nil⟩, ?_⟩
   | refine ⟨_, ⟨fun _ _ => rfl, len_nil⟩, ?_⟩
   | refine Or.inl ⟨_, ⟨fun _ _ => rfl, full_nil⟩, ?_⟩
   | refine ⟨_, ⟨fun _ _ => rfl, full_nil⟩, ?_⟩
   | refine Or.inl ⟨_, ⟨fun _ _ => rfl, list_none⟩, ?_⟩
   | refine ⟨_, ⟨fun _ _ => rfl, list_none⟩, ?_⟩
   | refine Or.inl ⟨_, ⟨fun _ _ => rfl, awake07_spec⟩, ?_⟩
   | refine ⟨_, ⟨fun _ _ => rfl, awake07_spec⟩, ?_⟩
   | (refine ite_guard (fun hg => ?_) (fun hg => ?_) <;> (try simp only [Bool.not_eq_true, Bool.not_eq_false, Decidable.not_not] at hg) <;> (first | have hgb : (_ : Bool) = _ := hg | have hgb := ff hg | have hgb := tt hg))
   | (refine ⟨fun hc => ht _ ?_, fun hc => hf _ ?_⟩ <;> clear ht hf KT KF)
   | fail)
set_option maxHeartbeats 8000000 in
theorem topkStrict_spec (m a1 a2 b1 b2 c1 c2 : Int) : Spec Try.prog 5 [.v (.t (.int .i64 m)), .agg [.t (.int .i64 a1), .t (.int .i64 a2), .t (.int .i64 b1), .t (.int .i64 b2), .t (.int .i64 c1), .t (.int .i64 c2)]] [] [.v (.t (.bool true))] [] := by
  have hab := less_spec m (a1, a2) (b1, b2)
  have hba := less_spec m (b1, b2) (a1, a2)
  have haa := less_spec m (a1, a2) (a1, a2)
  have hbc := less_spec m (b1, b2) (c1, c2)
  have hac := less_spec m (a1, a2) (c1, c2)
  simp only [hcell] at hab hba haa hbc hac
  by_cases hM : mOk m = true
  · have hM' : 1 ≤ m ∧ m ≤ 3 := by simpa [mOk] using hM
    have g1 := ff (show ¬ m < 1 by omega)
    have g2 := ff (show ¬ 3 < m by omega)
    have q1 := less_lt m hM (a1, a2) (b1, b2)
    have q2 := less_lt m hM (b1, b2) (a1, a2)
    have q3 := less_lt m hM (a1, a2) (a1, a2)
    have q4 := less_lt m hM (b1, b2) (c1, c2)
    have q5 := less_lt m hM (a1, a2) (c1, c2)
    have haa' : less m (a1, a2) (a1, a2) = false := by rw [Bool.eq_false_iff]; intro h; rw [q3] at h; simp at h
    rw [haa'] at haa
    by_cases he : a1 = b1 ∧ a2 = b2
    · obtain ⟨rfl, rfl⟩ := he
      rw [haa'] at hab hba
      refine spec_by Try.func5 rfl mixed tOk evOk (n := 78) rfl (by simp) (by simp) ?_
      rw [initSt_mk, show Try.f5.results.toList = [.tmp 4] from rfl]
      simp only [initL, AV.sv, List.map_cons, List.map_nil, Nat.reduceAdd, Nat.zero_add]
      repeat' (first
       | (with_reducible first | refine s_seq ?_ | refine s_block ?_ | refine s_region fun kr hr => ?_)
       | (with_reducible refine s_text tOk [3, 5, 6, 7, 29, 1000, 1001, 1002, 1003] (by kernel_rfl) (by simp [HeapIn, namers, namerDst, namerOp, Blk.has, hasRows, hasL, CV.has, hasRows_up, hasRows_append, g1, g2, gt_iff_lt]; (try ((repeat' apply And.intro) <;> intros <;> omega))) fun kr hr => ?_)
       | (with_reducible first | refine s_op fun K' hk => ?_ | refine t_op fun K' hk => ?_ | (refine hk _ ?_; clear hk K') | (refine ht _ ?_; clear ht hf KT KF) | (refine hf _ ?_; clear ht hf KT KF) | ((first | refine s_nil ?_ | refine t_nil ?_); refine hr _ ?_; clear hr kr))
       | ((with_reducible refine n_seqK [0, 1, 2, 3, 4, 5, 6, 7, 14, 15, 19, 23, 37, 56] [3, 5, 6, 7, 29] ?_); simp only [mk_keep, keepL, List.mem_cons, List.not_mem_nil, Nat.reduceEqDiff, Nat.zero_ne_one, Nat.one_ne_zero, reduceCtorEq, or_false, false_or, or_true, true_or, or_self, eq_self, ↓reduceIte])
       | (with_reducible first | refine s_cond fun KT KF ht hf => ?_ | refine s_skip ?_)
       | ((with_reducible refine s_long ?_); simp only [List.cons_append, List.nil_append])
       | (with_reducible first | refine s_exit ?_ | refine s_ret ?_ | refine e_seq ?_ | refine r_seq ?_ | refine n_block ?_ | refine e_block ?_ | refine r_block ?_ | refine e_loop ?_ | refine r_loop ?_ | refine e_round ?_ | refine r_round ?_ | refine s_round ?_ | refine f_block ?_ (by decide) | refine r_res ?_ | refine n_res ?_)
       | (simp only [hgb, go_sem, Int.reduceToNat, ↓reduceIte, reduceCtorEq, Nat.reduceEqDiff, Nat.reduceAdd, Nat.reduceMul, Nat.reduceLT, Nat.reduceLeDiff, Nat.reduceBEq, Int.reduceBEq, Int.reduceBNe, Int.reduceEq, Int.reduceLT, Int.reduceLE, Int.reduceGE, Int.reduceGT, g1, g2, gt_iff_lt, callE, resSV, AV.flat, CV.flat, TV.flat]; clear hgb)
       | simp only [go_sem, Int.reduceToNat, ↓reduceIte, reduceCtorEq, Nat.reduceEqDiff, Nat.reduceAdd, Nat.reduceMul, Nat.reduceLT, Nat.reduceLeDiff, Nat.reduceBEq, Int.reduceBEq, Int.reduceBNe, Int.reduceEq, Int.reduceLT, Int.reduceLE, Int.reduceGE, Int.reduceGT, g1, g2, gt_iff_lt, callE, resSV, AV.flat, CV.flat, TV.flat, hAll]
       | refine Or.inl ⟨_, ⟨fun _ _ => rfl, hab⟩, ?_⟩
       | refine ⟨_, ⟨fun _ _ => rfl, hab⟩, ?_⟩
       | refine Or.inl ⟨_, ⟨fun _ _ => rfl, haa⟩, ?_⟩
       | refine ⟨_, ⟨fun _ _ => rfl, haa⟩, ?_⟩
       | refine Or.inl ⟨_, ⟨fun _ _ => rfl, hbc⟩, ?_⟩
       | refine ⟨_, ⟨fun _ _ => rfl, hbc⟩, ?_⟩
       | refine Or.inl ⟨_, ⟨fun _ _ => rfl, hac⟩, ?_⟩
       | refine ⟨_, ⟨fun _ _ => rfl, hac⟩, ?_⟩
       | refine Or.inl ⟨_, ⟨fun _ _ => rfl, awake07_spec⟩, ?_⟩
       | refine ⟨_, ⟨fun _ _ => rfl, awake07_spec⟩, ?_⟩
       | (refine ite_guard (fun hg => ?_) (fun hg => ?_) <;> (try simp only [Bool.not_eq_true, Bool.not_eq_false, Decidable.not_not] at hg) <;> (first | have hgb : (_ : Bool) = _ := hg | have hgb := ff hg | have hgb := tt hg))
       | (refine ⟨fun hc => ht _ ?_, fun hc => hf _ ?_⟩ <;> clear ht hf KT KF)
       | fail)
    · by_cases h1 : less m (a1, a2) (b1, b2) = true
      · have h2 : less m (b1, b2) (a1, a2) = false := by
          rw [Bool.eq_false_iff]; intro h; rw [q2] at h; rw [q1] at h1; simp at h h1; omega
        rw [h1] at hab
        rw [h2] at hba
        by_cases h3 : less m (b1, b2) (c1, c2) = true
        · have h4 : less m (a1, a2) (c1, c2) = true := by
            rw [q5]; rw [q1] at h1; rw [q4] at h3; simp at h1 h3 ⊢; omega
          rw [h3] at hbc
          rw [h4] at hac
          refine spec_by Try.func5 rfl mixed tOk evOk (n := 78) rfl (by simp) (by simp) ?_
          rw [initSt_mk, show Try.f5.results.toList = [.tmp 4] from rfl]
          simp only [initL, AV.sv, List.map_cons, List.map_nil, Nat.reduceAdd, Nat.zero_add]
          repeat' (first
           | (with_reducible first | refine s_seq ?_ | refine s_block ?_ | refine s_region fun kr hr => ?_)
           | (with_reducible refine s_text tOk [3, 5, 6, 7, 29, 1000, 1001, 1002, 1003] (by kernel_rfl) (by simp [HeapIn, namers, namerDst, namerOp, Blk.has, hasRows, hasL, CV.has, hasRows_up, hasRows_append, g1, g2, gt_iff_lt]; (try ((repeat' apply And.intro) <;> intros <;> omega))) fun kr hr => ?_)
           | (with_reducible first | refine s_op fun K' hk => ?_ | refine t_op fun K' hk => ?_ | (refine hk _ ?_; clear hk K') | (refine ht _ ?_; clear ht hf KT KF) | (refine hf _ ?_; clear ht hf KT KF) | ((first | refine s_nil ?_ | refine t_nil ?_); refine hr _ ?_; clear hr kr))
           | ((with_reducible refine n_seqK [0, 1, 2, 3, 4, 5, 6, 7, 14, 15, 19, 23, 37, 56] [3, 5, 6, 7, 29] ?_); simp only [mk_keep, keepL, List.mem_cons, List.not_mem_nil, Nat.reduceEqDiff, Nat.zero_ne_one, Nat.one_ne_zero, reduceCtorEq, or_false, false_or, or_true, true_or, or_self, eq_self, ↓reduceIte])
           | (with_reducible first | refine s_cond fun KT KF ht hf => ?_ | refine s_skip ?_)
           | ((with_reducible refine s_long ?_); simp only [List.cons_append, List.nil_append])
           | (with_reducible first | refine s_exit ?_ | refine s_ret ?_ | refine e_seq ?_ | refine r_seq ?_ | refine n_block ?_ | refine e_block ?_ | refine r_block ?_ | refine e_loop ?_ | refine r_loop ?_ | refine e_round ?_ | refine r_round ?_ | refine s_round ?_ | refine f_block ?_ (by decide) | refine r_res ?_ | refine n_res ?_)
           | (simp only [hgb, go_sem, Int.reduceToNat, ↓reduceIte, reduceCtorEq, Nat.reduceEqDiff, Nat.reduceAdd, Nat.reduceMul, Nat.reduceLT, Nat.reduceLeDiff, Nat.reduceBEq, Int.reduceBEq, Int.reduceBNe, Int.reduceEq, Int.reduceLT, Int.reduceLE, Int.reduceGE, Int.reduceGT, g1, g2, gt_iff_lt, callE, resSV, AV.flat, CV.flat, TV.flat]; clear hgb)
           | simp only [go_sem, Int.reduceToNat, ↓reduceIte, reduceCtorEq, Nat.reduceEqDiff, Nat.reduceAdd, Nat.reduceMul, Nat.reduceLT, Nat.reduceLeDiff, Nat.reduceBEq, Int.reduceBEq, Int.reduceBNe, Int.reduceEq, Int.reduceLT, Int.reduceLE, Int.reduceGE, Int.reduceGT, g1, g2, gt_iff_lt, callE, resSV, AV.flat, CV.flat, TV.flat, hAll]
           | refine Or.inl ⟨_, ⟨fun _ _ => rfl, hab⟩, ?_⟩
           | refine ⟨_, ⟨fun _ _ => rfl, hab⟩, ?_⟩
           | refine Or.inl ⟨_, ⟨fun _ _ => rfl, hba⟩, ?_⟩
           | refine ⟨_, ⟨fun _ _ => rfl, hba⟩, ?_⟩
           | refine Or.inl ⟨_, ⟨fun _ _ => rfl, haa⟩, ?_⟩
           | refine ⟨_, ⟨fun _ _ => rfl, haa⟩, ?_⟩
           | refine Or.inl ⟨_, ⟨fun _ _ => rfl, hbc⟩, ?_⟩
           | refine ⟨_, ⟨fun _ _ => rfl, hbc⟩, ?_⟩
           | refine Or.inl ⟨_, ⟨fun _ _ => rfl, hac⟩, ?_⟩
           | refine ⟨_, ⟨fun _ _ => rfl, hac⟩, ?_⟩
           | refine Or.inl ⟨_, ⟨fun _ _ => rfl, awake07_spec⟩, ?_⟩
           | refine ⟨_, ⟨fun _ _ => rfl, awake07_spec⟩, ?_⟩
           | (refine ite_guard (fun hg => ?_) (fun hg => ?_) <;> (try simp only [Bool.not_eq_true, Bool.not_eq_false, Decidable.not_not] at hg) <;> (first | have hgb : (_ : Bool) = _ := hg | have hgb := ff hg | have hgb := tt hg))
           | (refine ⟨fun hc => ht _ ?_, fun hc => hf _ ?_⟩ <;> clear ht hf KT KF)
           | fail)
        · rw [Bool.not_eq_true] at h3
          rw [h3] at hbc
          refine spec_by Try.func5 rfl mixed tOk evOk (n := 78) rfl (by simp) (by simp) ?_
          rw [initSt_mk, show Try.f5.results.toList = [.tmp 4] from rfl]
          simp only [initL, AV.sv, List.map_cons, List.map_nil, Nat.reduceAdd, Nat.zero_add]
          repeat' (first
           | (with_reducible first | refine s_seq ?_ | refine s_block ?_ | refine s_region fun kr hr => ?_)
           | (with_reducible refine s_text tOk [3, 5, 6, 7, 29, 1000, 1001, 1002, 1003] (by kernel_rfl) (by simp [HeapIn, namers, namerDst, namerOp, Blk.has, hasRows, hasL, CV.has, hasRows_up, hasRows_append, g1, g2, gt_iff_lt]; (try ((repeat' apply And.intro) <;> intros <;> omega))) fun kr hr => ?_)
           | (with_reducible first | refine s_op fun K' hk => ?_ | refine t_op fun K' hk => ?_ | (refine hk _ ?_; clear hk K') | (refine ht _ ?_; clear ht hf KT KF) | (refine hf _ ?_; clear ht hf KT KF) | ((first | refine s_nil ?_ | refine t_nil ?_); refine hr _ ?_; clear hr kr))
           | ((with_reducible refine n_seqK [0, 1, 2, 3, 4, 5, 6, 7, 14, 15, 19, 23, 37, 56] [3, 5, 6, 7, 29] ?_); simp only [mk_keep, keepL, List.mem_cons, List.not_mem_nil, Nat.reduceEqDiff, Nat.zero_ne_one, Nat.one_ne_zero, reduceCtorEq, or_false, false_or, or_true, true_or, or_self, eq_self, ↓reduceIte])
           | (with_reducible first | refine s_cond fun KT KF ht hf => ?_ | refine s_skip ?_)
           | ((with_reducible refine s_long ?_); simp only [List.cons_append, List.nil_append])
           | (with_reducible first | refine s_exit ?_ | refine s_ret ?_ | refine e_seq ?_ | refine r_seq ?_ | refine n_block ?_ | refine e_block ?_ | refine r_block ?_ | refine e_loop ?_ | refine r_loop ?_ | refine e_round ?_ | refine r_round ?_ | refine s_round ?_ | refine f_block ?_ (by decide) | refine r_res ?_ | refine n_res ?_)
           | (simp only [hgb, go_sem, Int.reduceToNat, ↓reduceIte, reduceCtorEq, Nat.reduceEqDiff, Nat.reduceAdd, Nat.reduceMul, Nat.reduceLT, Nat.reduceLeDiff, Nat.reduceBEq, Int.reduceBEq, Int.reduceBNe, Int.reduceEq, Int.reduceLT, Int.reduceLE, Int.reduceGE, Int.reduceGT, g1, g2, gt_iff_lt, callE, resSV, AV.flat, CV.flat, TV.flat]; clear hgb)
           | simp only [go_sem, Int.reduceToNat, ↓reduceIte, reduceCtorEq, Nat.reduceEqDiff, Nat.reduceAdd, Nat.reduceMul, Nat.reduceLT, Nat.reduceLeDiff, Nat.reduceBEq, Int.reduceBEq, Int.reduceBNe, Int.reduceEq, Int.reduceLT, Int.reduceLE, Int.reduceGE, Int.reduceGT, g1, g2, gt_iff_lt, callE, resSV, AV.flat, CV.flat, TV.flat, hAll]
           | refine Or.inl ⟨_, ⟨fun _ _ => rfl, hab⟩, ?_⟩
           | refine ⟨_, ⟨fun _ _ => rfl, hab⟩, ?_⟩
           | refine Or.inl ⟨_, ⟨fun _ _ => rfl, hba⟩, ?_⟩
           | refine ⟨_, ⟨fun _ _ => rfl, hba⟩, ?_⟩
           | refine Or.inl ⟨_, ⟨fun _ _ => rfl, haa⟩, ?_⟩
           | refine ⟨_, ⟨fun _ _ => rfl, haa⟩, ?_⟩
           | refine Or.inl ⟨_, ⟨fun _ _ => rfl, hbc⟩, ?_⟩
           | refine ⟨_, ⟨fun _ _ => rfl, hbc⟩, ?_⟩
           | refine Or.inl ⟨_, ⟨fun _ _ => rfl, hac⟩, ?_⟩
           | refine ⟨_, ⟨fun _ _ => rfl, hac⟩, ?_⟩
           | refine Or.inl ⟨_, ⟨fun _ _ => rfl, awake07_spec⟩, ?_⟩
           | refine ⟨_, ⟨fun _ _ => rfl, awake07_spec⟩, ?_⟩
           | (refine ite_guard (fun hg => ?_) (fun hg => ?_) <;> (try simp only [Bool.not_eq_true, Bool.not_eq_false, Decidable.not_not] at hg) <;> (first | have hgb : (_ : Bool) = _ := hg | have hgb := ff hg | have hgb := tt hg))
           | (refine ⟨fun hc => ht _ ?_, fun hc => hf _ ?_⟩ <;> clear ht hf KT KF)
           | fail)
      · have h2 : less m (b1, b2) (a1, a2) = true := by
          rw [q2]; rw [q1] at h1; simp at h1 ⊢; omega
        rw [Bool.not_eq_true] at h1
        rw [h1] at hab
        rw [h2] at hba
        refine spec_by Try.func5 rfl mixed tOk evOk (n := 78) rfl (by simp) (by simp) ?_
        rw [initSt_mk, show Try.f5.results.toList = [.tmp 4] from rfl]
        simp only [initL, AV.sv, List.map_cons, List.map_nil, Nat.reduceAdd, Nat.zero_add]
        repeat' (first
         | (with_reducible first | refine s_seq ?_ | refine s_block ?_ | refine s_region fun kr hr => ?_)
         | (with_reducible refine s_text tOk [3, 5, 6, 7, 29, 1000, 1001, 1002, 1003] (by kernel_rfl) (by simp [HeapIn, namers, namerDst, namerOp, Blk.has, hasRows, hasL, CV.has, hasRows_up, hasRows_append, g1, g2, gt_iff_lt]; (try ((repeat' apply And.intro) <;> intros <;> omega))) fun kr hr => ?_)
         | (with_reducible first | refine s_op fun K' hk => ?_ | refine t_op fun K' hk => ?_ | (refine hk _ ?_; clear hk K') | (refine ht _ ?_; clear ht hf KT KF) | (refine hf _ ?_; clear ht hf KT KF) | ((first | refine s_nil ?_ | refine t_nil ?_); refine hr _ ?_; clear hr kr))
         | ((with_reducible refine n_seqK [0, 1, 2, 3, 4, 5, 6, 7, 14, 15, 19, 23, 37, 56] [3, 5, 6, 7, 29] ?_); simp only [mk_keep, keepL, List.mem_cons, List.not_mem_nil, Nat.reduceEqDiff, Nat.zero_ne_one, Nat.one_ne_zero, reduceCtorEq, or_false, false_or, or_true, true_or, or_self, eq_self, ↓reduceIte])
         | (with_reducible first | refine s_cond fun KT KF ht hf => ?_ | refine s_skip ?_)
         | ((with_reducible refine s_long ?_); simp only [List.cons_append, List.nil_append])
         | (with_reducible first | refine s_exit ?_ | refine s_ret ?_ | refine e_seq ?_ | refine r_seq ?_ | refine n_block ?_ | refine e_block ?_ | refine r_block ?_ | refine e_loop ?_ | refine r_loop ?_ | refine e_round ?_ | refine r_round ?_ | refine s_round ?_ | refine f_block ?_ (by decide) | refine r_res ?_ | refine n_res ?_)
         | (simp only [hgb, go_sem, Int.reduceToNat, ↓reduceIte, reduceCtorEq, Nat.reduceEqDiff, Nat.reduceAdd, Nat.reduceMul, Nat.reduceLT, Nat.reduceLeDiff, Nat.reduceBEq, Int.reduceBEq, Int.reduceBNe, Int.reduceEq, Int.reduceLT, Int.reduceLE, Int.reduceGE, Int.reduceGT, g1, g2, gt_iff_lt, callE, resSV, AV.flat, CV.flat, TV.flat]; clear hgb)
         | simp only [go_sem, Int.reduceToNat, ↓reduceIte, reduceCtorEq, Nat.reduceEqDiff, Nat.reduceAdd, Nat.reduceMul, Nat.reduceLT, Nat.reduceLeDiff, Nat.reduceBEq, Int.reduceBEq, Int.reduceBNe, Int.reduceEq, Int.reduceLT, Int.reduceLE, Int.reduceGE, Int.reduceGT, g1, g2, gt_iff_lt, callE, resSV, AV.flat, CV.flat, TV.flat, hAll]
         | refine Or.inl ⟨_, ⟨fun _ _ => rfl, hab⟩, ?_⟩
         | refine ⟨_, ⟨fun _ _ => rfl, hab⟩, ?_⟩
         | refine Or.inl ⟨_, ⟨fun _ _ => rfl, hba⟩, ?_⟩
         | refine ⟨_, ⟨fun _ _ => rfl, hba⟩, ?_⟩
         | refine Or.inl ⟨_, ⟨fun _ _ => rfl, haa⟩, ?_⟩
         | refine ⟨_, ⟨fun _ _ => rfl, haa⟩, ?_⟩
         | refine Or.inl ⟨_, ⟨fun _ _ => rfl, hbc⟩, ?_⟩
         | refine ⟨_, ⟨fun _ _ => rfl, hbc⟩, ?_⟩
         | refine Or.inl ⟨_, ⟨fun _ _ => rfl, hac⟩, ?_⟩
         | refine ⟨_, ⟨fun _ _ => rfl, hac⟩, ?_⟩
         | refine Or.inl ⟨_, ⟨fun _ _ => rfl, awake07_spec⟩, ?_⟩
         | refine ⟨_, ⟨fun _ _ => rfl, awake07_spec⟩, ?_⟩
         | (refine ite_guard (fun hg => ?_) (fun hg => ?_) <;> (try simp only [Bool.not_eq_true, Bool.not_eq_false, Decidable.not_not] at hg) <;> (first | have hgb : (_ : Bool) = _ := hg | have hgb := ff hg | have hgb := tt hg))
         | (refine ⟨fun hc => ht _ ?_, fun hc => hf _ ?_⟩ <;> clear ht hf KT KF)
         | fail)
  · rw [Bool.not_eq_true] at hM
    have hl : ∀ x y, less m x y = false := fun x y => by simp [less, hM]
    simp only [hl] at hab
    have hs := tsort_none m [(a1, a2), (b1, b2)] 2 hM
    by_cases h1 : m < 1
    · have g1 := tt h1
      refine spec_by Try.func5 rfl mixed tOk evOk (n := 78) rfl (by simp) (by simp) ?_
      rw [initSt_mk, show Try.f5.results.toList = [.tmp 4] from rfl]
      simp only [initL, AV.sv, List.map_cons, List.map_nil, Nat.reduceAdd, Nat.zero_add]
      repeat' (first
       | (with_reducible first | refine s_seq ?_ | refine s_block ?_ | refine s_region fun kr hr => ?_)
       | (with_reducible refine s_text tOk [3, 5, 6, 7, 29, 1000, 1001, 1002, 1003] (by kernel_rfl) (by simp [HeapIn, namers, namerDst, namerOp, Blk.has, hasRows, hasL, CV.has, hasRows_up, hasRows_append, g1, gt_iff_lt]; (try ((repeat' apply And.intro) <;> intros <;> omega))) fun kr hr => ?_)
       | (with_reducible first | refine s_op fun K' hk => ?_ | refine t_op fun K' hk => ?_ | (refine hk _ ?_; clear hk K') | (refine ht _ ?_; clear ht hf KT KF) | (refine hf _ ?_; clear ht hf KT KF) | ((first | refine s_nil ?_ | refine t_nil ?_); refine hr _ ?_; clear hr kr))
       | ((with_reducible refine n_seqK [0, 1, 2, 3, 4, 5, 6, 7, 14, 15, 19, 23, 37, 56] [3, 5, 6, 7, 29] ?_); simp only [mk_keep, keepL, List.mem_cons, List.not_mem_nil, Nat.reduceEqDiff, Nat.zero_ne_one, Nat.one_ne_zero, reduceCtorEq, or_false, false_or, or_true, true_or, or_self, eq_self, ↓reduceIte])
       | (with_reducible first | refine s_cond fun KT KF ht hf => ?_ | refine s_skip ?_)
       | ((with_reducible refine s_long ?_); simp only [List.cons_append, List.nil_append])
       | (with_reducible first | refine s_exit ?_ | refine s_ret ?_ | refine e_seq ?_ | refine r_seq ?_ | refine n_block ?_ | refine e_block ?_ | refine r_block ?_ | refine e_loop ?_ | refine r_loop ?_ | refine e_round ?_ | refine r_round ?_ | refine s_round ?_ | refine f_block ?_ (by decide) | refine r_res ?_ | refine n_res ?_)
       | (simp only [hgb, go_sem, Int.reduceToNat, ↓reduceIte, reduceCtorEq, Nat.reduceEqDiff, Nat.reduceAdd, Nat.reduceMul, Nat.reduceLT, Nat.reduceLeDiff, Nat.reduceBEq, Int.reduceBEq, Int.reduceBNe, Int.reduceEq, Int.reduceLT, Int.reduceLE, Int.reduceGE, Int.reduceGT, g1, gt_iff_lt, callE, resSV, AV.flat, CV.flat, TV.flat]; clear hgb)
       | simp only [go_sem, Int.reduceToNat, ↓reduceIte, reduceCtorEq, Nat.reduceEqDiff, Nat.reduceAdd, Nat.reduceMul, Nat.reduceLT, Nat.reduceLeDiff, Nat.reduceBEq, Int.reduceBEq, Int.reduceBNe, Int.reduceEq, Int.reduceLT, Int.reduceLE, Int.reduceGE, Int.reduceGT, g1, gt_iff_lt, callE, resSV, AV.flat, CV.flat, TV.flat, hAll]
       | refine Or.inl ⟨_, ⟨fun _ _ => rfl, hab⟩, ?_⟩
       | refine ⟨_, ⟨fun _ _ => rfl, hab⟩, ?_⟩
       | refine Or.inr (m_callN [(1000,29)] [1000] [1000] [] [29] ⟨fun _ _ => rfl, hs⟩ rfl rfl (by first | (simp [AV.ren, CV.ren, renL, renL_map, tbl, listB, hrows, hrow, up]; done) | fail) rfl rfl rfl rfl (by decide) (by first | (simp [hAll, hRen, mk_heap, hL, tbl, Blk.ren, renRows_up, renRows, renL, CV.ren, listB, hrows, hrow, up]; done) | fail) (by first | (simp [Blk.has, hasRows, hasL, CV.has, hasRows_up, listB, hrows, hrow, up]; done) | fail) (by first | (intro k; simp [hasA, AV.has, CV.has, hasL, Blk.has, hasRows, hasRows_up, listB, hrows, hrow, up]; done) | (intro k; simp [hasA, AV.has, CV.has, hasL, Blk.has, hasRows, hasRows_up, listB, hrows, hrow, up]; omega) | fail) ?_)
       | refine (m_callN [(1000,29)] [1000] [1000] [] [29] ⟨fun _ _ => rfl, hs⟩ rfl rfl (by first | (simp [AV.ren, CV.ren, renL, renL_map, tbl, listB, hrows, hrow, up]; done) | fail) rfl rfl rfl rfl (by decide) (by first | (simp [hAll, hRen, mk_heap, hL, tbl, Blk.ren, renRows_up, renRows, renL, CV.ren, listB, hrows, hrow, up]; done) | fail) (by first | (simp [Blk.has, hasRows, hasL, CV.has, hasRows_up, listB, hrows, hrow, up]; done) | fail) (by first | (intro k; simp [hasA, AV.has, CV.has, hasL, Blk.has, hasRows, hasRows_up, listB, hrows, hrow, up]; done) | (intro k; simp [hasA, AV.has, CV.has, hasL, Blk.has, hasRows, hasRows_up, listB, hrows, hrow, up]; omega) | fail) ?_)
       | refine Or.inl ⟨_, ⟨fun _ _ => rfl, awake07_spec⟩, ?_⟩
       | refine ⟨_, ⟨fun _ _ => rfl, awake07_spec⟩, ?_⟩
       | (refine ite_guard (fun hg => ?_) (fun hg => ?_) <;> (try simp only [Bool.not_eq_true, Bool.not_eq_false, Decidable.not_not] at hg) <;> (first | have hgb : (_ : Bool) = _ := hg | have hgb := ff hg | have hgb := tt hg))
       | (refine ⟨fun hc => ht _ ?_, fun hc => hf _ ?_⟩ <;> clear ht hf KT KF)
       | fail)
    · have g1 := ff h1
      have g2 := tt (show 3 < m by simp [mOk] at hM; omega)
      refine spec_by Try.func5 rfl mixed tOk evOk (n := 78) rfl (by simp) (by simp) ?_
      rw [initSt_mk, show Try.f5.results.toList = [.tmp 4] from rfl]
      simp only [initL, AV.sv, List.map_cons, List.map_nil, Nat.reduceAdd, Nat.zero_add]
      repeat' (first
       | (with_reducible first | refine s_seq ?_ | refine s_block ?_ | refine s_region fun kr hr => ?_)
       | (with_reducible refine s_text tOk [3, 5, 6, 7, 29, 1000, 1001, 1002, 1003] (by kernel_rfl) (by simp [HeapIn, namers, namerDst, namerOp, Blk.has, hasRows, hasL, CV.has, hasRows_up, hasRows_append, g1, g2, gt_iff_lt]; (try ((repeat' apply And.intro) <;> intros <;> omega))) fun kr hr => ?_)
       | (with_reducible first | refine s_op fun K' hk => ?_ | refine t_op fun K' hk => ?_ | (refine hk _ ?_; clear hk K') | (refine ht _ ?_; clear ht hf KT KF) | (refine hf _ ?_; clear ht hf KT KF) | ((first | refine s_nil ?_ | refine t_nil ?_); refine hr _ ?_; clear hr kr))
       | ((with_reducible refine n_seqK [0, 1, 2, 3, 4, 5, 6, 7, 14, 15, 19, 23, 37, 56] [3, 5, 6, 7, 29] ?_); simp only [mk_keep, keepL, List.mem_cons, List.not_mem_nil, Nat.reduceEqDiff, Nat.zero_ne_one, Nat.one_ne_zero, reduceCtorEq, or_false, false_or, or_true, true_or, or_self, eq_self, ↓reduceIte])
       | (with_reducible first | refine s_cond fun KT KF ht hf => ?_ | refine s_skip ?_)
       | ((with_reducible refine s_long ?_); simp only [List.cons_append, List.nil_append])
       | (with_reducible first | refine s_exit ?_ | refine s_ret ?_ | refine e_seq ?_ | refine r_seq ?_ | refine n_block ?_ | refine e_block ?_ | refine r_block ?_ | refine e_loop ?_ | refine r_loop ?_ | refine e_round ?_ | refine r_round ?_ | refine s_round ?_ | refine f_block ?_ (by decide) | refine r_res ?_ | refine n_res ?_)
       | (simp only [hgb, go_sem, Int.reduceToNat, ↓reduceIte, reduceCtorEq, Nat.reduceEqDiff, Nat.reduceAdd, Nat.reduceMul, Nat.reduceLT, Nat.reduceLeDiff, Nat.reduceBEq, Int.reduceBEq, Int.reduceBNe, Int.reduceEq, Int.reduceLT, Int.reduceLE, Int.reduceGE, Int.reduceGT, g1, g2, gt_iff_lt, callE, resSV, AV.flat, CV.flat, TV.flat]; clear hgb)
       | simp only [go_sem, Int.reduceToNat, ↓reduceIte, reduceCtorEq, Nat.reduceEqDiff, Nat.reduceAdd, Nat.reduceMul, Nat.reduceLT, Nat.reduceLeDiff, Nat.reduceBEq, Int.reduceBEq, Int.reduceBNe, Int.reduceEq, Int.reduceLT, Int.reduceLE, Int.reduceGE, Int.reduceGT, g1, g2, gt_iff_lt, callE, resSV, AV.flat, CV.flat, TV.flat, hAll]
       | refine Or.inl ⟨_, ⟨fun _ _ => rfl, hab⟩, ?_⟩
       | refine ⟨_, ⟨fun _ _ => rfl, hab⟩, ?_⟩
       | refine Or.inr (m_callN [(1000,29)] [1000] [1000] [] [29] ⟨fun _ _ => rfl, hs⟩ rfl rfl (by first | (simp [AV.ren, CV.ren, renL, renL_map, tbl, listB, hrows, hrow, up]; done) | fail) rfl rfl rfl rfl (by decide) (by first | (simp [hAll, hRen, mk_heap, hL, tbl, Blk.ren, renRows_up, renRows, renL, CV.ren, listB, hrows, hrow, up]; done) | fail) (by first | (simp [Blk.has, hasRows, hasL, CV.has, hasRows_up, listB, hrows, hrow, up]; done) | fail) (by first | (intro k; simp [hasA, AV.has, CV.has, hasL, Blk.has, hasRows, hasRows_up, listB, hrows, hrow, up]; done) | (intro k; simp [hasA, AV.has, CV.has, hasL, Blk.has, hasRows, hasRows_up, listB, hrows, hrow, up]; omega) | fail) ?_)
       | refine (m_callN [(1000,29)] [1000] [1000] [] [29] ⟨fun _ _ => rfl, hs⟩ rfl rfl (by first | (simp [AV.ren, CV.ren, renL, renL_map, tbl, listB, hrows, hrow, up]; done) | fail) rfl rfl rfl rfl (by decide) (by first | (simp [hAll, hRen, mk_heap, hL, tbl, Blk.ren, renRows_up, renRows, renL, CV.ren, listB, hrows, hrow, up]; done) | fail) (by first | (simp [Blk.has, hasRows, hasL, CV.has, hasRows_up, listB, hrows, hrow, up]; done) | fail) (by first | (intro k; simp [hasA, AV.has, CV.has, hasL, Blk.has, hasRows, hasRows_up, listB, hrows, hrow, up]; done) | (intro k; simp [hasA, AV.has, CV.has, hasL, Blk.has, hasRows, hasRows_up, listB, hrows, hrow, up]; omega) | fail) ?_)
       | refine Or.inl ⟨_, ⟨fun _ _ => rfl, awake07_spec⟩, ?_⟩
       | refine ⟨_, ⟨fun _ _ => rfl, awake07_spec⟩, ?_⟩
       | (refine ite_guard (fun hg => ?_) (fun hg => ?_) <;> (try simp only [Bool.not_eq_true, Bool.not_eq_false, Decidable.not_not] at hg) <;> (first | have hgb : (_ : Bool) = _ := hg | have hgb := ff hg | have hgb := tt hg))
       | (refine ⟨fun hc => ht _ ?_, fun hc => hf _ ?_⟩ <;> clear ht hf KT KF)
       | fail)
end Go.Proofs.Ytgmjgognpabmdaa.Fx
