/- The law TopkBest. -/
import Derived.Test.YtgmjgognpabmdaaFxTopLaw2
namespace Go.Proofs.Ytgmjgognpabmdaa.Fx
open Go Go.RowKit
set_option maxRecDepth 100000
set_option linter.unusedSimpArgs false
set_option linter.unusedVariables false
set_option maxHeartbeats 8000000 in
theorem topkBest_bad (m k : Int) (l : List Ht) (h : mOk m = false ∨ k < 1) : Spec Try.prog 4 [.v (.t (.int .i64 m)), .v (.t (.int .i64 k)), .v (.t (.sl 2 (hrows l)))] [] [.v (.t (.bool true))] [] := by
  have h1 := new_none m k h
  by_cases hm1 : m < 1
  · have g1 := tt hm1
    refine spec_by Try.func4 rfl mixed tOk evOk (n := 90) rfl (by simp) (by simp) ?_
    rw [initSt_mk, show Try.f4.results.toList = [.tmp 6] from rfl]
    simp only [initL, AV.sv, List.map_cons, List.map_nil, Nat.reduceAdd, Nat.zero_add]
    repeat' (first
     | (with_reducible first | refine s_seq ?_ | refine s_block ?_ | refine s_region fun kr hr => ?_)
     | (with_reducible refine s_text tOk [1000, 1001, 1002, 1003] (by kernel_rfl) (by simp [HeapIn, namers, namerDst, namerOp, Blk.has, hasRows, hasL, CV.has, hasRows_up, hasRows_append, g1, gt_iff_lt]; (try ((repeat' apply And.intro) <;> intros <;> omega))) fun kr hr => ?_)
     | (with_reducible first | refine s_op fun K' hk => ?_ | refine t_op fun K' hk => ?_ | (refine hk _ ?_; clear hk K') | (refine ht _ ?_; clear ht hf KT KF) | (refine hf _ ?_; clear ht hf KT KF) | ((first | refine s_nil ?_ | refine t_nil ?_); refine hr _ ?_; clear hr kr))
     | ((with_reducible refine n_seqK [0, 1, 2, 3, 4, 5, 6, 7, 8, 9, 10, 11, 14, 17, 19, 20, 21, 22, 23, 25, 31, 48] [] ?_); simp only [mk_keep, keepL, List.mem_cons, List.not_mem_nil, Nat.reduceEqDiff, Nat.zero_ne_one, Nat.one_ne_zero, reduceCtorEq, or_false, false_or, or_true, true_or, or_self, eq_self, ↓reduceIte])
     | (with_reducible first | refine s_cond fun KT KF ht hf => ?_ | refine s_skip ?_)
     | ((with_reducible refine s_long ?_); simp only [List.cons_append, List.nil_append])
     | (with_reducible first | refine s_exit ?_ | refine s_ret ?_ | refine e_seq ?_ | refine r_seq ?_ | refine n_block ?_ | refine e_block ?_ | refine r_block ?_ | refine e_loop ?_ | refine r_loop ?_ | refine e_round ?_ | refine r_round ?_ | refine s_round ?_ | refine f_block ?_ (by decide) | refine r_res ?_ | refine n_res ?_)
     | (simp only [hgb, go_sem, Int.reduceToNat, ↓reduceIte, reduceCtorEq, Nat.reduceEqDiff, Nat.reduceAdd, Nat.reduceMul, Nat.reduceLT, Nat.reduceLeDiff, Nat.reduceBEq, Int.reduceBEq, Int.reduceBNe, Int.reduceEq, Int.reduceLT, Int.reduceLE, Int.reduceGE, Int.reduceGT, g1, gt_iff_lt, callE, resSV, AV.flat, CV.flat, TV.flat]; clear hgb)
     | simp only [go_sem, Int.reduceToNat, ↓reduceIte, reduceCtorEq, Nat.reduceEqDiff, Nat.reduceAdd, Nat.reduceMul, Nat.reduceLT, Nat.reduceLeDiff, Nat.reduceBEq, Int.reduceBEq, Int.reduceBNe, Int.reduceEq, Int.reduceLT, Int.reduceLE, Int.reduceGE, Int.reduceGT, g1, gt_iff_lt, callE, resSV, AV.flat, CV.flat, TV.flat, hAll]
     | refine Or.inl ⟨_, ⟨fun _ _ => rfl, h1⟩, ?_⟩
     | refine ⟨_, ⟨fun _ _ => rfl, h1⟩, ?_⟩
     | refine Or.inl ⟨_, ⟨fun _ _ => rfl, awake07_spec⟩, ?_⟩
     | refine ⟨_, ⟨fun _ _ => rfl, awake07_spec⟩, ?_⟩
     | (refine ite_guard (fun hg => ?_) (fun hg => ?_) <;> (try simp only [Bool.not_eq_true, Bool.not_eq_false, Decidable.not_not] at hg) <;> (first | have hgb : (_ : Bool) = _ := hg | have hgb := ff hg | have hgb := tt hg))
     | (refine ⟨fun hc => ht _ ?_, fun hc => hf _ ?_⟩ <;> clear ht hf KT KF)
     | fail)
  · have g1 := ff hm1
    by_cases hm3 : 3 < m
    · have g2 := tt hm3
      refine spec_by Try.func4 rfl mixed tOk evOk (n := 90) rfl (by simp) (by simp) ?_
      rw [initSt_mk, show Try.f4.results.toList = [.tmp 6] from rfl]
      simp only [initL, AV.sv, List.map_cons, List.map_nil, Nat.reduceAdd, Nat.zero_add]
      repeat' (first
       | (with_reducible first | refine s_seq ?_ | refine s_block ?_ | refine s_region fun kr hr => ?_)
       | (with_reducible refine s_text tOk [1000, 1001, 1002, 1003] (by kernel_rfl) (by simp [HeapIn, namers, namerDst, namerOp, Blk.has, hasRows, hasL, CV.has, hasRows_up, hasRows_append, g1, g2, gt_iff_lt]; (try ((repeat' apply And.intro) <;> intros <;> omega))) fun kr hr => ?_)
       | (with_reducible first | refine s_op fun K' hk => ?_ | refine t_op fun K' hk => ?_ | (refine hk _ ?_; clear hk K') | (refine ht _ ?_; clear ht hf KT KF) | (refine hf _ ?_; clear ht hf KT KF) | ((first | refine s_nil ?_ | refine t_nil ?_); refine hr _ ?_; clear hr kr))
       | ((with_reducible refine n_seqK [0, 1, 2, 3, 4, 5, 6, 7, 8, 9, 10, 11, 14, 17, 19, 20, 21, 22, 23, 25, 31, 48] [] ?_); simp only [mk_keep, keepL, List.mem_cons, List.not_mem_nil, Nat.reduceEqDiff, Nat.zero_ne_one, Nat.one_ne_zero, reduceCtorEq, or_false, false_or, or_true, true_or, or_self, eq_self, ↓reduceIte])
       | (with_reducible first | refine s_cond fun KT KF ht hf => ?_ | refine s_skip ?_)
       | ((with_reducible refine s_long ?_); simp only [List.cons_append, List.nil_append])
       | (with_reducible first | refine s_exit ?_ | refine s_ret ?_ | refine e_seq ?_ | refine r_seq ?_ | refine n_block ?_ | refine e_block ?_ | refine r_block ?_ | refine e_loop ?_ | refine r_loop ?_ | refine e_round ?_ | refine r_round ?_ | refine s_round ?_ | refine f_block ?_ (by decide) | refine r_res ?_ | refine n_res ?_)
       | (simp only [hgb, go_sem, Int.reduceToNat, ↓reduceIte, reduceCtorEq, Nat.reduceEqDiff, Nat.reduceAdd, Nat.reduceMul, Nat.reduceLT, Nat.reduceLeDiff, Nat.reduceBEq, Int.reduceBEq, Int.reduceBNe, Int.reduceEq, Int.reduceLT, Int.reduceLE, Int.reduceGE, Int.reduceGT, g1, g2, gt_iff_lt, callE, resSV, AV.flat, CV.flat, TV.flat]; clear hgb)
       | simp only [go_sem, Int.reduceToNat, ↓reduceIte, reduceCtorEq, Nat.reduceEqDiff, Nat.reduceAdd, Nat.reduceMul, Nat.reduceLT, Nat.reduceLeDiff, Nat.reduceBEq, Int.reduceBEq, Int.reduceBNe, Int.reduceEq, Int.reduceLT, Int.reduceLE, Int.reduceGE, Int.reduceGT, g1, g2, gt_iff_lt, callE, resSV, AV.flat, CV.flat, TV.flat, hAll]
       | refine Or.inl ⟨_, ⟨fun _ _ => rfl, h1⟩, ?_⟩
       | refine ⟨_, ⟨fun _ _ => rfl, h1⟩, ?_⟩
       | refine Or.inl ⟨_, ⟨fun _ _ => rfl, awake07_spec⟩, ?_⟩
       | refine ⟨_, ⟨fun _ _ => rfl, awake07_spec⟩, ?_⟩
       | (refine ite_guard (fun hg => ?_) (fun hg => ?_) <;> (try simp only [Bool.not_eq_true, Bool.not_eq_false, Decidable.not_not] at hg) <;> (first | have hgb : (_ : Bool) = _ := hg | have hgb := ff hg | have hgb := tt hg))
       | (refine ⟨fun hc => ht _ ?_, fun hc => hf _ ?_⟩ <;> clear ht hf KT KF)
       | fail)
    · have g2 := ff hm3
      have g3 := tt (show k < 1 from h.elim (fun h => by simp [mOk] at h; omega) id)
      refine spec_by Try.func4 rfl mixed tOk evOk (n := 90) rfl (by simp) (by simp) ?_
      rw [initSt_mk, show Try.f4.results.toList = [.tmp 6] from rfl]
      simp only [initL, AV.sv, List.map_cons, List.map_nil, Nat.reduceAdd, Nat.zero_add]
      repeat' (first
       | (with_reducible first | refine s_seq ?_ | refine s_block ?_ | refine s_region fun kr hr => ?_)
       | (with_reducible refine s_text tOk [1000, 1001, 1002, 1003] (by kernel_rfl) (by simp [HeapIn, namers, namerDst, namerOp, Blk.has, hasRows, hasL, CV.has, hasRows_up, hasRows_append, g1, g2, g3, gt_iff_lt]; (try ((repeat' apply And.intro) <;> intros <;> omega))) fun kr hr => ?_)
       | (with_reducible first | refine s_op fun K' hk => ?_ | refine t_op fun K' hk => ?_ | (refine hk _ ?_; clear hk K') | (refine ht _ ?_; clear ht hf KT KF) | (refine hf _ ?_; clear ht hf KT KF) | ((first | refine s_nil ?_ | refine t_nil ?_); refine hr _ ?_; clear hr kr))
       | ((with_reducible refine n_seqK [0, 1, 2, 3, 4, 5, 6, 7, 8, 9, 10, 11, 14, 17, 19, 20, 21, 22, 23, 25, 31, 48] [] ?_); simp only [mk_keep, keepL, List.mem_cons, List.not_mem_nil, Nat.reduceEqDiff, Nat.zero_ne_one, Nat.one_ne_zero, reduceCtorEq, or_false, false_or, or_true, true_or, or_self, eq_self, ↓reduceIte])
       | (with_reducible first | refine s_cond fun KT KF ht hf => ?_ | refine s_skip ?_)
       | ((with_reducible refine s_long ?_); simp only [List.cons_append, List.nil_append])
       | (with_reducible first | refine s_exit ?_ | refine s_ret ?_ | refine e_seq ?_ | refine r_seq ?_ | refine n_block ?_ | refine e_block ?_ | refine r_block ?_ | refine e_loop ?_ | refine r_loop ?_ | refine e_round ?_ | refine r_round ?_ | refine s_round ?_ | refine f_block ?_ (by decide) | refine r_res ?_ | refine n_res ?_)
       | (simp only [hgb, go_sem, Int.reduceToNat, ↓reduceIte, reduceCtorEq, Nat.reduceEqDiff, Nat.reduceAdd, Nat.reduceMul, Nat.reduceLT, Nat.reduceLeDiff, Nat.reduceBEq, Int.reduceBEq, Int.reduceBNe, Int.reduceEq, Int.reduceLT, Int.reduceLE, Int.reduceGE, Int.reduceGT, g1, g2, g3, gt_iff_lt, callE, resSV, AV.flat, CV.flat, TV.flat]; clear hgb)
       | simp only [go_sem, Int.reduceToNat, ↓reduceIte, reduceCtorEq, Nat.reduceEqDiff, Nat.reduceAdd, Nat.reduceMul, Nat.reduceLT, Nat.reduceLeDiff, Nat.reduceBEq, Int.reduceBEq, Int.reduceBNe, Int.reduceEq, Int.reduceLT, Int.reduceLE, Int.reduceGE, Int.reduceGT, g1, g2, g3, gt_iff_lt, callE, resSV, AV.flat, CV.flat, TV.flat, hAll]
       | refine Or.inl ⟨_, ⟨fun _ _ => rfl, h1⟩, ?_⟩
       | refine ⟨_, ⟨fun _ _ => rfl, h1⟩, ?_⟩
       | refine Or.inl ⟨_, ⟨fun _ _ => rfl, awake07_spec⟩, ?_⟩
       | refine ⟨_, ⟨fun _ _ => rfl, awake07_spec⟩, ?_⟩
       | (refine ite_guard (fun hg => ?_) (fun hg => ?_) <;> (try simp only [Bool.not_eq_true, Bool.not_eq_false, Decidable.not_not] at hg) <;> (first | have hgb : (_ : Bool) = _ := hg | have hgb := ff hg | have hgb := tt hg))
       | (refine ⟨fun hc => ht _ ?_, fun hc => hf _ ?_⟩ <;> clear ht hf KT KF)
       | fail)
theorem kp_of {m : Int} (hM : mOk m = true) {k : Nat} (k1 : 1 ≤ k) (l : List Ht) : Kp m k (hadds m k [] l) (radds m k [] l) := kp_adds hM k1 l _ _ (kp_nil m k)
theorem hadds_len {m : Int} (hM : mOk m = true) {k : Nat} (k1 : 1 ≤ k) (l : List Ht) : (hadds m k [] l).length ≤ l.length := by
  rw [(kp_of hM k1 l).2.2.1.length_eq, kept_eq hM, List.length_take, hsort_len]
  have := uniq_len l
  omega
theorem hadds_take {l : List Ht} {i : Nat} (h : i < l.length) (m : Int) (k : Nat) (H : List Ht) : hadds m k H (l.take (i + 1)) = (hadd k m (hadds m k H (l.take i)) l[i]).2 := by
  unfold hadds
  rw [List.take_succ_eq_append_getElem h, List.foldl_append]
  rfl
set_option maxHeartbeats 16000000 in
theorem topkBest_good (m : Int) (k : Nat) (l : List Ht) (hM : mOk m = true) (k1 : 1 ≤ k) (hk9 : k ≤ 9223372036854775807) (hl : (l.length + 1) * 16 ≤ 140737488355328) : Spec Try.prog 4 [.v (.t (.int .i64 m)), .v (.t (.int .i64 k)), .v (.t (.sl 2 (hrows l)))] [] [.v (.t (.bool true))] [] := by
  have h1 := new_some m k hM (by omega)
  refine spec_by Try.func4 rfl mixed tOk evOk (n := 90) rfl (by simp) (by simp) ?_
  rw [initSt_mk, show Try.f4.results.toList = [.tmp 6] from rfl]
  simp only [initL, AV.sv, List.map_cons, List.map_nil, Nat.reduceAdd, Nat.zero_add, hrows_len]
  repeat' (first
   | (with_reducible first | refine s_seq ?_ | refine s_block ?_ | refine s_region fun kr hr => ?_)
   | (with_reducible refine s_text tOk [12, 14, 15, 17, 51, 57, 1000, 1001, 1002, 1003] (by kernel_rfl) (by simp [HeapIn, namers, namerDst, namerOp, Blk.has, hasRows, hasL, CV.has, hasRows_up, hasRows_append, boxB, listB, bestN, up_nilh, hrows_len]; (try ((repeat' apply And.intro) <;> intros <;> omega))) fun kr hr => ?_)
   | (with_reducible first | refine s_op fun K' hk => ?_ | refine t_op fun K' hk => ?_ | (refine hk _ ?_; clear hk K') | (refine ht _ ?_; clear ht hf KT KF) | (refine hf _ ?_; clear ht hf KT KF) | ((first | refine s_nil ?_ | refine t_nil ?_); refine hr _ ?_; clear hr kr))
   | ((with_reducible refine n_seqK [0, 1, 2, 3, 4, 5, 6, 7, 8, 9, 10, 11, 14, 17, 19, 20, 21, 22, 23, 25, 31, 48] [12, 14, 15, 17, 51, 57] ?_); simp only [mk_keep, keepL, List.mem_cons, List.not_mem_nil, Nat.reduceEqDiff, Nat.zero_ne_one, Nat.one_ne_zero, reduceCtorEq, or_false, false_or, or_true, true_or, or_self, eq_self, ↓reduceIte])
   | (with_reducible first | refine s_cond fun KT KF ht hf => ?_ | refine s_skip ?_)
   | ((with_reducible refine s_long ?_); simp only [List.cons_append, List.nil_append])
   | (with_reducible first | refine s_exit ?_ | refine s_ret ?_ | refine e_seq ?_ | refine r_seq ?_ | refine n_block ?_ | refine e_block ?_ | refine r_block ?_ | refine e_loop ?_ | refine r_loop ?_ | refine e_round ?_ | refine r_round ?_ | refine s_round ?_ | refine f_block ?_ (by decide) | refine r_res ?_ | refine n_res ?_)
   | (simp only [hgb, go_sem, Int.reduceToNat, ↓reduceIte, reduceCtorEq, Nat.reduceEqDiff, Nat.reduceAdd, Nat.reduceMul, Nat.reduceLT, Nat.reduceLeDiff, Nat.reduceBEq, Int.reduceBEq, Int.reduceBNe, Int.reduceEq, Int.reduceLT, Int.reduceLE, Int.reduceGE, Int.reduceGT, boxB, listB, bestN, up_nilh, hrows_len, callE, resSV, AV.flat, CV.flat, TV.flat]; clear hgb)
   | simp only [go_sem, Int.reduceToNat, ↓reduceIte, reduceCtorEq, Nat.reduceEqDiff, Nat.reduceAdd, Nat.reduceMul, Nat.reduceLT, Nat.reduceLeDiff, Nat.reduceBEq, Int.reduceBEq, Int.reduceBNe, Int.reduceEq, Int.reduceLT, Int.reduceLE, Int.reduceGE, Int.reduceGT, boxB, listB, bestN, up_nilh, hrows_len, callE, resSV, AV.flat, CV.flat, TV.flat, hAll]
   | refine Or.inr (m_callN [(2,12),(16,51),(17,14)] [] [2,16,17] [12, 51, 14] [] ⟨fun _ _ => rfl, h1⟩ rfl rfl (by first | (simp [AV.ren, CV.ren, renL, renL_map, tbl, boxB, listB, bestN, up_nilh]; done) | fail) rfl rfl rfl rfl (by decide) (by first | (simp [hAll, hRen, mk_heap, hL, tbl, Blk.ren, renRows_up, renRows, renL, CV.ren, boxB, listB, bestN, up_nilh]; done) | fail) (by first | (simp [Blk.has, hasRows, hasL, CV.has, hasRows_up, boxB, listB, bestN, up_nilh]; done) | fail) (by first | (intro k; simp [hasA, AV.has, CV.has, hasL, Blk.has, hasRows, hasRows_up, boxB, listB, bestN, up_nilh]; done) | (intro k; simp [hasA, AV.has, CV.has, hasL, Blk.has, hasRows, hasRows_up, boxB, listB, bestN, up_nilh]; omega) | fail) ?_)
   | refine (m_callN [(2,12),(16,51),(17,14)] [] [2,16,17] [12, 51, 14] [] ⟨fun _ _ => rfl, h1⟩ rfl rfl (by first | (simp [AV.ren, CV.ren, renL, renL_map, tbl, boxB, listB, bestN, up_nilh]; done) | fail) rfl rfl rfl rfl (by decide) (by first | (simp [hAll, hRen, mk_heap, hL, tbl, Blk.ren, renRows_up, renRows, renL, CV.ren, boxB, listB, bestN, up_nilh]; done) | fail) (by first | (simp [Blk.has, hasRows, hasL, CV.has, hasRows_up, boxB, listB, bestN, up_nilh]; done) | fail) (by first | (intro k; simp [hasA, AV.has, CV.has, hasL, Blk.has, hasRows, hasRows_up, boxB, listB, bestN, up_nilh]; done) | (intro k; simp [hasA, AV.has, CV.has, hasL, Blk.has, hasRows, hasRows_up, boxB, listB, bestN, up_nilh]; omega) | fail) ?_)
   | refine Or.inr (m_callN [(2,15),(16,57),(17,17)] [] [2,16,17] [15, 57, 17] [] ⟨fun _ _ => rfl, h1⟩ rfl rfl (by first | (simp [AV.ren, CV.ren, renL, renL_map, tbl, boxB, listB, bestN, up_nilh]; done) | fail) rfl rfl rfl rfl (by decide) (by first | (simp [hAll, hRen, mk_heap, hL, tbl, Blk.ren, renRows_up, renRows, renL, CV.ren, boxB, listB, bestN, up_nilh]; done) | fail) (by first | (simp [Blk.has, hasRows, hasL, CV.has, hasRows_up, boxB, listB, bestN, up_nilh]; done) | fail) (by first | (intro k; simp [hasA, AV.has, CV.has, hasL, Blk.has, hasRows, hasRows_up, boxB, listB, bestN, up_nilh]; done) | (intro k; simp [hasA, AV.has, CV.has, hasL, Blk.has, hasRows, hasRows_up, boxB, listB, bestN, up_nilh]; omega) | fail) ?_)
   | refine (m_callN [(2,15),(16,57),(17,17)] [] [2,16,17] [15, 57, 17] [] ⟨fun _ _ => rfl, h1⟩ rfl rfl (by first | (simp [AV.ren, CV.ren, renL, renL_map, tbl, boxB, listB, bestN, up_nilh]; done) | fail) rfl rfl rfl rfl (by decide) (by first | (simp [hAll, hRen, mk_heap, hL, tbl, Blk.ren, renRows_up, renRows, renL, CV.ren, boxB, listB, bestN, up_nilh]; done) | fail) (by first | (simp [Blk.has, hasRows, hasL, CV.has, hasRows_up, boxB, listB, bestN, up_nilh]; done) | fail) (by first | (intro k; simp [hasA, AV.has, CV.has, hasL, Blk.has, hasRows, hasRows_up, boxB, listB, bestN, up_nilh]; done) | (intro k; simp [hasA, AV.has, CV.has, hasL, Blk.has, hasRows, hasRows_up, boxB, listB, bestN, up_nilh]; omega) | fail) ?_)
   | (refine ite_guard (fun hg => ?_) (fun hg => ?_) <;> (try simp only [Bool.not_eq_true, Bool.not_eq_false, Decidable.not_not] at hg) <;> (first | have hgb : (_ : Bool) = _ := hg | have hgb := ff hg | have hgb := tt hg))
   | (refine ⟨fun hc => ht _ ?_, fun hc => hf _ ?_⟩ <;> clear ht hf KT KF)
   | fail)
  refine w_loop [0, 1, 2, 6, 7, 8, 9] [12, 14, 15, 17, 51, 57] (σ := Nat × List Ht × List Ht) (fun s st => st = mk [(0, .c (.t (.int .i64 m))), (1, .c (.t (.int .i64 k))), (2, .c (.t (.sl 2 (hrows l)))), (6, .c (.t (.bool false))), (7, .c (.mp 14 0 0)), (8, .c (.mp 17 0 0)), (9, .c (.t (.int .i64 s.1)))] [(12, .cells 1 [[.t (.int .i64 m)]]), (14, .cells 4 [[.t (.int .i64 k), .t (.int .i64 m), .mr 51 0 s.2.1.length, .fnc 44 [] [.mp 12 0 0]]]), (15, .cells 1 [[.t (.int .i64 m)]]), (17, .cells 4 [[.t (.int .i64 k), .t (.int .i64 m), .mr 57 0 s.2.2.length, .fnc 44 [] [.mp 15 0 0]]]), (51, .cells 2 (up (hrows s.2.1))), (57, .cells 2 (up (hrows s.2.2)))] ∧ s.1 ≤ l.length ∧ s.2.1 = hadds m k [] (l.take s.1) ∧ s.2.2 = hadds m k [] (l.reverse.take s.1)) (fun s => l.length - s.1) (0, [], []) ?_ ?_
  · refine ⟨?_, Nat.zero_le _, by simp [hadds], by simp [hadds]⟩
    simp only [go_sem, Int.reduceToNat, ↓reduceIte, reduceCtorEq, Nat.reduceEqDiff, Nat.reduceAdd, Nat.reduceMul, Nat.reduceLT, Nat.reduceLeDiff, Nat.reduceBEq, Int.reduceBEq, Int.reduceBNe, Int.reduceEq, Int.reduceLT, Int.reduceLE, Int.reduceGE, Int.reduceGT, mk_keep, keepL, List.mem_cons, List.not_mem_nil, Nat.reduceEqDiff, Nat.zero_ne_one, Nat.one_ne_zero, reduceCtorEq, or_false, false_or, or_true, true_or, or_self, eq_self, ↓reduceIte]
    rfl
  rintro ⟨i, Ha, Hb⟩ st ⟨rfl, hi, hHa, hHb⟩
  simp only at hi hHa hHb
  have la := hadds_len hM k1 (l.take i)
  have lb := hadds_len hM k1 (l.reverse.take i)
  rw [← hHa, List.length_take, Nat.min_eq_left hi] at la
  rw [← hHb, List.length_take, List.length_reverse, Nat.min_eq_left hi] at lb
  by_cases hil : i < l.length
  · have ta := hadds_take hil m k []
    have hir : i < l.reverse.length := by rw [List.length_reverse]; exact hil
    have tb := hadds_take hir m k []
    rw [← hHa] at ta
    rw [← hHb, List.getElem_reverse] at tb
    have f1 := tt (show (i : Int) < l.length by omega)
    have f2 : (hrows l)[i]? = some (hrow l[i]) := by rw [hrows_get, get_of_lt (by omega)]; rfl
    have f3 := wUp (k := i) (n := l.length) (by omega) (by omega)
    have f4 : (hrows l)[l.length - 1 - i]? = some (hrow l[l.length - 1 - i]) := by rw [hrows_get, get_of_lt (by omega)]; rfl
    have f5 : IntKind.wrap .i64 ((l.length : Int) - 1) = ((l.length - 1 : Nat) : Int) := by rw [wI (by omega) (by omega)]; omega
    have f6 : IntKind.wrap .i64 (((l.length - 1 : Nat) : Int) - i) = ((l.length - 1 - i : Nat) : Int) := by rw [wI (by omega) (by omega)]; omega
    have f7 := tt (show ((l.length - 1 - i : Nat) : Int) < l.length by omega)
    obtain ⟨⟨a, b⟩, z1⟩ : ∃ z, l[i] = z := ⟨_, rfl⟩
    obtain ⟨⟨c, d⟩, z2⟩ : ∃ z, l[l.length - 1 - i] = z := ⟨_, rfl⟩
    rw [z1] at f2 ta
    rw [z2] at f4 tb
    have qa := hadd_spec k m Ha (a, b) (by omega) (by omega)
    have qb := hadd_spec k m Hb (c, d) (by omega) (by omega)
    generalize (hadd k m Ha (a, b)).1 = oka at *
    generalize (hadd k m Hb (c, d)).1 = okb at *
    rw [← ta] at qa
    rw [← tb] at qb
    obtain ⟨Qa, eQa⟩ := ex_of (hadds m k [] (l.take (i + 1)))
    obtain ⟨Qb, eQb⟩ := ex_of (hadds m k [] (l.reverse.take (i + 1)))
    rw [← eQa] at qa
    rw [← eQb] at qb
    rw [hcell_eq] at qa qb
    repeat' (first
     | (with_reducible first | refine s_seq ?_ | refine s_block ?_ | refine s_region fun kr hr => ?_)
     | (with_reducible refine s_text tOk [12, 14, 15, 17, 51, 56, 57, 66, 1000, 1001, 1002, 1003] (by kernel_rfl) (by simp [HeapIn, namers, namerDst, namerOp, Blk.has, hasRows, hasL, CV.has, hasRows_up, hasRows_append, f1, f2, f3, f4, f5, f6, f7, hrow, hrows_len, boxB, listB, bestB, hcell]; (try ((repeat' apply And.intro) <;> intros <;> omega))) fun kr hr => ?_)
     | (with_reducible first | refine s_op fun K' hk => ?_ | refine t_op fun K' hk => ?_ | (refine hk _ ?_; clear hk K') | (refine ht _ ?_; clear ht hf KT KF) | (refine hf _ ?_; clear ht hf KT KF) | ((first | refine s_nil ?_ | refine t_nil ?_); refine hr _ ?_; clear hr kr))
     | ((with_reducible refine n_seqK [0, 1, 2, 3, 4, 5, 6, 7, 8, 9, 10, 11, 14, 17, 19, 20, 21, 22, 23, 25, 31, 48] [12, 14, 15, 17, 51, 56, 57, 66] ?_); simp only [mk_keep, keepL, List.mem_cons, List.not_mem_nil, Nat.reduceEqDiff, Nat.zero_ne_one, Nat.one_ne_zero, reduceCtorEq, or_false, false_or, or_true, true_or, or_self, eq_self, ↓reduceIte])
     | (with_reducible first | refine s_cond fun KT KF ht hf => ?_ | refine s_skip ?_)
     | ((with_reducible refine s_long ?_); simp only [List.cons_append, List.nil_append])
     | (with_reducible first | refine s_exit ?_ | refine s_ret ?_ | refine e_seq ?_ | refine r_seq ?_ | refine n_block ?_ | refine e_block ?_ | refine r_block ?_ | refine e_loop ?_ | refine r_loop ?_ | refine e_round ?_ | refine r_round ?_ | refine s_round ?_ | refine f_block ?_ (by decide) | refine r_res ?_ | refine n_res ?_)
     | (simp only [hgb, go_sem, Int.reduceToNat, ↓reduceIte, reduceCtorEq, Nat.reduceEqDiff, Nat.reduceAdd, Nat.reduceMul, Nat.reduceLT, Nat.reduceLeDiff, Nat.reduceBEq, Int.reduceBEq, Int.reduceBNe, Int.reduceEq, Int.reduceLT, Int.reduceLE, Int.reduceGE, Int.reduceGT, f1, f2, f3, f4, f5, f6, f7, hrow, hrows_len, boxB, listB, bestB, hcell, callE, resSV, AV.flat, CV.flat, TV.flat]; clear hgb)
     | simp only [go_sem, Int.reduceToNat, ↓reduceIte, reduceCtorEq, Nat.reduceEqDiff, Nat.reduceAdd, Nat.reduceMul, Nat.reduceLT, Nat.reduceLeDiff, Nat.reduceBEq, Int.reduceBEq, Int.reduceBNe, Int.reduceEq, Int.reduceLT, Int.reduceLE, Int.reduceGE, Int.reduceGT, f1, f2, f3, f4, f5, f6, f7, hrow, hrows_len, boxB, listB, bestB, hcell, callE, resSV, AV.flat, CV.flat, TV.flat, hAll]
     | refine Or.inr (m_callN [(1000,12),(1001,51),(1002,14),(49,56)] [1000,1001,1002] [1000,49,1002] [56] [12, 51, 14] ⟨fun _ _ => rfl, qa⟩ rfl rfl (by first | (simp [AV.ren, CV.ren, renL, renL_map, tbl, boxB, listB, bestB, hcell]; done) | fail) rfl rfl rfl rfl (by decide) (by first | (simp [hAll, hRen, mk_heap, hL, tbl, Blk.ren, renRows_up, renRows, renL, CV.ren, boxB, listB, bestB, hcell]; done) | fail) (by first | (simp [Blk.has, hasRows, hasL, CV.has, hasRows_up, boxB, listB, bestB, hcell]; done) | fail) (by first | (intro k; simp [hasA, AV.has, CV.has, hasL, Blk.has, hasRows, hasRows_up, boxB, listB, bestB, hcell]; done) | (intro k; simp [hasA, AV.has, CV.has, hasL, Blk.has, hasRows, hasRows_up, boxB, listB, bestB, hcell]; omega) | fail) ?_)
     | refine (m_callN [(1000,12),(1001,51),(1002,14),(49,56)] [1000,1001,1002] [1000,49,1002] [56] [12, 51, 14] ⟨fun _ _ => rfl, qa⟩ rfl rfl (by first | (simp [AV.ren, CV.ren, renL, renL_map, tbl, boxB, listB, bestB, hcell]; done) | fail) rfl rfl rfl rfl (by decide) (by first | (simp [hAll, hRen, mk_heap, hL, tbl, Blk.ren, renRows_up, renRows, renL, CV.ren, boxB, listB, bestB, hcell]; done) | fail) (by first | (simp [Blk.has, hasRows, hasL, CV.has, hasRows_up, boxB, listB, bestB, hcell]; done) | fail) (by first | (intro k; simp [hasA, AV.has, CV.has, hasL, Blk.has, hasRows, hasRows_up, boxB, listB, bestB, hcell]; done) | (intro k; simp [hasA, AV.has, CV.has, hasL, Blk.has, hasRows, hasRows_up, boxB, listB, bestB, hcell]; omega) | fail) ?_)
     | refine Or.inr (m_callN [(1000,15),(1001,57),(1002,17),(49,66)] [1000,1001,1002] [1000,49,1002] [66] [15, 57, 17] ⟨fun _ _ => rfl, qb⟩ rfl rfl (by first | (simp [AV.ren, CV.ren, renL, renL_map, tbl, boxB, listB, bestB, hcell]; done) | fail) rfl rfl rfl rfl (by decide) (by first | (simp [hAll, hRen, mk_heap, hL, tbl, Blk.ren, renRows_up, renRows, renL, CV.ren, boxB, listB, bestB, hcell]; done) | fail) (by first | (simp [Blk.has, hasRows, hasL, CV.has, hasRows_up, boxB, listB, bestB, hcell]; done) | fail) (by first | (intro k; simp [hasA, AV.has, CV.has, hasL, Blk.has, hasRows, hasRows_up, boxB, listB, bestB, hcell]; done) | (intro k; simp [hasA, AV.has, CV.has, hasL, Blk.has, hasRows, hasRows_up, boxB, listB, bestB, hcell]; omega) | fail) ?_)
     | refine (m_callN [(1000,15),(1001,57),(1002,17),(49,66)] [1000,1001,1002] [1000,49,1002] [66] [15, 57, 17] ⟨fun _ _ => rfl, qb⟩ rfl rfl (by first | (simp [AV.ren, CV.ren, renL, renL_map, tbl, boxB, listB, bestB, hcell]; done) | fail) rfl rfl rfl rfl (by decide) (by first | (simp [hAll, hRen, mk_heap, hL, tbl, Blk.ren, renRows_up, renRows, renL, CV.ren, boxB, listB, bestB, hcell]; done) | fail) (by first | (simp [Blk.has, hasRows, hasL, CV.has, hasRows_up, boxB, listB, bestB, hcell]; done) | fail) (by first | (intro k; simp [hasA, AV.has, CV.has, hasL, Blk.has, hasRows, hasRows_up, boxB, listB, bestB, hcell]; done) | (intro k; simp [hasA, AV.has, CV.has, hasL, Blk.has, hasRows, hasRows_up, boxB, listB, bestB, hcell]; omega) | fail) ?_)
     | (refine ite_guard (fun hg => ?_) (fun hg => ?_) <;> (try simp only [Bool.not_eq_true, Bool.not_eq_false, Decidable.not_not] at hg) <;> (first | have hgb : (_ : Bool) = _ := hg | have hgb := ff hg | have hgb := tt hg))
     | (refine ⟨fun hc => ht _ ?_, fun hc => hf _ ?_⟩ <;> clear ht hf KT KF)
     | fail)
    refine n_loopG _ (gho_ren (a := 56) (b := 51) (by decide) (by decide)) ?_
    rw [mk_ren]
    refine n_loopG _ (gho_ren (a := 66) (b := 57) (by decide) (by decide)) ?_
    simp only [go_sem, Int.reduceToNat, ↓reduceIte, reduceCtorEq, Nat.reduceEqDiff, Nat.reduceAdd, Nat.reduceMul, Nat.reduceLT, Nat.reduceLeDiff, Nat.reduceBEq, Int.reduceBEq, Int.reduceBNe, Int.reduceEq, Int.reduceLT, Int.reduceLE, Int.reduceGE, Int.reduceGT, mk_keep, keepL, List.mem_cons, List.not_mem_nil, Nat.reduceEqDiff, Nat.zero_ne_one, Nat.one_ne_zero, reduceCtorEq, or_false, false_or, or_true, true_or, or_self, eq_self, ↓reduceIte, renS, Blk.ren, renRows, renL, CV.ren, renRows_up, mapV, SV.ren, ins, sw]
    rw [mk_ren]
    refine n_loop (i + 1, Qa, Qb) [0, 1, 2, 6, 7, 8, 9] [12, 14, 15, 17, 51, 57] ⟨?_, hil, eQa, eQb⟩ (by simp only; omega)
    simp only [go_sem, Int.reduceToNat, ↓reduceIte, reduceCtorEq, Nat.reduceEqDiff, Nat.reduceAdd, Nat.reduceMul, Nat.reduceLT, Nat.reduceLeDiff, Nat.reduceBEq, Int.reduceBEq, Int.reduceBNe, Int.reduceEq, Int.reduceLT, Int.reduceLE, Int.reduceGE, Int.reduceGT, mk_keep, keepL, List.mem_cons, List.not_mem_nil, Nat.reduceEqDiff, Nat.zero_ne_one, Nat.one_ne_zero, reduceCtorEq, or_false, false_or, or_true, true_or, or_self, eq_self, ↓reduceIte, renS, Blk.ren, renRows, renL, CV.ren, renRows_up, mapV, SV.ren, ins, sw]
  · have f1 := ff (show ¬ ((i : Int) < l.length) by omega)
    obtain rfl : i = l.length := by omega
    obtain ⟨law1, law2⟩ := best_law hM k1 l
    rw [List.take_length] at hHa
    rw [show l.length = l.reverse.length by simp, List.take_length] at hHb
    rw [← hHa] at law1
    rw [← hHb] at law2
    have qu := unlike_spec l (by omega)
    have qlen := uniq_len l
    have qs := tsort_some m (uniq l) (uniq l).length hM (Nat.le_refl _) (by omega)
    rw [List.take_length] at qs
    have qla := list_spec k m Ha hM (by omega)
    have qlb := list_spec k m Hb hM (by omega)
    rw [law1] at qla
    rw [law2] at qlb
    have slen := hsort_len m (uniq l)
    have e1 : Ha.length = min k (uniq l).length := by have := congrArg List.length law1; rw [hsort_len, List.length_take, slen] at this; exact this
    have e2 : Hb.length = min k (uniq l).length := by have := congrArg List.length law2; rw [hsort_len, List.length_take, slen] at this; exact this
    generalize uniq l = U at *
    generalize hsort m U = S at *
    obtain ⟨n, en⟩ := ex_of (min k U.length)
    rw [← en] at e1 e2
    have e0 : S.take k = S.take n := by
      rcases Nat.le_total k U.length with h | h
      · rw [en, Nat.min_eq_left h]
      · rw [en, Nat.min_eq_right h, List.take_of_length_le (by omega), List.take_of_length_le (by omega)]
    rw [e0] at qla qlb
    have qsame := same_spec (S.take n) (S.take n) (by rw [List.length_take]; omega)
    rw [decide_eq_true rfl] at qsame
    have p1 : (if (U.length : Int) < (k : Int) then (U.length : Int) else (k : Int)) = (n : Int) := by split <;> omega
    have p7 := tt (Int.natCast_nonneg n)
    have p2 := tt (show n ≤ U.length by omega)
    have p3 := tt (Nat.zero_le n)
    have p4 : (hrows (S.take n)).length = n := by rw [hrows_len, List.length_take]; omega
    have p5 : List.take n (hrows S) = hrows (S.take n) := by simp [hrows, List.map_take]
    have p6 : List.take n (hrows (S.take n)) = hrows (S.take n) := List.take_of_length_le (by omega)
    repeat' (first
     | (with_reducible first | refine s_seq ?_ | refine s_block ?_ | refine s_region fun kr hr => ?_)
     | (with_reducible refine s_text tOk [12, 14, 15, 17, 51, 57, 69, 70, 78, 83, 1000, 1001, 1002, 1003] (by kernel_rfl) (by simp [HeapIn, namers, namerDst, namerOp, Blk.has, hasRows, hasL, CV.has, hasRows_up, hasRows_append, f1, p1, p2, p3, p4, p5, p6, p7, Int.toNat_natCast, e1, e2, slen, Nat.sub_zero, hrows_len, boxB, listB, bestB]; (try ((repeat' apply And.intro) <;> intros <;> omega))) fun kr hr => ?_)
     | (with_reducible first | refine s_op fun K' hk => ?_ | refine t_op fun K' hk => ?_ | (refine hk _ ?_; clear hk K') | (refine ht _ ?_; clear ht hf KT KF) | (refine hf _ ?_; clear ht hf KT KF) | ((first | refine s_nil ?_ | refine t_nil ?_); refine hr _ ?_; clear hr kr))
     | ((with_reducible refine n_seqK [0, 1, 2, 3, 4, 5, 6, 7, 8, 9, 10, 11, 14, 17, 19, 20, 21, 22, 23, 25, 31, 48] [12, 14, 15, 17, 51, 57, 69, 70, 78, 83] ?_); simp only [mk_keep, keepL, List.mem_cons, List.not_mem_nil, Nat.reduceEqDiff, Nat.zero_ne_one, Nat.one_ne_zero, reduceCtorEq, or_false, false_or, or_true, true_or, or_self, eq_self, ↓reduceIte])
     | (with_reducible first | refine s_cond fun KT KF ht hf => ?_ | refine s_skip ?_)
     | ((with_reducible refine s_long ?_); simp only [List.cons_append, List.nil_append])
     | (with_reducible first | refine s_exit ?_ | refine s_ret ?_ | refine e_seq ?_ | refine r_seq ?_ | refine n_block ?_ | refine e_block ?_ | refine r_block ?_ | refine e_loop ?_ | refine r_loop ?_ | refine e_round ?_ | refine r_round ?_ | refine s_round ?_ | refine f_block ?_ (by decide) | refine r_res ?_ | refine n_res ?_)
     | (simp only [hgb, go_sem, Int.reduceToNat, ↓reduceIte, reduceCtorEq, Nat.reduceEqDiff, Nat.reduceAdd, Nat.reduceMul, Nat.reduceLT, Nat.reduceLeDiff, Nat.reduceBEq, Int.reduceBEq, Int.reduceBNe, Int.reduceEq, Int.reduceLT, Int.reduceLE, Int.reduceGE, Int.reduceGT, f1, p1, p2, p3, p4, p5, p6, p7, Int.toNat_natCast, e1, e2, slen, Nat.sub_zero, hrows_len, boxB, listB, bestB, callE, resSV, AV.flat, CV.flat, TV.flat]; clear hgb)
     | simp only [go_sem, Int.reduceToNat, ↓reduceIte, reduceCtorEq, Nat.reduceEqDiff, Nat.reduceAdd, Nat.reduceMul, Nat.reduceLT, Nat.reduceLeDiff, Nat.reduceBEq, Int.reduceBEq, Int.reduceBNe, Int.reduceEq, Int.reduceLT, Int.reduceLE, Int.reduceGE, Int.reduceGT, f1, p1, p2, p3, p4, p5, p6, p7, Int.toNat_natCast, e1, e2, slen, Nat.sub_zero, hrows_len, boxB, listB, bestB, callE, resSV, AV.flat, CV.flat, TV.flat, hAll]
     | refine Or.inr (m_callN [(39,69)] [] [39] [69] [] ⟨fun _ _ => rfl, qu⟩ rfl rfl (by first | (simp [AV.ren, CV.ren, renL, renL_map, tbl, listB]; done) | fail) rfl rfl rfl rfl (by decide) (by first | (simp [hAll, hRen, mk_heap, hL, tbl, Blk.ren, renRows_up, renRows, renL, CV.ren, listB]; done) | fail) (by first | (simp [Blk.has, hasRows, hasL, CV.has, hasRows_up, listB]; done) | fail) (by first | (intro k; simp [hasA, AV.has, CV.has, hasL, Blk.has, hasRows, hasRows_up, listB]; done) | (intro k; simp [hasA, AV.has, CV.has, hasL, Blk.has, hasRows, hasRows_up, listB]; omega) | fail) ?_)
     | refine (m_callN [(39,69)] [] [39] [69] [] ⟨fun _ _ => rfl, qu⟩ rfl rfl (by first | (simp [AV.ren, CV.ren, renL, renL_map, tbl, listB]; done) | fail) rfl rfl rfl rfl (by decide) (by first | (simp [hAll, hRen, mk_heap, hL, tbl, Blk.ren, renRows_up, renRows, renL, CV.ren, listB]; done) | fail) (by first | (simp [Blk.has, hasRows, hasL, CV.has, hasRows_up, listB]; done) | fail) (by first | (intro k; simp [hasA, AV.has, CV.has, hasL, Blk.has, hasRows, hasRows_up, listB]; done) | (intro k; simp [hasA, AV.has, CV.has, hasL, Blk.has, hasRows, hasRows_up, listB]; omega) | fail) ?_)
     | refine Or.inr (m_callN [(1000,69),(10,70)] [1000] [1000,10] [70] [69] ⟨fun _ _ => rfl, qs⟩ rfl rfl (by first | (simp [AV.ren, CV.ren, renL, renL_map, tbl, listB]; done) | fail) rfl rfl rfl rfl (by decide) (by first | (simp [hAll, hRen, mk_heap, hL, tbl, Blk.ren, renRows_up, renRows, renL, CV.ren, listB]; done) | fail) (by first | (simp [Blk.has, hasRows, hasL, CV.has, hasRows_up, listB]; done) | fail) (by first | (intro k; simp [hasA, AV.has, CV.has, hasL, Blk.has, hasRows, hasRows_up, listB]; done) | (intro k; simp [hasA, AV.has, CV.has, hasL, Blk.has, hasRows, hasRows_up, listB]; omega) | fail) ?_)
     | refine (m_callN [(1000,69),(10,70)] [1000] [1000,10] [70] [69] ⟨fun _ _ => rfl, qs⟩ rfl rfl (by first | (simp [AV.ren, CV.ren, renL, renL_map, tbl, listB]; done) | fail) rfl rfl rfl rfl (by decide) (by first | (simp [hAll, hRen, mk_heap, hL, tbl, Blk.ren, renRows_up, renRows, renL, CV.ren, listB]; done) | fail) (by first | (simp [Blk.has, hasRows, hasL, CV.has, hasRows_up, listB]; done) | fail) (by first | (intro k; simp [hasA, AV.has, CV.has, hasL, Blk.has, hasRows, hasRows_up, listB]; done) | (intro k; simp [hasA, AV.has, CV.has, hasL, Blk.has, hasRows, hasRows_up, listB]; omega) | fail) ?_)
     | refine Or.inr (m_callN [(1000,12),(1001,51),(1002,14),(14,78)] [1000,1001,1002] [1000,1001,1002,14] [78] [12, 51, 14] ⟨fun _ _ => rfl, qla⟩ rfl rfl (by first | (simp [AV.ren, CV.ren, renL, renL_map, tbl, boxB, listB, bestB, e1]; done) | fail) rfl rfl rfl rfl (by decide) (by first | (simp [hAll, hRen, mk_heap, hL, tbl, Blk.ren, renRows_up, renRows, renL, CV.ren, boxB, listB, bestB, e1]; done) | fail) (by first | (simp [Blk.has, hasRows, hasL, CV.has, hasRows_up, boxB, listB, bestB, e1]; done) | fail) (by first | (intro k; simp [hasA, AV.has, CV.has, hasL, Blk.has, hasRows, hasRows_up, boxB, listB, bestB, e1]; done) | (intro k; simp [hasA, AV.has, CV.has, hasL, Blk.has, hasRows, hasRows_up, boxB, listB, bestB, e1]; omega) | fail) ?_)
     | refine (m_callN [(1000,12),(1001,51),(1002,14),(14,78)] [1000,1001,1002] [1000,1001,1002,14] [78] [12, 51, 14] ⟨fun _ _ => rfl, qla⟩ rfl rfl (by first | (simp [AV.ren, CV.ren, renL, renL_map, tbl, boxB, listB, bestB, e1]; done) | fail) rfl rfl rfl rfl (by decide) (by first | (simp [hAll, hRen, mk_heap, hL, tbl, Blk.ren, renRows_up, renRows, renL, CV.ren, boxB, listB, bestB, e1]; done) | fail) (by first | (simp [Blk.has, hasRows, hasL, CV.has, hasRows_up, boxB, listB, bestB, e1]; done) | fail) (by first | (intro k; simp [hasA, AV.has, CV.has, hasL, Blk.has, hasRows, hasRows_up, boxB, listB, bestB, e1]; done) | (intro k; simp [hasA, AV.has, CV.has, hasL, Blk.has, hasRows, hasRows_up, boxB, listB, bestB, e1]; omega) | fail) ?_)
     | refine Or.inr (m_callN [(1000,15),(1001,57),(1002,17),(14,83)] [1000,1001,1002] [1000,1001,1002,14] [83] [15, 57, 17] ⟨fun _ _ => rfl, qlb⟩ rfl rfl (by first | (simp [AV.ren, CV.ren, renL, renL_map, tbl, boxB, listB, bestB, e2]; done) | fail) rfl rfl rfl rfl (by decide) (by first | (simp [hAll, hRen, mk_heap, hL, tbl, Blk.ren, renRows_up, renRows, renL, CV.ren, boxB, listB, bestB, e2]; done) | fail) (by first | (simp [Blk.has, hasRows, hasL, CV.has, hasRows_up, boxB, listB, bestB, e2]; done) | fail) (by first | (intro k; simp [hasA, AV.has, CV.has, hasL, Blk.has, hasRows, hasRows_up, boxB, listB, bestB, e2]; done) | (intro k; simp [hasA, AV.has, CV.has, hasL, Blk.has, hasRows, hasRows_up, boxB, listB, bestB, e2]; omega) | fail) ?_)
     | refine (m_callN [(1000,15),(1001,57),(1002,17),(14,83)] [1000,1001,1002] [1000,1001,1002,14] [83] [15, 57, 17] ⟨fun _ _ => rfl, qlb⟩ rfl rfl (by first | (simp [AV.ren, CV.ren, renL, renL_map, tbl, boxB, listB, bestB, e2]; done) | fail) rfl rfl rfl rfl (by decide) (by first | (simp [hAll, hRen, mk_heap, hL, tbl, Blk.ren, renRows_up, renRows, renL, CV.ren, boxB, listB, bestB, e2]; done) | fail) (by first | (simp [Blk.has, hasRows, hasL, CV.has, hasRows_up, boxB, listB, bestB, e2]; done) | fail) (by first | (intro k; simp [hasA, AV.has, CV.has, hasL, Blk.has, hasRows, hasRows_up, boxB, listB, bestB, e2]; done) | (intro k; simp [hasA, AV.has, CV.has, hasL, Blk.has, hasRows, hasRows_up, boxB, listB, bestB, e2]; omega) | fail) ?_)
     | refine Or.inl ⟨_, ⟨fun _ _ => rfl, qsame⟩, ?_⟩
     | refine ⟨_, ⟨fun _ _ => rfl, qsame⟩, ?_⟩
     | refine Or.inl ⟨_, ⟨fun _ _ => rfl, awake07_spec⟩, ?_⟩
     | refine ⟨_, ⟨fun _ _ => rfl, awake07_spec⟩, ?_⟩
     | (refine ite_guard (fun hg => ?_) (fun hg => ?_) <;> (try simp only [Bool.not_eq_true, Bool.not_eq_false, Decidable.not_not] at hg) <;> (first | have hgb : (_ : Bool) = _ := hg | have hgb := ff hg | have hgb := tt hg))
     | (refine ⟨fun hc => ht _ ?_, fun hc => hf _ ?_⟩ <;> clear ht hf KT KF)
     | fail)
theorem topkBest_spec (m k : Int) (l : List Ht) (hk9 : k ≤ 9223372036854775807) (hl : (l.length + 1) * 16 ≤ 140737488355328) : Spec Try.prog 4 [.v (.t (.int .i64 m)), .v (.t (.int .i64 k)), .v (.t (.sl 2 (hrows l)))] [] [.v (.t (.bool true))] [] := by
  cases hM : mOk m
  · exact topkBest_bad m k l (.inl hM)
  · by_cases h1 : k < 1
    · exact topkBest_bad m k l (.inr h1)
    · obtain ⟨n, rfl⟩ : ∃ n : Nat, k = n := ⟨k.toNat, by omega⟩
      exact topkBest_good m n l hM (by omega) (by omega) hl
end Go.Proofs.Ytgmjgognpabmdaa.Fx
