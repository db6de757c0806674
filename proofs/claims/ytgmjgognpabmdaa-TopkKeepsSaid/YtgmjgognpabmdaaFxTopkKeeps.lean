/- The law TopkKeeps. -/
import Derived.Test.YtgmjgognpabmdaaFxTopLaw2
namespace Go.Proofs.Ytgmjgognpabmdaa.Fx
open Go Go.RowKit
set_option maxRecDepth 100000
set_option linter.unusedSimpArgs false
set_option linter.unusedVariables false
set_option maxHeartbeats 8000000 in
theorem topkKeeps_bad (m k : Int) (l : List Ht) (h : mOk m = false ∨ k < 1) : Spec Try.prog 6 [.v (.t (.int .i64 m)), .v (.t (.int .i64 k)), .v (.t (.sl 2 (hrows l)))] [] [.v (.t (.bool true))] [] := by
  have h1 := new_none m k h
  by_cases hm1 : m < 1
  · have g1 := tt hm1
    refine spec_by Try.func6 rfl mixed tOk evOk (n := 126) rfl (by simp) (by simp) ?_
    rw [initSt_mk, show Try.f6.results.toList = [.tmp 6] from rfl]
    simp only [initL, AV.sv, List.map_cons, List.map_nil, Nat.reduceAdd, Nat.zero_add]
    repeat' (first
     | (with_reducible first | refine s_seq ?_ | refine s_block ?_ | refine s_region fun kr hr => ?_)
     | (with_reducible refine s_text tOk [11, 1000, 1001, 1002, 1003] (by kernel_rfl) (by simp [HeapIn, namers, namerDst, namerOp, Blk.has, hasRows, hasL, CV.has, hasRows_up, hasRows_append, g1, gt_iff_lt]; (try ((repeat' apply And.intro) <;> intros <;> omega))) fun kr hr => ?_)
     | (with_reducible first | refine s_op fun K' hk => ?_ | refine t_op fun K' hk => ?_ | (refine hk _ ?_; clear hk K') | (refine ht _ ?_; clear ht hf KT KF) | (refine hf _ ?_; clear ht hf KT KF) | ((first | refine s_nil ?_ | refine t_nil ?_); refine hr _ ?_; clear hr kr))
     | ((with_reducible refine n_seqK [0, 1, 2, 3, 4, 5, 6, 7, 8, 9, 10, 11, 12, 13, 14, 17, 19, 20, 21, 23, 24, 25, 26, 27, 31, 52, 89, 106, 112] [11] ?_); simp only [mk_keep, keepL, List.mem_cons, List.not_mem_nil, Nat.reduceEqDiff, Nat.zero_ne_one, Nat.one_ne_zero, reduceCtorEq, or_false, false_or, or_true, true_or, or_self, eq_self, ↓reduceIte])
     | (with_reducible first | refine s_cond fun KT KF ht hf => ?_ | refine s_skip ?_)
     | ((with_reducible refine s_long ?_); simp only [List.cons_append, List.nil_append])
     | (with_reducible first | refine s_exit ?_ | refine s_ret ?_ | refine e_seq ?_ | refine r_seq ?_ | refine n_block ?_ | refine e_block ?_ | refine r_block ?_ | refine e_loop ?_ | refine r_loop ?_ | refine e_round ?_ | refine r_round ?_ | refine s_round ?_ | refine f_block ?_ (by decide) | refine r_res ?_ | refine n_res ?_)
     | (simp only [hgb, go_sem, Int.reduceToNat, ↓reduceIte, reduceCtorEq, Nat.reduceEqDiff, Nat.reduceAdd, Nat.reduceMul, Nat.reduceLT, Nat.reduceLeDiff, Nat.reduceBEq, Int.reduceBEq, Int.reduceBNe, Int.reduceEq, Int.reduceLT, Int.reduceLE, Int.reduceGE, Int.reduceGT, g1, gt_iff_lt, callE, resSV, AV.flat, CV.flat, TV.flat]; clear hgb)
     | simp only [go_sem, Int.reduceToNat, ↓reduceIte, reduceCtorEq, Nat.reduceEqDiff, Nat.reduceAdd, Nat.reduceMul, Nat.reduceLT, Nat.reduceLeDiff, Nat.reduceBEq, Int.reduceBEq, Int.reduceBNe, Int.reduceEq, Int.reduceLT, Int.reduceLE, Int.reduceGE, Int.reduceGT, g1, gt_iff_lt, callE, resSV, AV.flat, CV.flat, TV.flat, hAll]
     | refine Or.inl ⟨_, ⟨fun _ _ => rfl, h1⟩, ?_⟩
     | refine ⟨_, ⟨fun _ _ => rfl, h1⟩, ?_⟩
     | refine Or.inl ⟨_, ⟨fun _ _ => rfl, awake07_spec⟩, ?_⟩
     | refine ⟨_, ⟨fun _ _ => rfl, awake07_spec⟩, ?_⟩
     | (refine ite_guard (fun hg => ?_) (fun hg => ?_) <;> (try simp only [Bool.not_eq_true, Bool.not_eq_false, Decidable.not_not] at hg) <;> (first | have hgb : (_ : Bool) = _ := hg | have hgb := ff hg | have hgb := tt hg))
     | (refine ⟨fun hc => ht _ ?_, fun hc => hf _ ?_⟩ <;> clear ht hf KT KF)
     | fail)
  · have g1 := ff hm1
    by_cases hm3 : 3 < m
    · have g2 := tt hm3
      refine spec_by Try.func6 rfl mixed tOk evOk (n := 126) rfl (by simp) (by simp) ?_
      rw [initSt_mk, show Try.f6.results.toList = [.tmp 6] from rfl]
      simp only [initL, AV.sv, List.map_cons, List.map_nil, Nat.reduceAdd, Nat.zero_add]
      repeat' (first
       | (with_reducible first | refine s_seq ?_ | refine s_block ?_ | refine s_region fun kr hr => ?_)
       | (with_reducible refine s_text tOk [11, 1000, 1001, 1002, 1003] (by kernel_rfl) (by simp [HeapIn, namers, namerDst, namerOp, Blk.has, hasRows, hasL, CV.has, hasRows_up, hasRows_append, g1, g2, gt_iff_lt]; (try ((repeat' apply And.intro) <;> intros <;> omega))) fun kr hr => ?_)
       | (with_reducible first | refine s_op fun K' hk => ?_ | refine t_op fun K' hk => ?_ | (refine hk _ ?_; clear hk K') | (refine ht _ ?_; clear ht hf KT KF) | (refine hf _ ?_; clear ht hf KT KF) | ((first | refine s_nil ?_ | refine t_nil ?_); refine hr _ ?_; clear hr kr))
       | ((with_reducible refine n_seqK [0, 1, 2, 3, 4, 5, 6, 7, 8, 9, 10, 11, 12, 13, 14, 17, 19, 20, 21, 23, 24, 25, 26, 27, 31, 52, 89, 106, 112] [11] ?_); simp only [mk_keep, keepL, List.mem_cons, List.not_mem_nil, Nat.reduceEqDiff, Nat.zero_ne_one, Nat.one_ne_zero, reduceCtorEq, or_false, false_or, or_true, true_or, or_self, eq_self, ↓reduceIte])
       | (with_reducible first | refine s_cond fun KT KF ht hf => ?_ | refine s_skip ?_)
       | ((with_reducible refine s_long ?_); simp only [List.cons_append, List.nil_append])
       | (with_reducible first | refine s_exit ?_ | refine s_ret ?_ | refine e_seq ?_ | refine r_seq ?_ | refine n_block ?_ | refine e_block ?_ | refine r_block ?_ | refine e_loop ?_ | refine r_loop ?_ | refine e_round ?_ | refine r_round ?_ | refine s_round ?_ | refine f_block ?_ (by decide) | refine r_res ?_ | refine n_res ?_)
       | (simp only [hgb, go_sem, Int.reduceToNat, ↓reduceIte, reduceCtorEq, Nat.reduceEqDiff, Nat.reduceAdd, Nat.reduceMul, Nat.reduceLT, Nat.reduceLeDiff, Nat.reduceBEq, Int.reduceBEq, Int.reduceBNe, Int.reduceEq, Int.reduceLT, Int.reduceLE, Int.reduceGE, Int.reduceGT, g1, g2, gt_iff_lt, callE, resSV, AV.flat, CV.flat, TV.flat]; clear hgb)
       | simp only [go_sem, Int.reduceToNat, ↓reduceIte, reduceCtorEq, Nat.reduceEqDiff, Nat.reduceAdd, Nat.reduceMul, Nat.reduceLT, Nat.reduceLeDiff, Nat.reduceBEq, Int.reduceBEq, Int.reduceBNe, Int.reduceEq, Int.reduceLT, Int.reduceLE, Int.reduceGE, Int.reduceGT, g1, g2, gt_iff_lt, callE, resSV, AV.flat, CV.flat, TV.flat, hAll]
       | refine Or.inl ⟨_, ⟨fun _ _ => rfl, h1⟩, ?_⟩
       | refine ⟨_, ⟨fun _ _ => rfl, h1⟩, ?_⟩
       | refine Or.inl ⟨_, ⟨fun _ _ => rfl, awake07_spec⟩, ?_⟩
       | refine ⟨_, ⟨fun _ _ => rfl, awake07_spec⟩, ?_⟩
       | (refine ite_guard (fun hg => ?_) (fun hg => ?_) <;> (try simp only [Bool.not_eq_true, Bool.not_eq_false, Decidable.not_not] at hg) <;> (first | have hgb : (_ : Bool) = _ := hg | have hgb := ff hg | have hgb := tt hg))
       | (refine ⟨fun hc => ht _ ?_, fun hc => hf _ ?_⟩ <;> clear ht hf KT KF)
       | fail)
    · have g2 := ff hm3
      have g3 := tt (show k < 1 from h.elim (fun h => by simp [mOk] at h; omega) id)
      refine spec_by Try.func6 rfl mixed tOk evOk (n := 126) rfl (by simp) (by simp) ?_
      rw [initSt_mk, show Try.f6.results.toList = [.tmp 6] from rfl]
      simp only [initL, AV.sv, List.map_cons, List.map_nil, Nat.reduceAdd, Nat.zero_add]
      repeat' (first
       | (with_reducible first | refine s_seq ?_ | refine s_block ?_ | refine s_region fun kr hr => ?_)
       | (with_reducible refine s_text tOk [11, 1000, 1001, 1002, 1003] (by kernel_rfl) (by simp [HeapIn, namers, namerDst, namerOp, Blk.has, hasRows, hasL, CV.has, hasRows_up, hasRows_append, g1, g2, g3, gt_iff_lt]; (try ((repeat' apply And.intro) <;> intros <;> omega))) fun kr hr => ?_)
       | (with_reducible first | refine s_op fun K' hk => ?_ | refine t_op fun K' hk => ?_ | (refine hk _ ?_; clear hk K') | (refine ht _ ?_; clear ht hf KT KF) | (refine hf _ ?_; clear ht hf KT KF) | ((first | refine s_nil ?_ | refine t_nil ?_); refine hr _ ?_; clear hr kr))
       | ((with_reducible refine n_seqK [0, 1, 2, 3, 4, 5, 6, 7, 8, 9, 10, 11, 12, 13, 14, 17, 19, 20, 21, 23, 24, 25, 26, 27, 31, 52, 89, 106, 112] [11] ?_); simp only [mk_keep, keepL, List.mem_cons, List.not_mem_nil, Nat.reduceEqDiff, Nat.zero_ne_one, Nat.one_ne_zero, reduceCtorEq, or_false, false_or, or_true, true_or, or_self, eq_self, ↓reduceIte])
       | (with_reducible first | refine s_cond fun KT KF ht hf => ?_ | refine s_skip ?_)
       | ((with_reducible refine s_long ?_); simp only [List.cons_append, List.nil_append])
       | (with_reducible first | refine s_exit ?_ | refine s_ret ?_ | refine e_seq ?_ | refine r_seq ?_ | refine n_block ?_ | refine e_block ?_ | refine r_block ?_ | refine e_loop ?_ | refine r_loop ?_ | refine e_round ?_ | refine r_round ?_ | refine s_round ?_ | refine f_block ?_ (by decide) | refine r_res ?_ | refine n_res ?_)
       | (simp only [hgb, go_sem, Int.reduceToNat, ↓reduceIte, reduceCtorEq, Nat.reduceEqDiff, Nat.reduceAdd, Nat.reduceMul, Nat.reduceLT, Nat.reduceLeDiff, Nat.reduceBEq, Int.reduceBEq, Int.reduceBNe, Int.reduceEq, Int.reduceLT, Int.reduceLE, Int.reduceGE, Int.reduceGT, g1, g2, g3, gt_iff_lt, callE, resSV, AV.flat, CV.flat, TV.flat]; clear hgb)
       | simp only [go_sem, Int.reduceToNat, ↓reduceIte, reduceCtorEq, Nat.reduceEqDiff, Nat.reduceAdd, Nat.reduceMul, Nat.reduceLT, Nat.reduceLeDiff, Nat.reduceBEq, Int.reduceBEq, Int.reduceBNe, Int.reduceEq, Int.reduceLT, Int.reduceLE, Int.reduceGE, Int.reduceGT, g1, g2, g3, gt_iff_lt, callE, resSV, AV.flat, CV.flat, TV.flat, hAll]
       | refine Or.inl ⟨_, ⟨fun _ _ => rfl, h1⟩, ?_⟩
       | refine ⟨_, ⟨fun _ _ => rfl, h1⟩, ?_⟩
       | refine Or.inl ⟨_, ⟨fun _ _ => rfl, awake07_spec⟩, ?_⟩
       | refine ⟨_, ⟨fun _ _ => rfl, awake07_spec⟩, ?_⟩
       | (refine ite_guard (fun hg => ?_) (fun hg => ?_) <;> (try simp only [Bool.not_eq_true, Bool.not_eq_false, Decidable.not_not] at hg) <;> (first | have hgb : (_ : Bool) = _ := hg | have hgb := ff hg | have hgb := tt hg))
       | (refine ⟨fun hc => ht _ ?_, fun hc => hf _ ?_⟩ <;> clear ht hf KT KF)
       | fail)
set_option maxHeartbeats 16000000 in
theorem topkKeeps_good (m : Int) (k : Nat) (l : List Ht) (hM : mOk m = true) (k1 : 1 ≤ k) (hk9 : k ≤ 9223372036854775807) (hl : (l.length + 1) * 16 ≤ 140737488355328) : Spec Try.prog 6 [.v (.t (.int .i64 m)), .v (.t (.int .i64 k)), .v (.t (.sl 2 (hrows l)))] [] [.v (.t (.bool true))] [] := by
  have h1 := new_some m k hM (by omega)
  have hM' : 1 ≤ m ∧ m ≤ 3 := by simpa [mOk] using hM
  have g1 := ff (show ¬ m < 1 by omega)
  have g2 := ff (show ¬ 3 < m by omega)
  have g3 := ff (show ¬ (k : Int) < 1 by omega)
  refine spec_by Try.func6 rfl mixed tOk evOk (n := 126) rfl (by simp) (by simp) ?_
  rw [initSt_mk, show Try.f6.results.toList = [.tmp 6] from rfl]
  simp only [initL, AV.sv, List.map_cons, List.map_nil, Nat.reduceAdd, Nat.zero_add, hrows_len]
  repeat' (first
   | (with_reducible first | refine s_seq ?_ | refine s_block ?_ | refine s_region fun kr hr => ?_)
   | (with_reducible refine s_text tOk [11, 15, 17, 71, 1000, 1001, 1002, 1003] (by kernel_rfl) (by simp [HeapIn, namers, namerDst, namerOp, Blk.has, hasRows, hasL, CV.has, hasRows_up, hasRows_append, g1, g2, g3, gt_iff_lt, boxB, listB, bestN, up_nilh, hrows_len]; (try ((repeat' apply And.intro) <;> intros <;> omega))) fun kr hr => ?_)
   | (with_reducible first | refine s_op fun K' hk => ?_ | refine t_op fun K' hk => ?_ | (refine hk _ ?_; clear hk K') | (refine ht _ ?_; clear ht hf KT KF) | (refine hf _ ?_; clear ht hf KT KF) | ((first | refine s_nil ?_ | refine t_nil ?_); refine hr _ ?_; clear hr kr))
   | ((with_reducible refine n_seqK [0, 1, 2, 3, 4, 5, 6, 7, 8, 9, 10, 11, 12, 13, 14, 17, 19, 20, 21, 23, 24, 25, 26, 27, 31, 52, 89, 106, 112] [11, 15, 17, 71] ?_); simp only [mk_keep, keepL, List.mem_cons, List.not_mem_nil, Nat.reduceEqDiff, Nat.zero_ne_one, Nat.one_ne_zero, reduceCtorEq, or_false, false_or, or_true, true_or, or_self, eq_self, ↓reduceIte])
   | (with_reducible first | refine s_cond fun KT KF ht hf => ?_ | refine s_skip ?_)
   | ((with_reducible refine s_long ?_); simp only [List.cons_append, List.nil_append])
   | (with_reducible first | refine s_exit ?_ | refine s_ret ?_ | refine e_seq ?_ | refine r_seq ?_ | refine n_block ?_ | refine e_block ?_ | refine r_block ?_ | refine e_loop ?_ | refine r_loop ?_ | refine e_round ?_ | refine r_round ?_ | refine s_round ?_ | refine f_block ?_ (by decide) | refine r_res ?_ | refine n_res ?_)
   | (simp only [hgb, go_sem, Int.reduceToNat, ↓reduceIte, reduceCtorEq, Nat.reduceEqDiff, Nat.reduceAdd, Nat.reduceMul, Nat.reduceLT, Nat.reduceLeDiff, Nat.reduceBEq, Int.reduceBEq, Int.reduceBNe, Int.reduceEq, Int.reduceLT, Int.reduceLE, Int.reduceGE, Int.reduceGT, g1, g2, g3, gt_iff_lt, boxB, listB, bestN, up_nilh, hrows_len, callE, resSV, AV.flat, CV.flat, TV.flat]; clear hgb)
   | simp only [go_sem, Int.reduceToNat, ↓reduceIte, reduceCtorEq, Nat.reduceEqDiff, Nat.reduceAdd, Nat.reduceMul, Nat.reduceLT, Nat.reduceLeDiff, Nat.reduceBEq, Int.reduceBEq, Int.reduceBNe, Int.reduceEq, Int.reduceLT, Int.reduceLE, Int.reduceGE, Int.reduceGT, g1, g2, g3, gt_iff_lt, boxB, listB, bestN, up_nilh, hrows_len, callE, resSV, AV.flat, CV.flat, TV.flat, hAll]
   | refine Or.inr (m_callN [(2,15),(16,71),(17,17)] [] [2,16,17] [15, 71, 17] [] ⟨fun _ _ => rfl, h1⟩ rfl rfl (by first | (simp [AV.ren, CV.ren, renL, renL_map, tbl, boxB, listB, bestN, up_nilh]; done) | fail) rfl rfl rfl rfl (by decide) (by first | (simp [hAll, hRen, mk_heap, hL, tbl, Blk.ren, renRows_up, renRows, renL, CV.ren, boxB, listB, bestN, up_nilh]; done) | fail) (by first | (simp [Blk.has, hasRows, hasL, CV.has, hasRows_up, boxB, listB, bestN, up_nilh]; done) | fail) (by first | (intro k; simp [hasA, AV.has, CV.has, hasL, Blk.has, hasRows, hasRows_up, boxB, listB, bestN, up_nilh]; done) | (intro k; simp [hasA, AV.has, CV.has, hasL, Blk.has, hasRows, hasRows_up, boxB, listB, bestN, up_nilh]; omega) | fail) ?_)
   | refine (m_callN [(2,15),(16,71),(17,17)] [] [2,16,17] [15, 71, 17] [] ⟨fun _ _ => rfl, h1⟩ rfl rfl (by first | (simp [AV.ren, CV.ren, renL, renL_map, tbl, boxB, listB, bestN, up_nilh]; done) | fail) rfl rfl rfl rfl (by decide) (by first | (simp [hAll, hRen, mk_heap, hL, tbl, Blk.ren, renRows_up, renRows, renL, CV.ren, boxB, listB, bestN, up_nilh]; done) | fail) (by first | (simp [Blk.has, hasRows, hasL, CV.has, hasRows_up, boxB, listB, bestN, up_nilh]; done) | fail) (by first | (intro k; simp [hasA, AV.has, CV.has, hasL, Blk.has, hasRows, hasRows_up, boxB, listB, bestN, up_nilh]; done) | (intro k; simp [hasA, AV.has, CV.has, hasL, Blk.has, hasRows, hasRows_up, boxB, listB, bestN, up_nilh]; omega) | fail) ?_)
   | (refine ite_guard (fun hg => ?_) (fun hg => ?_) <;> (try simp only [Bool.not_eq_true, Bool.not_eq_false, Decidable.not_not] at hg) <;> (first | have hgb : (_ : Bool) = _ := hg | have hgb := ff hg | have hgb := tt hg))
   | (refine ⟨fun hc => ht _ ?_, fun hc => hf _ ?_⟩ <;> clear ht hf KT KF)
   | fail)
  refine w_loopG _ (gho_nilName (s := 8) (d := 120) (sz := 2) (by decide) ⟨2, rfl⟩ (by rw [fresh_t]; exact trivial; rfl)) ?_
  rw [mk_nilName]
  refine w_loopG _ (gho_freeze (nm := 120) (sz := 2) (rows := []) (trows := []) (by simp [mk_heap, hL, ins]) rfl) ?_
  rw [mk_freeze]
  refine w_loop [0, 1, 2, 6, 7, 8, 9] [15, 17, 71] (σ := Nat × List Ht × List Ht) (fun s st => st = mk [(0, .c (.t (.int .i64 m))), (1, .c (.t (.int .i64 k))), (2, .c (.t (.sl 2 (hrows l)))), (6, .c (.t (.bool false))), (7, .c (.mp 17 0 0)), (8, .c (.t (.sl 2 (hrows s.2.2)))), (9, .c (.t (.int .i64 s.1)))] [(15, .cells 1 [[.t (.int .i64 m)]]), (17, .cells 4 [[.t (.int .i64 k), .t (.int .i64 m), .mr 71 0 s.2.1.length, .fnc 44 [] [.mp 15 0 0]]]), (71, .cells 2 (up (hrows s.2.1)))] ∧ s.1 ≤ l.length ∧ Kp m k s.2.1 s.2.2 ∧ s.2.1.length ≤ s.1) (fun s => l.length - s.1) (0, [], []) ?_ ?_
  · refine ⟨?_, Nat.zero_le _, kp_nil m k, Nat.zero_le _⟩
    simp only [go_sem, Int.reduceToNat, ↓reduceIte, reduceCtorEq, Nat.reduceEqDiff, Nat.reduceAdd, Nat.reduceMul, Nat.reduceLT, Nat.reduceLeDiff, Nat.reduceBEq, Int.reduceBEq, Int.reduceBNe, Int.reduceEq, Int.reduceLT, Int.reduceLE, Int.reduceGE, Int.reduceGT, mk_keep, keepL, List.mem_cons, List.not_mem_nil, Nat.reduceEqDiff, Nat.zero_ne_one, Nat.one_ne_zero, reduceCtorEq, or_false, false_or, or_true, true_or, or_self, eq_self, ↓reduceIte]
    rfl
  rintro ⟨i, H, W⟩ st ⟨rfl, hi, hkp, hHi⟩
  simp only at hi hkp hHi
  have hHW : H.length = W.length := hkp.2.2.1.length_eq
  by_cases hil : i < l.length
  · have f1 := tt (show (i : Int) < l.length by omega)
    have f2 : (hrows l)[i]? = some (hrow l[i]) := by rw [hrows_get, get_of_lt (by omega)]; rfl
    have f3 := wUp (k := i) (n := l.length) (by omega) (by omega)
    obtain ⟨⟨a, b⟩, hz9⟩ : ∃ z, l[i] = z := ⟨_, rfl⟩
    rw [hz9] at f2
    have qr := radd_spec m k W (a, b) (by omega) hk9
    have ha := hadd_spec k m H (a, b) (by omega) (by omega)
    obtain ⟨s1, s2, s3⟩ := kp_step hM k1 hkp (a, b)
    have hlen' : (hadd k m H (a, b)).2.length ≤ i + 1 := by
      have hp := s2.2.2.1.length_eq
      have : (radd m k W (a, b)).1.length ≤ W.length + 1 := by
        rw [radd_fst]; split
        · omega
        · rw [List.length_take, insR_len]; omega
      omega
    rw [← s1] at qr
    generalize (hadd k m H (a, b)).1 = ok at *
    generalize (hadd k m H (a, b)).2 = H' at *
    generalize (radd m k W (a, b)).1 = W' at *
    have hHW' : H'.length = W'.length := s2.2.2.1.length_eq
    obtain ⟨y, T, rfl⟩ : ∃ y T, H' = y :: T := by
      cases H' with
      | nil => exact absurd s3 (by simp)
      | cons y T => exact ⟨y, T, rfl⟩
    have hw := worst_some k m y T (by omega)
    obtain ⟨W0, hW0⟩ := kp_worst hM s2 s3
    rw [show hg (y :: T) 0 = y from rfl] at hW0
    have hlast : (hrows W')[W'.length - 1]? = some (hrow y) := by
      rw [hrows_get, hW0]; simp
    generalize hT : y :: T = Q at *
    have hlW : W'.length ≤ 9223372036854775807 := by omega
    have hb := blen_spec k m Q
    have hfu := full_spec k m Q
    rw [hHW'] at hb hfu
    have p3 : IntKind.wrap .i64 ((W'.length : Int) - 1) = ((W'.length - 1 : Nat) : Int) := by rw [wI (by omega) (by omega)]; omega
    have p4 := tt (show ((W'.length - 1 : Nat) : Int) < W'.length by omega)
    obtain ⟨c, d⟩ := y
    rw [hcell_eq] at qr ha hw
    cases ok
    all_goals
      repeat' (first
       | (with_reducible first | refine s_seq ?_ | refine s_block ?_ | refine s_region fun kr hr => ?_)
       | (with_reducible refine s_text tOk [11, 15, 17, 71, 72, 1000, 1001, 1002, 1003] (by kernel_rfl) (by simp [HeapIn, namers, namerDst, namerOp, Blk.has, hasRows, hasL, CV.has, hasRows_up, hasRows_append, f1, f2, f3, p3, p4, hlast, hrow, hrows_len, hHW', boxB, listB, bestB, hcell]; (try ((repeat' apply And.intro) <;> intros <;> omega))) fun kr hr => ?_)
       | (with_reducible first | refine s_op fun K' hk => ?_ | refine t_op fun K' hk => ?_ | (refine hk _ ?_; clear hk K') | (refine ht _ ?_; clear ht hf KT KF) | (refine hf _ ?_; clear ht hf KT KF) | ((first | refine s_nil ?_ | refine t_nil ?_); refine hr _ ?_; clear hr kr))
       | ((with_reducible refine n_seqK [0, 1, 2, 3, 4, 5, 6, 7, 8, 9, 10, 11, 12, 13, 14, 17, 19, 20, 21, 23, 24, 25, 26, 27, 31, 52, 89, 106, 112] [11, 15, 17, 71, 72] ?_); simp only [mk_keep, keepL, List.mem_cons, List.not_mem_nil, Nat.reduceEqDiff, Nat.zero_ne_one, Nat.one_ne_zero, reduceCtorEq, or_false, false_or, or_true, true_or, or_self, eq_self, ↓reduceIte])
       | (with_reducible first | refine s_cond fun KT KF ht hf => ?_ | refine s_skip ?_)
       | ((with_reducible refine s_long ?_); simp only [List.cons_append, List.nil_append])
       | (with_reducible first | refine s_exit ?_ | refine s_ret ?_ | refine e_seq ?_ | refine r_seq ?_ | refine n_block ?_ | refine e_block ?_ | refine r_block ?_ | refine e_loop ?_ | refine r_loop ?_ | refine e_round ?_ | refine r_round ?_ | refine s_round ?_ | refine f_block ?_ (by decide) | refine r_res ?_ | refine n_res ?_)
       | (simp only [hgb, go_sem, Int.reduceToNat, ↓reduceIte, reduceCtorEq, Nat.reduceEqDiff, Nat.reduceAdd, Nat.reduceMul, Nat.reduceLT, Nat.reduceLeDiff, Nat.reduceBEq, Int.reduceBEq, Int.reduceBNe, Int.reduceEq, Int.reduceLT, Int.reduceLE, Int.reduceGE, Int.reduceGT, f1, f2, f3, p3, p4, hlast, hrow, hrows_len, hHW', boxB, listB, bestB, hcell, callE, resSV, AV.flat, CV.flat, TV.flat]; clear hgb)
       | simp only [go_sem, Int.reduceToNat, ↓reduceIte, reduceCtorEq, Nat.reduceEqDiff, Nat.reduceAdd, Nat.reduceMul, Nat.reduceLT, Nat.reduceLeDiff, Nat.reduceBEq, Int.reduceBEq, Int.reduceBNe, Int.reduceEq, Int.reduceLT, Int.reduceLE, Int.reduceGE, Int.reduceGT, f1, f2, f3, p3, p4, hlast, hrow, hrows_len, hHW', boxB, listB, bestB, hcell, callE, resSV, AV.flat, CV.flat, TV.flat, hAll]
       | refine Or.inl ⟨_, ⟨fun _ _ => rfl, qr⟩, ?_⟩
       | refine ⟨_, ⟨fun _ _ => rfl, qr⟩, ?_⟩
       | refine Or.inr (m_callN [(1000,15),(1001,71),(1002,17),(49,72)] [1000,1001,1002] [1000,49,1002] [72] [15, 71, 17] ⟨fun _ _ => rfl, ha⟩ rfl rfl (by first | (simp [AV.ren, CV.ren, renL, renL_map, tbl, boxB, listB, bestB, hcell]; done) | fail) rfl rfl rfl rfl (by decide) (by first | (simp [hAll, hRen, mk_heap, hL, tbl, Blk.ren, renRows_up, renRows, renL, CV.ren, boxB, listB, bestB, hcell]; done) | fail) (by first | (simp [Blk.has, hasRows, hasL, CV.has, hasRows_up, boxB, listB, bestB, hcell]; done) | fail) (by first | (intro k; simp [hasA, AV.has, CV.has, hasL, Blk.has, hasRows, hasRows_up, boxB, listB, bestB, hcell]; done) | (intro k; simp [hasA, AV.has, CV.has, hasL, Blk.has, hasRows, hasRows_up, boxB, listB, bestB, hcell]; omega) | fail) ?_)
       | refine (m_callN [(1000,15),(1001,71),(1002,17),(49,72)] [1000,1001,1002] [1000,49,1002] [72] [15, 71, 17] ⟨fun _ _ => rfl, ha⟩ rfl rfl (by first | (simp [AV.ren, CV.ren, renL, renL_map, tbl, boxB, listB, bestB, hcell]; done) | fail) rfl rfl rfl rfl (by decide) (by first | (simp [hAll, hRen, mk_heap, hL, tbl, Blk.ren, renRows_up, renRows, renL, CV.ren, boxB, listB, bestB, hcell]; done) | fail) (by first | (simp [Blk.has, hasRows, hasL, CV.has, hasRows_up, boxB, listB, bestB, hcell]; done) | fail) (by first | (intro k; simp [hasA, AV.has, CV.has, hasL, Blk.has, hasRows, hasRows_up, boxB, listB, bestB, hcell]; done) | (intro k; simp [hasA, AV.has, CV.has, hasL, Blk.has, hasRows, hasRows_up, boxB, listB, bestB, hcell]; omega) | fail) ?_)
       | refine Or.inr (m_callN [(1000,15),(1001,72),(1002,17)] [1000,1001,1002] [1000,1001,1002] [] [15, 72, 17] ⟨fun _ _ => rfl, hb⟩ rfl rfl (by first | (simp [AV.ren, CV.ren, renL, renL_map, tbl, boxB, listB, bestB, hHW']; done) | fail) rfl rfl rfl rfl (by decide) (by first | (simp [hAll, hRen, mk_heap, hL, tbl, Blk.ren, renRows_up, renRows, renL, CV.ren, boxB, listB, bestB, hHW']; done) | fail) (by first | (simp [Blk.has, hasRows, hasL, CV.has, hasRows_up, boxB, listB, bestB, hHW']; done) | fail) (by first | (intro k; simp [hasA, AV.has, CV.has, hasL, Blk.has, hasRows, hasRows_up, boxB, listB, bestB, hHW']; done) | (intro k; simp [hasA, AV.has, CV.has, hasL, Blk.has, hasRows, hasRows_up, boxB, listB, bestB, hHW']; omega) | fail) ?_)
       | refine (m_callN [(1000,15),(1001,72),(1002,17)] [1000,1001,1002] [1000,1001,1002] [] [15, 72, 17] ⟨fun _ _ => rfl, hb⟩ rfl rfl (by first | (simp [AV.ren, CV.ren, renL, renL_map, tbl, boxB, listB, bestB, hHW']; done) | fail) rfl rfl rfl rfl (by decide) (by first | (simp [hAll, hRen, mk_heap, hL, tbl, Blk.ren, renRows_up, renRows, renL, CV.ren, boxB, listB, bestB, hHW']; done) | fail) (by first | (simp [Blk.has, hasRows, hasL, CV.has, hasRows_up, boxB, listB, bestB, hHW']; done) | fail) (by first | (intro k; simp [hasA, AV.has, CV.has, hasL, Blk.has, hasRows, hasRows_up, boxB, listB, bestB, hHW']; done) | (intro k; simp [hasA, AV.has, CV.has, hasL, Blk.has, hasRows, hasRows_up, boxB, listB, bestB, hHW']; omega) | fail) ?_)
       | refine Or.inr (m_callN [(1000,15),(1001,72),(1002,17)] [1000,1001,1002] [1000,1001,1002] [] [15, 72, 17] ⟨fun _ _ => rfl, hfu⟩ rfl rfl (by first | (simp [AV.ren, CV.ren, renL, renL_map, tbl, boxB, listB, bestB, hHW']; done) | fail) rfl rfl rfl rfl (by decide) (by first | (simp [hAll, hRen, mk_heap, hL, tbl, Blk.ren, renRows_up, renRows, renL, CV.ren, boxB, listB, bestB, hHW']; done) | fail) (by first | (simp [Blk.has, hasRows, hasL, CV.has, hasRows_up, boxB, listB, bestB, hHW']; done) | fail) (by first | (intro k; simp [hasA, AV.has, CV.has, hasL, Blk.has, hasRows, hasRows_up, boxB, listB, bestB, hHW']; done) | (intro k; simp [hasA, AV.has, CV.has, hasL, Blk.has, hasRows, hasRows_up, boxB, listB, bestB, hHW']; omega) | fail) ?_)
       | refine (m_callN [(1000,15),(1001,72),(1002,17)] [1000,1001,1002] [1000,1001,1002] [] [15, 72, 17] ⟨fun _ _ => rfl, hfu⟩ rfl rfl (by first | (simp [AV.ren, CV.ren, renL, renL_map, tbl, boxB, listB, bestB, hHW']; done) | fail) rfl rfl rfl rfl (by decide) (by first | (simp [hAll, hRen, mk_heap, hL, tbl, Blk.ren, renRows_up, renRows, renL, CV.ren, boxB, listB, bestB, hHW']; done) | fail) (by first | (simp [Blk.has, hasRows, hasL, CV.has, hasRows_up, boxB, listB, bestB, hHW']; done) | fail) (by first | (intro k; simp [hasA, AV.has, CV.has, hasL, Blk.has, hasRows, hasRows_up, boxB, listB, bestB, hHW']; done) | (intro k; simp [hasA, AV.has, CV.has, hasL, Blk.has, hasRows, hasRows_up, boxB, listB, bestB, hHW']; omega) | fail) ?_)
       | refine Or.inr (m_callN [(1000,15),(1001,72),(1002,17)] [1000,1001,1002] [1000,1001,1002] [] [15, 72, 17] ⟨fun _ _ => rfl, hw⟩ rfl rfl (by first | (simp [AV.ren, CV.ren, renL, renL_map, tbl, boxB, listB, bestB, hHW', hcell]; done) | fail) rfl rfl rfl rfl (by decide) (by first | (simp [hAll, hRen, mk_heap, hL, tbl, Blk.ren, renRows_up, renRows, renL, CV.ren, boxB, listB, bestB, hHW', hcell]; done) | fail) (by first | (simp [Blk.has, hasRows, hasL, CV.has, hasRows_up, boxB, listB, bestB, hHW', hcell]; done) | fail) (by first | (intro k; simp [hasA, AV.has, CV.has, hasL, Blk.has, hasRows, hasRows_up, boxB, listB, bestB, hHW', hcell]; done) | (intro k; simp [hasA, AV.has, CV.has, hasL, Blk.has, hasRows, hasRows_up, boxB, listB, bestB, hHW', hcell]; omega) | fail) ?_)
       | refine (m_callN [(1000,15),(1001,72),(1002,17)] [1000,1001,1002] [1000,1001,1002] [] [15, 72, 17] ⟨fun _ _ => rfl, hw⟩ rfl rfl (by first | (simp [AV.ren, CV.ren, renL, renL_map, tbl, boxB, listB, bestB, hHW', hcell]; done) | fail) rfl rfl rfl rfl (by decide) (by first | (simp [hAll, hRen, mk_heap, hL, tbl, Blk.ren, renRows_up, renRows, renL, CV.ren, boxB, listB, bestB, hHW', hcell]; done) | fail) (by first | (simp [Blk.has, hasRows, hasL, CV.has, hasRows_up, boxB, listB, bestB, hHW', hcell]; done) | fail) (by first | (intro k; simp [hasA, AV.has, CV.has, hasL, Blk.has, hasRows, hasRows_up, boxB, listB, bestB, hHW', hcell]; done) | (intro k; simp [hasA, AV.has, CV.has, hasL, Blk.has, hasRows, hasRows_up, boxB, listB, bestB, hHW', hcell]; omega) | fail) ?_)
       | (refine ite_guard (fun hg => ?_) (fun hg => ?_) <;> (try simp only [Bool.not_eq_true, Bool.not_eq_false, Decidable.not_not] at hg) <;> (first | have hgb : (_ : Bool) = _ := hg | have hgb := ff hg | have hgb := tt hg))
       | (refine ⟨fun hc => ht _ ?_, fun hc => hf _ ?_⟩ <;> clear ht hf KT KF)
       | fail)
      refine n_loopG _ (gho_ren (a := 72) (b := 71) (by decide) (by decide)) ?_
      rw [mk_ren]
      refine n_loop (i + 1, Q, W') [0, 1, 2, 6, 7, 8, 9] [15, 17, 71] ⟨?_, hil, s2, hlen'⟩ (by simp only; omega)
      simp only [go_sem, Int.reduceToNat, ↓reduceIte, reduceCtorEq, Nat.reduceEqDiff, Nat.reduceAdd, Nat.reduceMul, Nat.reduceLT, Nat.reduceLeDiff, Nat.reduceBEq, Int.reduceBEq, Int.reduceBNe, Int.reduceEq, Int.reduceLT, Int.reduceLE, Int.reduceGE, Int.reduceGT, mk_keep, keepL, List.mem_cons, List.not_mem_nil, Nat.reduceEqDiff, Nat.zero_ne_one, Nat.one_ne_zero, reduceCtorEq, or_false, false_or, or_true, true_or, or_self, eq_self, ↓reduceIte, renS, Blk.ren, renRows, renL, CV.ren, renRows_up, mapV, SV.ren, ins, sw, hHW']
  · have f1 := ff (show ¬ ((i : Int) < l.length) by omega)
    have hq := list_spec k m H hM (by omega)
    have hW := kp_list hM hkp
    rw [hW] at hq
    have hs := same_spec W W (by omega)
    rw [decide_eq_true rfl] at hs
    have e4 : List.take W.length (hrows W) = hrows W := List.take_of_length_le (by rw [hrows_len]; omega)
    rw [hHW] at hq
    repeat' (first
     | (with_reducible first | refine s_seq ?_ | refine s_block ?_ | refine s_region fun kr hr => ?_)
     | (with_reducible refine s_text tOk [11, 15, 17, 71, 108, 1000, 1001, 1002, 1003] (by kernel_rfl) (by simp [HeapIn, namers, namerDst, namerOp, Blk.has, hasRows, hasL, CV.has, hasRows_up, hasRows_append, f1, hrows_len, boxB, listB, bestB, hHW]; (try ((repeat' apply And.intro) <;> intros <;> omega))) fun kr hr => ?_)
     | (with_reducible first | refine s_op fun K' hk => ?_ | refine t_op fun K' hk => ?_ | (refine hk _ ?_; clear hk K') | (refine ht _ ?_; clear ht hf KT KF) | (refine hf _ ?_; clear ht hf KT KF) | ((first | refine s_nil ?_ | refine t_nil ?_); refine hr _ ?_; clear hr kr))
     | ((with_reducible refine n_seqK [0, 1, 2, 3, 4, 5, 6, 7, 8, 9, 10, 11, 12, 13, 14, 17, 19, 20, 21, 23, 24, 25, 26, 27, 31, 52, 89, 106, 112] [11, 15, 17, 71, 108] ?_); simp only [mk_keep, keepL, List.mem_cons, List.not_mem_nil, Nat.reduceEqDiff, Nat.zero_ne_one, Nat.one_ne_zero, reduceCtorEq, or_false, false_or, or_true, true_or, or_self, eq_self, ↓reduceIte])
     | (with_reducible first | refine s_cond fun KT KF ht hf => ?_ | refine s_skip ?_)
     | ((with_reducible refine s_long ?_); simp only [List.cons_append, List.nil_append])
     | (with_reducible first | refine s_exit ?_ | refine s_ret ?_ | refine e_seq ?_ | refine r_seq ?_ | refine n_block ?_ | refine e_block ?_ | refine r_block ?_ | refine e_loop ?_ | refine r_loop ?_ | refine e_round ?_ | refine r_round ?_ | refine s_round ?_ | refine f_block ?_ (by decide) | refine r_res ?_ | refine n_res ?_)
     | (simp only [hgb, go_sem, Int.reduceToNat, ↓reduceIte, reduceCtorEq, Nat.reduceEqDiff, Nat.reduceAdd, Nat.reduceMul, Nat.reduceLT, Nat.reduceLeDiff, Nat.reduceBEq, Int.reduceBEq, Int.reduceBNe, Int.reduceEq, Int.reduceLT, Int.reduceLE, Int.reduceGE, Int.reduceGT, f1, hrows_len, boxB, listB, bestB, hHW, callE, resSV, AV.flat, CV.flat, TV.flat]; clear hgb)
     | simp only [go_sem, Int.reduceToNat, ↓reduceIte, reduceCtorEq, Nat.reduceEqDiff, Nat.reduceAdd, Nat.reduceMul, Nat.reduceLT, Nat.reduceLeDiff, Nat.reduceBEq, Int.reduceBEq, Int.reduceBNe, Int.reduceEq, Int.reduceLT, Int.reduceLE, Int.reduceGE, Int.reduceGT, f1, hrows_len, boxB, listB, bestB, hHW, callE, resSV, AV.flat, CV.flat, TV.flat, hAll]
     | refine Or.inr (m_callN [(1000,15),(1001,71),(1002,17),(14,108)] [1000,1001,1002] [1000,1001,1002,14] [108] [15, 71, 17] ⟨fun _ _ => rfl, hq⟩ rfl rfl (by first | (simp [AV.ren, CV.ren, renL, renL_map, tbl, boxB, listB, bestB, hHW]; done) | fail) rfl rfl rfl rfl (by decide) (by first | (simp [hAll, hRen, mk_heap, hL, tbl, Blk.ren, renRows_up, renRows, renL, CV.ren, boxB, listB, bestB, hHW]; done) | fail) (by first | (simp [Blk.has, hasRows, hasL, CV.has, hasRows_up, boxB, listB, bestB, hHW]; done) | fail) (by first | (intro k; simp [hasA, AV.has, CV.has, hasL, Blk.has, hasRows, hasRows_up, boxB, listB, bestB, hHW]; done) | (intro k; simp [hasA, AV.has, CV.has, hasL, Blk.has, hasRows, hasRows_up, boxB, listB, bestB, hHW]; omega) | fail) ?_)
     | refine (m_callN [(1000,15),(1001,71),(1002,17),(14,108)] [1000,1001,1002] [1000,1001,1002,14] [108] [15, 71, 17] ⟨fun _ _ => rfl, hq⟩ rfl rfl (by first | (simp [AV.ren, CV.ren, renL, renL_map, tbl, boxB, listB, bestB, hHW]; done) | fail) rfl rfl rfl rfl (by decide) (by first | (simp [hAll, hRen, mk_heap, hL, tbl, Blk.ren, renRows_up, renRows, renL, CV.ren, boxB, listB, bestB, hHW]; done) | fail) (by first | (simp [Blk.has, hasRows, hasL, CV.has, hasRows_up, boxB, listB, bestB, hHW]; done) | fail) (by first | (intro k; simp [hasA, AV.has, CV.has, hasL, Blk.has, hasRows, hasRows_up, boxB, listB, bestB, hHW]; done) | (intro k; simp [hasA, AV.has, CV.has, hasL, Blk.has, hasRows, hasRows_up, boxB, listB, bestB, hHW]; omega) | fail) ?_)
     | (refine ite_guard (fun hg => ?_) (fun hg => ?_) <;> (try simp only [Bool.not_eq_true, Bool.not_eq_false, Decidable.not_not] at hg) <;> (first | have hgb : (_ : Bool) = _ := hg | have hgb := ff hg | have hgb := tt hg))
     | (refine ⟨fun hc => ht _ ?_, fun hc => hf _ ?_⟩ <;> clear ht hf KT KF)
     | fail)
    refine w_loop [6, 7, 8, 13, 14] [15, 17, 71, 108] (σ := Nat × List Ht) (fun s st => st = mk [(6, .c (.t (.bool false))), (7, .c (.mp 17 0 0)), (8, .c (.t (.sl 2 (hrows W)))), (13, .c (.mr 108 0 W.length)), (14, .c (.t (.int .i64 s.1)))] [(15, .cells 1 [[.t (.int .i64 m)]]), (17, .cells 4 [[.t (.int .i64 k), .t (.int .i64 m), .mr 71 0 W.length, .fnc 44 [] [.mp 15 0 0]]]), (71, .cells 2 (up (hrows H))), (108, .cells 2 (up (hrows s.2)))] ∧ s.1 ≤ W.length ∧ s.2.length = W.length) (fun s => W.length - s.1) (0, W) ?_ ?_
    · refine ⟨?_, Nat.zero_le _, rfl⟩
      simp only [go_sem, Int.reduceToNat, ↓reduceIte, reduceCtorEq, Nat.reduceEqDiff, Nat.reduceAdd, Nat.reduceMul, Nat.reduceLT, Nat.reduceLeDiff, Nat.reduceBEq, Int.reduceBEq, Int.reduceBNe, Int.reduceEq, Int.reduceLT, Int.reduceLE, Int.reduceGE, Int.reduceGT, mk_keep, keepL, List.mem_cons, List.not_mem_nil, Nat.reduceEqDiff, Nat.zero_ne_one, Nat.one_ne_zero, reduceCtorEq, or_false, false_or, or_true, true_or, or_self, eq_self, ↓reduceIte]
    rintro ⟨j, X⟩ st ⟨rfl, hj, hX⟩
    simp only at hj hX
    by_cases hjl : j < W.length
    · have p1 := tt (show (j : Int) < W.length by omega)
      have p3 := wUp (k := j) (n := W.length) (by omega) (by omega)
      have p4 := tt (show j < W.length from hjl)
      have e5 : (up (hrows X)).set j [.t (.int .i64 0), .t (.int .i64 0)] = up (hrows (X.set j (0, 0))) := hset_up X j (0, 0)
      have e6 : (up (hrows X)).length = W.length := by rw [uph_len, hX]
      have e7 : (up (hrows X))[j]? = some (hcell X[j]) := by rw [hcell_get, get_of_lt (by omega)]; rfl
      repeat' (first
       | (with_reducible first | refine s_seq ?_ | refine s_block ?_ | refine s_region fun kr hr => ?_)
       | (with_reducible refine s_text tOk [11, 15, 17, 71, 108, 1000, 1001, 1002, 1003] (by kernel_rfl) (by simp [HeapIn, namers, namerDst, namerOp, Blk.has, hasRows, hasL, CV.has, hasRows_up, hasRows_append, p1, p3, p4, e5, e6, e7, hcell, hrows_len]; (try ((repeat' apply And.intro) <;> intros <;> omega))) fun kr hr => ?_)
       | (with_reducible first | refine s_op fun K' hk => ?_ | refine t_op fun K' hk => ?_ | (refine hk _ ?_; clear hk K') | (refine ht _ ?_; clear ht hf KT KF) | (refine hf _ ?_; clear ht hf KT KF) | ((first | refine s_nil ?_ | refine t_nil ?_); refine hr _ ?_; clear hr kr))
       | ((with_reducible refine n_seqK [0, 1, 2, 3, 4, 5, 6, 7, 8, 9, 10, 11, 12, 13, 14, 17, 19, 20, 21, 23, 24, 25, 26, 27, 31, 52, 89, 106, 112] [11, 15, 17, 71, 108] ?_); simp only [mk_keep, keepL, List.mem_cons, List.not_mem_nil, Nat.reduceEqDiff, Nat.zero_ne_one, Nat.one_ne_zero, reduceCtorEq, or_false, false_or, or_true, true_or, or_self, eq_self, ↓reduceIte])
       | (with_reducible first | refine s_cond fun KT KF ht hf => ?_ | refine s_skip ?_)
       | ((with_reducible refine s_long ?_); simp only [List.cons_append, List.nil_append])
       | (with_reducible first | refine s_exit ?_ | refine s_ret ?_ | refine e_seq ?_ | refine r_seq ?_ | refine n_block ?_ | refine e_block ?_ | refine r_block ?_ | refine e_loop ?_ | refine r_loop ?_ | refine e_round ?_ | refine r_round ?_ | refine s_round ?_ | refine f_block ?_ (by decide) | refine r_res ?_ | refine n_res ?_)
       | (simp only [hgb, go_sem, Int.reduceToNat, ↓reduceIte, reduceCtorEq, Nat.reduceEqDiff, Nat.reduceAdd, Nat.reduceMul, Nat.reduceLT, Nat.reduceLeDiff, Nat.reduceBEq, Int.reduceBEq, Int.reduceBNe, Int.reduceEq, Int.reduceLT, Int.reduceLE, Int.reduceGE, Int.reduceGT, p1, p3, p4, e5, e6, e7, hcell, hrows_len]; clear hgb)
       | simp only [go_sem, Int.reduceToNat, ↓reduceIte, reduceCtorEq, Nat.reduceEqDiff, Nat.reduceAdd, Nat.reduceMul, Nat.reduceLT, Nat.reduceLeDiff, Nat.reduceBEq, Int.reduceBEq, Int.reduceBNe, Int.reduceEq, Int.reduceLT, Int.reduceLE, Int.reduceGE, Int.reduceGT, p1, p3, p4, e5, e6, e7, hcell, hrows_len, hAll]
       | (refine ite_guard (fun hg => ?_) (fun hg => ?_) <;> (try simp only [Bool.not_eq_true, Bool.not_eq_false, Decidable.not_not] at hg) <;> (first | have hgb : (_ : Bool) = _ := hg | have hgb := ff hg | have hgb := tt hg))
       | (refine ⟨fun hc => ht _ ?_, fun hc => hf _ ?_⟩ <;> clear ht hf KT KF)
       | fail)
      refine n_loop (j + 1, X.set j (0, 0)) [6, 7, 8, 13, 14] [15, 17, 71, 108] ⟨?_, hjl, by simpa using hX⟩ (by simp only; omega)
      simp only [go_sem, Int.reduceToNat, ↓reduceIte, reduceCtorEq, Nat.reduceEqDiff, Nat.reduceAdd, Nat.reduceMul, Nat.reduceLT, Nat.reduceLeDiff, Nat.reduceBEq, Int.reduceBEq, Int.reduceBNe, Int.reduceEq, Int.reduceLT, Int.reduceLE, Int.reduceGE, Int.reduceGT, mk_keep, keepL, List.mem_cons, List.not_mem_nil, Nat.reduceEqDiff, Nat.zero_ne_one, Nat.one_ne_zero, reduceCtorEq, or_false, false_or, or_true, true_or, or_self, eq_self, ↓reduceIte]
    · have p1 := ff (show ¬ ((j : Int) < W.length) by omega)
      repeat' (first
       | (with_reducible first | refine s_seq ?_ | refine s_block ?_ | refine s_region fun kr hr => ?_)
       | (with_reducible refine s_text tOk [11, 15, 17, 71, 120, 1000, 1001, 1002, 1003] (by kernel_rfl) (by simp [HeapIn, namers, namerDst, namerOp, Blk.has, hasRows, hasL, CV.has, hasRows_up, hasRows_append, p1, hrows_len, boxB, listB, bestB, hHW, e4]; (try ((repeat' apply And.intro) <;> intros <;> omega))) fun kr hr => ?_)
       | (with_reducible first | refine s_op fun K' hk => ?_ | refine t_op fun K' hk => ?_ | (refine hk _ ?_; clear hk K') | (refine ht _ ?_; clear ht hf KT KF) | (refine hf _ ?_; clear ht hf KT KF) | ((first | refine s_nil ?_ | refine t_nil ?_); refine hr _ ?_; clear hr kr))
       | ((with_reducible refine n_seqK [0, 1, 2, 3, 4, 5, 6, 7, 8, 9, 10, 11, 12, 13, 14, 17, 19, 20, 21, 23, 24, 25, 26, 27, 31, 52, 89, 106, 112] [11, 15, 17, 71, 120] ?_); simp only [mk_keep, keepL, List.mem_cons, List.not_mem_nil, Nat.reduceEqDiff, Nat.zero_ne_one, Nat.one_ne_zero, reduceCtorEq, or_false, false_or, or_true, true_or, or_self, eq_self, ↓reduceIte])
       | (with_reducible first | refine s_cond fun KT KF ht hf => ?_ | refine s_skip ?_)
       | ((with_reducible refine s_long ?_); simp only [List.cons_append, List.nil_append])
       | (with_reducible first | refine s_exit ?_ | refine s_ret ?_ | refine e_seq ?_ | refine r_seq ?_ | refine n_block ?_ | refine e_block ?_ | refine r_block ?_ | refine e_loop ?_ | refine r_loop ?_ | refine e_round ?_ | refine r_round ?_ | refine s_round ?_ | refine f_block ?_ (by decide) | refine r_res ?_ | refine n_res ?_)
       | (simp only [hgb, go_sem, Int.reduceToNat, ↓reduceIte, reduceCtorEq, Nat.reduceEqDiff, Nat.reduceAdd, Nat.reduceMul, Nat.reduceLT, Nat.reduceLeDiff, Nat.reduceBEq, Int.reduceBEq, Int.reduceBNe, Int.reduceEq, Int.reduceLT, Int.reduceLE, Int.reduceGE, Int.reduceGT, p1, hrows_len, boxB, listB, bestB, hHW, e4, callE, resSV, AV.flat, CV.flat, TV.flat]; clear hgb)
       | simp only [go_sem, Int.reduceToNat, ↓reduceIte, reduceCtorEq, Nat.reduceEqDiff, Nat.reduceAdd, Nat.reduceMul, Nat.reduceLT, Nat.reduceLeDiff, Nat.reduceBEq, Int.reduceBEq, Int.reduceBNe, Int.reduceEq, Int.reduceLT, Int.reduceLE, Int.reduceGE, Int.reduceGT, p1, hrows_len, boxB, listB, bestB, hHW, e4, callE, resSV, AV.flat, CV.flat, TV.flat, hAll]
       | refine Or.inr (m_callN [(1000,15),(1001,71),(1002,17),(14,120)] [1000,1001,1002] [1000,1001,1002,14] [120] [15, 71, 17] ⟨fun _ _ => rfl, hq⟩ rfl rfl (by first | (simp [AV.ren, CV.ren, renL, renL_map, tbl, boxB, listB, bestB, hHW]; done) | fail) rfl rfl rfl rfl (by decide) (by first | (simp [hAll, hRen, mk_heap, hL, tbl, Blk.ren, renRows_up, renRows, renL, CV.ren, boxB, listB, bestB, hHW]; done) | fail) (by first | (simp [Blk.has, hasRows, hasL, CV.has, hasRows_up, boxB, listB, bestB, hHW]; done) | fail) (by first | (intro k; simp [hasA, AV.has, CV.has, hasL, Blk.has, hasRows, hasRows_up, boxB, listB, bestB, hHW]; done) | (intro k; simp [hasA, AV.has, CV.has, hasL, Blk.has, hasRows, hasRows_up, boxB, listB, bestB, hHW]; omega) | fail) ?_)
       | refine (m_callN [(1000,15),(1001,71),(1002,17),(14,120)] [1000,1001,1002] [1000,1001,1002,14] [120] [15, 71, 17] ⟨fun _ _ => rfl, hq⟩ rfl rfl (by first | (simp [AV.ren, CV.ren, renL, renL_map, tbl, boxB, listB, bestB, hHW]; done) | fail) rfl rfl rfl rfl (by decide) (by first | (simp [hAll, hRen, mk_heap, hL, tbl, Blk.ren, renRows_up, renRows, renL, CV.ren, boxB, listB, bestB, hHW]; done) | fail) (by first | (simp [Blk.has, hasRows, hasL, CV.has, hasRows_up, boxB, listB, bestB, hHW]; done) | fail) (by first | (intro k; simp [hasA, AV.has, CV.has, hasL, Blk.has, hasRows, hasRows_up, boxB, listB, bestB, hHW]; done) | (intro k; simp [hasA, AV.has, CV.has, hasL, Blk.has, hasRows, hasRows_up, boxB, listB, bestB, hHW]; omega) | fail) ?_)
       | refine Or.inl ⟨_, ⟨fun _ _ => rfl, hs⟩, ?_⟩
       | refine ⟨_, ⟨fun _ _ => rfl, hs⟩, ?_⟩
       | refine Or.inl ⟨_, ⟨fun _ _ => rfl, awake07_spec⟩, ?_⟩
       | refine ⟨_, ⟨fun _ _ => rfl, awake07_spec⟩, ?_⟩
       | (refine ite_guard (fun hg => ?_) (fun hg => ?_) <;> (try simp only [Bool.not_eq_true, Bool.not_eq_false, Decidable.not_not] at hg) <;> (first | have hgb : (_ : Bool) = _ := hg | have hgb := ff hg | have hgb := tt hg))
       | (refine ⟨fun hc => ht _ ?_, fun hc => hf _ ?_⟩ <;> clear ht hf KT KF)
       | fail)
theorem topkKeeps_spec (m k : Int) (l : List Ht) (hk9 : k ≤ 9223372036854775807) (hl : (l.length + 1) * 16 ≤ 140737488355328) : Spec Try.prog 6 [.v (.t (.int .i64 m)), .v (.t (.int .i64 k)), .v (.t (.sl 2 (hrows l)))] [] [.v (.t (.bool true))] [] := by
  cases hM : mOk m
  · exact topkKeeps_bad m k l (.inl hM)
  · by_cases h1 : k < 1
    · exact topkKeeps_bad m k l (.inr h1)
    · obtain ⟨n, rfl⟩ : ∃ n : Nat, k = n := ⟨k.toNat, by omega⟩
      exact topkKeeps_good m n l hM (by omega) (by omega) hl
end Go.Proofs.Ytgmjgognpabmdaa.Fx
