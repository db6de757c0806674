/- product's training: what is learnt. -/
import Derived.Test.YtlnilonlaedafaaFxProdTrain
namespace Go.Proofs.Ytlnilonlaedafaa.Fx
open Go Go.RowKit
set_option maxRecDepth 100000
set_option linter.unusedSimpArgs false
set_option linter.unusedVariables false
set_option maxHeartbeats 16000000 in
theorem ptrain_named (l : List (List Int)) (n w : Nat) (k rounds seed : Int) (hl : SizedAll l) (hb : l.length + l.length ≤ 5864062014634) (hok : okRows l = true) (n1 : 1 ≤ n) (hw : n * w = (hd l).length) (k1 : 1 ≤ k) (k2 : k ≤ 256) (hr0 : -9223372036854775808 ≤ rounds ∧ rounds ≤ 9223372036854775807) :
    Spec Try.prog 39 [.v (.t (vecs l)), .v (.t (.int .i64 n)), .v (.t (.int .i64 k)), .v (.t (.int .i64 rounds)), .v (.t (.int .u64 seed))] [] [.agg [.mr 85 0 n], .v (.t (.int .i64 0))] [(85, .cells 1 (up (prows (parts l w k rounds seed n))))] := by
  have h0 : 0 < l.length := by simp [okRows] at hok; omega
  have f0 : (vrows l)[0]? = some [vec (hd l)] := by rw [vrows_get, get_of_lt (by omega), head_get (by omega)]; rfl
  have f4 := tt h0
  have f5 := ff (show ¬ (l.length : Int) = 0 by omega)
  have hgood : ∀ v ∈ l, okRow (hd l).length v = true := by
    simp only [okRows, Bool.and_eq_true, List.all_eq_true] at hok
    exact hok.1
  have hh := row_good (hgood (hd l) (by rw [← head_get h0]; exact List.getElem_mem h0))
  obtain ⟨d, hd9⟩ : ∃ d, (hd l).length = d := ⟨_, rfl⟩
  rw [hd9] at hgood hw hh
  obtain ⟨h9, hh9⟩ : ∃ h, hd l = h := ⟨_, rfl⟩
  rw [hh9] at f0 hd9 hh
  have hw64 : w ≤ 64 := by
    have := Nat.le_mul_of_pos_left w (show 0 < n by omega)
    omega
  have hn64 : n ≤ 64 := by
    have hw0 : 0 < w := by
      rcases Nat.eq_zero_or_pos w with e | e
      · subst e; simp at hw; omega
      · exact e
    have := Nat.le_mul_of_pos_right n hw0
    omega
  have u1 := ff (show ¬ (n : Int) < 1 by omega)
  have u6 := ff (show ¬ (n : Int) = 0 by omega)
  have u2 : ((d : Nat) : Int).tmod (n : Int) = 0 := by
    rw [← hw, Int.natCast_mul]; exact Int.mul_tmod_right _ _
  have u7 : ((d : Nat) : Int).tdiv (n : Int) = (w : Int) := by
    rw [← hw, Int.natCast_mul]; exact Int.mul_tdiv_cancel_left _ (by omega)
  have u8 : IntKind.wrap .i64 (w : Int) = (w : Int) := wI (by omega) (by omega)
  have u3 := ff (show ¬ k < 1 by omega)
  have u4 := ff (show ¬ 256 < k by omega)
  have hlen : ∀ i, i < n → ∀ v ∈ l, (i + 1) * w ≤ v.length := by
    intro i hi v hv
    have := (row_good (hgood v hv)).1
    have := Nat.mul_le_mul_right w (show i + 1 ≤ n by omega)
    omega
  refine spec_by Try.func39 rfl mixed tOk evOk (n := 94) rfl (by simp) (by simp) ?_
  rw [initSt_mk, show Try.f39.results.toList = [.cell 10 45, .tmp 11] from rfl]
  simp only [initL, AV.sv, List.map_cons, List.map_nil, Nat.reduceAdd, Nat.zero_add, vecs_eq]
  repeat' (first
   | (with_reducible first | refine s_seq ?_ | refine s_block ?_ | refine s_region fun kr hr => ?_)
   | (with_reducible refine s_text tOk [10, 17, 77, 85, 89, 90, 1000, 1001, 1002, 1003] (by kernel_rfl) (by simp [HeapIn, namers, namerDst, namerOp, namedOp, namedFn, ownLoad, Blk.has, hasRows, hasL, CV.has, hasRows_up, hasM_up, hasRows_append, f0, f4, f5, hd9, vrows_len, vec_eq, ints_len]; (try ((repeat' apply And.intro) <;> intros <;> omega))) fun kr hr => ?_)
   | (with_reducible first | refine s_op fun K' hk => ?_ | refine t_op fun K' hk => ?_ | (refine hk _ ?_; clear hk K') | (refine ht _ ?_; clear ht hf KT KF) | (refine hf _ ?_; clear ht hf KT KF) | ((first | refine s_nil ?_ | refine t_nil ?_); refine hr _ ?_; clear hr kr))
   | ((with_reducible refine n_seqK [0, 1, 2, 3, 4, 5, 6, 7, 8, 9, 10, 11, 12, 13, 14, 15, 16, 17, 18, 21, 22, 23, 27, 28, 29, 30, 43, 45, 49, 58, 59, 64, 67, 80, 81, 82] [10, 17, 77, 85, 89, 90] ?_); simp only [mk_keep, keepL, List.mem_cons, List.not_mem_nil, Nat.reduceEqDiff, Nat.zero_ne_one, Nat.one_ne_zero, reduceCtorEq, or_false, false_or, or_true, true_or, or_self, eq_self, ↓reduceIte])
   | (with_reducible first | refine s_cond fun KT KF ht hf => ?_ | refine s_skip ?_)
   | ((with_reducible refine s_long ?_); simp only [List.cons_append, List.nil_append])
   | (with_reducible first | refine s_exit ?_ | refine s_ret ?_ | refine e_seq ?_ | refine r_seq ?_ | refine n_block ?_ | refine e_block ?_ | refine r_block ?_ | refine e_loop ?_ | refine r_loop ?_ | refine e_round ?_ | refine r_round ?_ | refine s_round ?_ | refine f_block ?_ (by decide) | refine r_res ?_ | refine n_res ?_)
   | simp only [go_sem, Int.reduceToNat, ↓reduceIte, reduceCtorEq, Nat.reduceEqDiff, Nat.reduceAdd, Nat.reduceMul, Nat.reduceLT, Nat.reduceLeDiff, Nat.reduceBEq, Int.reduceBEq, Int.reduceBNe, String.reduceBEq, Int.reduceEq, Int.reduceLT, Int.reduceLE, Int.reduceGE, Int.reduceGT, f0, f4, f5, hd9, vrows_len, vec_eq, ints_len, hAll]
   | fail)
  refine w_loop [0, 1, 2, 3, 4, 10, 11, 12, 27, 28, 29] [10] (σ := Nat) (fun i st => st = mk [(0, V (.sl 1 (vrows l))), (1, I n), (2, I k), (3, I rounds), (4, V (.int .u64 seed)), (10, .c (.mp 10 0 0)), (11, I 0), (12, I d), (27, V (.sl 1 (vrows l))), (28, I l.length), (29, I i)] [(10, .cells 1 [[.own 1 []]])] ∧ i ≤ l.length) (fun i => l.length - i) 0 ?_ ?_
  · refine ⟨?_, Nat.zero_le _⟩
    simp only [go_sem, Int.reduceToNat, ↓reduceIte, reduceCtorEq, Nat.reduceEqDiff, Nat.reduceAdd, Nat.reduceMul, Nat.reduceLT, Nat.reduceLeDiff, Nat.reduceBEq, Int.reduceBEq, Int.reduceBNe, String.reduceBEq, Int.reduceEq, Int.reduceLT, Int.reduceLE, Int.reduceGE, Int.reduceGT, mk_keep, keepL, List.mem_cons, List.not_mem_nil, Nat.reduceEqDiff, Nat.zero_ne_one, Nat.one_ne_zero, reduceCtorEq, or_false, false_or, or_true, true_or, or_self, eq_self, ↓reduceIte]
    try rfl
  rintro i st ⟨rfl, hi⟩
  by_cases hlt : i < l.length
  · have r1 := tt (show (i : Int) < l.length by omega)
    have r2 : (vrows l)[i]? = some [vec l[i]] := by rw [vrows_get, get_of_lt hlt]; rfl
    have r3 := wUp (k := i) (n := l.length) hlt (by have := hl.1; omega)
    have qa := pall_spec l[i] (hl.at hlt)
    have hok9 := hgood l[i] (List.getElem_mem hlt)
    obtain ⟨v, hv⟩ : ∃ v, l[i] = v := ⟨_, rfl⟩
    rw [hv] at r2 qa hok9
    rw [vec_eq] at qa
    obtain ⟨a1, a2, a3, a4⟩ := row_good hok9
    have g1 := tt (show (v.length : Int) = d by omega)
    have g2 := ff (show ¬ (d : Int) < 1 by omega)
    have g3 := ff (show ¬ (64 : Int) < d by omega)
    rw [a4] at qa
    repeat' (first
     | (with_reducible first | refine s_seq ?_ | refine s_block ?_ | refine s_region fun kr hr => ?_)
     | (with_reducible refine s_text tOk [10, 17, 77, 85, 89, 90, 1000, 1001, 1002, 1003] (by kernel_rfl) (by simp [HeapIn, namers, namerDst, namerOp, namedOp, namedFn, ownLoad, Blk.has, hasRows, hasL, CV.has, hasRows_up, hasM_up, hasRows_append, r1, r2, r3, g1, g2, g3, gt_iff_lt, vrows_len, vec_eq, ints_len]; (try ((repeat' apply And.intro) <;> intros <;> omega))) fun kr hr => ?_)
     | (with_reducible first | refine s_op fun K' hk => ?_ | refine t_op fun K' hk => ?_ | (refine hk _ ?_; clear hk K') | (refine ht _ ?_; clear ht hf KT KF) | (refine hf _ ?_; clear ht hf KT KF) | ((first | refine s_nil ?_ | refine t_nil ?_); refine hr _ ?_; clear hr kr))
     | ((with_reducible refine n_seqK [0, 1, 2, 3, 4, 5, 6, 7, 8, 9, 10, 11, 12, 13, 14, 15, 16, 17, 18, 21, 22, 23, 27, 28, 29, 30, 43, 45, 49, 58, 59, 64, 67, 80, 81, 82] [10, 17, 77, 85, 89, 90] ?_); simp only [mk_keep, keepL, List.mem_cons, List.not_mem_nil, Nat.reduceEqDiff, Nat.zero_ne_one, Nat.one_ne_zero, reduceCtorEq, or_false, false_or, or_true, true_or, or_self, eq_self, ↓reduceIte])
     | (with_reducible first | refine s_cond fun KT KF ht hf => ?_ | refine s_skip ?_)
     | ((with_reducible refine s_long ?_); simp only [List.cons_append, List.nil_append])
     | (with_reducible first | refine s_exit ?_ | refine s_ret ?_ | refine e_seq ?_ | refine r_seq ?_ | refine n_block ?_ | refine e_block ?_ | refine r_block ?_ | refine e_loop ?_ | refine r_loop ?_ | refine e_round ?_ | refine r_round ?_ | refine s_round ?_ | refine f_block ?_ (by decide) | refine r_res ?_ | refine n_res ?_)
     | simp only [go_sem, Int.reduceToNat, ↓reduceIte, reduceCtorEq, Nat.reduceEqDiff, Nat.reduceAdd, Nat.reduceMul, Nat.reduceLT, Nat.reduceLeDiff, Nat.reduceBEq, Int.reduceBEq, Int.reduceBNe, String.reduceBEq, Int.reduceEq, Int.reduceLT, Int.reduceLE, Int.reduceGE, Int.reduceGT, r1, r2, r3, g1, g2, g3, gt_iff_lt, vrows_len, vec_eq, ints_len, callE, resSV, AV.flat, CV.flat, TV.flat, hAll]
     | refine Or.inl ⟨_, ⟨fun _ _ => rfl, qa⟩, ?_⟩
     | refine ⟨_, ⟨fun _ _ => rfl, qa⟩, ?_⟩
     | fail)
    refine n_loop (i + 1) [0, 1, 2, 3, 4, 10, 11, 12, 27, 28, 29] [10] ⟨?_, hlt⟩ (by omega)
    simp only [go_sem, Int.reduceToNat, ↓reduceIte, reduceCtorEq, Nat.reduceEqDiff, Nat.reduceAdd, Nat.reduceMul, Nat.reduceLT, Nat.reduceLeDiff, Nat.reduceBEq, Int.reduceBEq, Int.reduceBNe, String.reduceBEq, Int.reduceEq, Int.reduceLT, Int.reduceLE, Int.reduceGE, Int.reduceGT, mk_keep, keepL, List.mem_cons, List.not_mem_nil, Nat.reduceEqDiff, Nat.zero_ne_one, Nat.one_ne_zero, reduceCtorEq, or_false, false_or, or_true, true_or, or_self, eq_self, ↓reduceIte]
  have r1 := ff (show ¬ ((i : Int) < l.length) by omega)
  clear hi hlt
  repeat' (first
   | (with_reducible first | refine s_seq ?_ | refine s_block ?_ | refine s_region fun kr hr => ?_)
   | (with_reducible refine s_text tOk [10, 17, 77, 85, 89, 90, 1000, 1001, 1002, 1003] (by kernel_rfl) (by simp [HeapIn, namers, namerDst, namerOp, namedOp, namedFn, ownLoad, Blk.has, hasRows, hasL, CV.has, hasRows_up, hasM_up, hasRows_append, r1, u1, u2, u3, u4, u6, u7, u8, gt_iff_lt]; (try ((repeat' apply And.intro) <;> intros <;> omega))) fun kr hr => ?_)
   | (with_reducible first | refine s_op fun K' hk => ?_ | refine t_op fun K' hk => ?_ | (refine hk _ ?_; clear hk K') | (refine ht _ ?_; clear ht hf KT KF) | (refine hf _ ?_; clear ht hf KT KF) | ((first | refine s_nil ?_ | refine t_nil ?_); refine hr _ ?_; clear hr kr))
   | ((with_reducible refine n_seqK [0, 1, 2, 3, 4, 5, 6, 7, 8, 9, 10, 11, 12, 13, 14, 15, 16, 17, 18, 21, 22, 23, 27, 28, 29, 30, 43, 45, 49, 58, 59, 64, 67, 80, 81, 82] [10, 17, 77, 85, 89, 90] ?_); simp only [mk_keep, keepL, List.mem_cons, List.not_mem_nil, Nat.reduceEqDiff, Nat.zero_ne_one, Nat.one_ne_zero, reduceCtorEq, or_false, false_or, or_true, true_or, or_self, eq_self, ↓reduceIte])
   | (with_reducible first | refine s_cond fun KT KF ht hf => ?_ | refine s_skip ?_)
   | ((with_reducible refine s_long ?_); simp only [List.cons_append, List.nil_append])
   | (with_reducible first | refine s_exit ?_ | refine s_ret ?_ | refine e_seq ?_ | refine r_seq ?_ | refine n_block ?_ | refine e_block ?_ | refine r_block ?_ | refine e_loop ?_ | refine r_loop ?_ | refine e_round ?_ | refine r_round ?_ | refine s_round ?_ | refine f_block ?_ (by decide) | refine r_res ?_ | refine n_res ?_)
   | simp only [go_sem, Int.reduceToNat, ↓reduceIte, reduceCtorEq, Nat.reduceEqDiff, Nat.reduceAdd, Nat.reduceMul, Nat.reduceLT, Nat.reduceLeDiff, Nat.reduceBEq, Int.reduceBEq, Int.reduceBNe, String.reduceBEq, Int.reduceEq, Int.reduceLT, Int.reduceLE, Int.reduceGE, Int.reduceGT, r1, u1, u2, u3, u4, u6, u7, u8, gt_iff_lt, hAll]
   | fail)
  refine w_loopG _ (gho_unfold (k := 17) (i := 0) (j := 0) (nm := 85) (sz := 1) (sz' := 1) (rows := [[.own 1 []]]) (rows' := []) (row := [.own 1 []]) (by decide) (by decide) (by simp [mk_heap, hL]) rfl rfl (by rw [fresh_t]; exact trivial; simp [freshL, Blk.has, hasRows, hasL, CV.has]) rfl) ?_
  rw [mk_unfold]
  refine w_loop [10, 11, 16, 17, 80, 81] [10, 17, 77, 85] (σ := Nat) (fun i st => st = mk [(10, .c (.mp 10 0 0)), (11, I 0), (16, .c (.fnc 59 [.mp 77 0 0] [])), (17, .c (.mp 17 0 0)), (80, I n), (81, I i)] [(10, .cells 1 [[.own 1 []]]), (17, .cells 1 [[.mr 85 0 i]]), (77, lrn l w k rounds seed), (85, .cells 1 (up (prows (parts l w k rounds seed i))))] ∧ i ≤ n) (fun i => n - i) 0 ?_ ?_
  · refine ⟨?_, Nat.zero_le _⟩
    simp only [go_sem, Int.reduceToNat, ↓reduceIte, reduceCtorEq, Nat.reduceEqDiff, Nat.reduceAdd, Nat.reduceMul, Nat.reduceLT, Nat.reduceLeDiff, Nat.reduceBEq, Int.reduceBEq, Int.reduceBNe, String.reduceBEq, Int.reduceEq, Int.reduceLT, Int.reduceLE, Int.reduceGE, Int.reduceGT, mk_keep, keepL, List.mem_cons, List.not_mem_nil, Nat.reduceEqDiff, Nat.zero_ne_one, Nat.one_ne_zero, reduceCtorEq, or_false, false_or, or_true, true_or, or_self, eq_self, ↓reduceIte, List.modify_zero_cons, List.modifyHead_cons, List.set_cons_zero]
    rfl
  rintro i st ⟨rfl, hi⟩
  by_cases hin : i < n
  · have p1 := tt (show (i : Int) < n by omega)
    have p3 := wUp (k := i) (n := n) hin (by omega)
    have hq := part_spec l w i k rounds seed hl hb hw64 (by omega) (hlen i hin) k1 k2 hr0
    rw [vecs_eq] at hq
    have hpt := parts_succ l w k rounds seed i
    have e3 : (up (prows (parts l w k rounds seed i))).length = i := by rw [up_length, prows_len, parts_len]
    have e4 : List.take i (up (prows (parts l w k rounds seed i))) = up (prows (parts l w k rounds seed i)) := List.take_of_length_le (by omega)
    have e5 := tt (show (i + 1) * 24 ≤ 140737488355328 by omega)
    have e6 := tt (show i ≤ 9223372036854775806 by omega)
    generalize partOf l w k rounds seed i = c at *
    repeat' (first
     | with_reducible refine s_draw (id := 18) ?_
     | ((with_reducible refine a_seg tOk [10, 17, 77, 85, 89, 90] 9 0 6 (by decide) (by kernel_rfl) (by simp [HeapIn, namers, namerDst, namerOp, namedOp, namedFn, ownLoad, Blk.has, hasRows, hasL, CV.has, hasRows_up, hasM_up, hasRows_append, p1, p3, e3, e4, e5, e6, hasRows_up, lrn]; (try ((repeat' apply And.intro) <;> intros <;> omega))) fun kr hr => ?_); simp only [List.drop_succ_cons, List.drop_zero, List.take_succ_cons, List.take_zero, List.map_cons, List.map_nil, List.cons_append, List.nil_append, Nat.reduceSub])
     | ((with_reducible refine a_seg tOk [10, 17, 77, 85, 89, 90] 9 7 9 (by decide) (by kernel_rfl) (by simp [HeapIn, namers, namerDst, namerOp, namedOp, namedFn, ownLoad, Blk.has, hasRows, hasL, CV.has, hasRows_up, hasM_up, hasRows_append, p1, p3, e3, e4, e5, e6, hasRows_up, lrn]; (try ((repeat' apply And.intro) <;> intros <;> omega))) fun kr hr => ?_); simp only [List.drop_succ_cons, List.drop_zero, List.take_succ_cons, List.take_zero, List.map_cons, List.map_nil, List.cons_append, List.nil_append, Nat.reduceSub])
     | ((with_reducible refine a_one 9 6 (by decide) (by kernel_rfl) fun kr hr => ?_); simp only [List.drop_succ_cons, List.drop_zero, List.take_succ_cons, List.take_zero, List.map_cons, List.map_nil, List.cons_append, List.nil_append, Nat.reduceSub])
     | with_reducible refine a_end 9 (by decide) ?_
     | (with_reducible refine hr _ ?_; clear hr kr)
     | (with_reducible first | refine s_seq ?_ | refine s_block ?_ | refine s_region fun kr hr => ?_)
     | (with_reducible refine s_text tOk [10, 17, 77, 85, 89, 90] (by kernel_rfl) (by simp [HeapIn, namers, namerDst, namerOp, namedOp, namedFn, ownLoad, Blk.has, hasRows, hasL, CV.has, hasRows_up, hasM_up, hasRows_append, p1, p3, e3, e4, e5, e6, hasRows_up, lrn]; (try ((repeat' apply And.intro) <;> intros <;> omega))) fun kr hr => ?_)
     | (with_reducible first | refine s_op fun K' hk => ?_ | refine t_op fun K' hk => ?_ | (refine hk _ ?_; clear hk K') | (refine ht _ ?_; clear ht hf KT KF) | (refine hf _ ?_; clear ht hf KT KF) | ((first | refine s_nil ?_ | refine t_nil ?_); refine hr _ ?_; clear hr kr))
     | ((with_reducible refine n_seqK [0, 1, 2, 3, 4, 5, 6, 7, 8, 9, 10, 11, 12, 13, 14, 15, 16, 17, 18, 21, 22, 23, 27, 28, 29, 30, 43, 45, 49, 58, 59, 64, 67, 80, 81, 82] [10, 17, 77, 85, 89, 90] ?_); simp only [mk_keep, keepL, List.mem_cons, List.not_mem_nil, Nat.reduceEqDiff, Nat.zero_ne_one, Nat.one_ne_zero, reduceCtorEq, or_false, false_or, or_true, true_or, or_self, eq_self, ↓reduceIte])
     | (with_reducible first | refine s_cond fun KT KF ht hf => ?_ | refine s_skip ?_)
     | ((with_reducible refine s_long ?_); simp only [List.cons_append, List.nil_append])
     | (with_reducible first | refine s_exit ?_ | refine s_ret ?_ | refine e_seq ?_ | refine r_seq ?_ | refine n_block ?_ | refine e_block ?_ | refine r_block ?_ | refine e_loop ?_ | refine r_loop ?_ | refine e_round ?_ | refine r_round ?_ | refine s_round ?_ | refine f_block ?_ (by decide) | refine r_res ?_ | refine n_res ?_)
     | simp only [go_sem, Int.reduceToNat, ↓reduceIte, reduceCtorEq, Nat.reduceEqDiff, Nat.reduceAdd, Nat.reduceMul, Nat.reduceLT, Nat.reduceLeDiff, Nat.reduceBEq, Int.reduceBEq, Int.reduceBNe, String.reduceBEq, Int.reduceEq, Int.reduceLT, Int.reduceLE, Int.reduceGE, Int.reduceGT, p1, p3, e3, e4, e5, e6, hasRows_up, lrn, callE, resSV, AV.flat, CV.flat, TV.flat, hAll]
     | refine Or.inr (m_callQ [(1000,77)] ⟨fun _ _ => rfl, hq⟩ rfl rfl (by first | (simp [avren_v, avren_a, CV.ren, renL, renL_map, tbl, lrn]; done) | fail) (by first | (simp [hAll, hRen, mk_heap, hL, tbl, Blk.ren, renRows_up, renRows, renL, CV.ren, lrn]; done) | fail) (by first | decide | (simp; done) | (simp [tbl]; done) | fail) (by first | (intro k; simp [hasA, AV.has, CV.has, hasL, lrn]; done) | fail) (by first | (simp [Blk.has, hasRows, hasL, CV.has, hasRows_up, hasM_up, lrn]; done) | fail) (by first | (simp [rd, mk_slots, ofL, SV.has, CV.has, hasL, tbl, lrn]; done) | fail) ?_)
     | refine (m_callQ [(1000,77)] ⟨fun _ _ => rfl, hq⟩ rfl rfl (by first | (simp [avren_v, avren_a, CV.ren, renL, renL_map, tbl, lrn]; done) | fail) (by first | (simp [hAll, hRen, mk_heap, hL, tbl, Blk.ren, renRows_up, renRows, renL, CV.ren, lrn]; done) | fail) (by first | decide | (simp; done) | (simp [tbl]; done) | fail) (by first | (intro k; simp [hasA, AV.has, CV.has, hasL, lrn]; done) | fail) (by first | (simp [Blk.has, hasRows, hasL, CV.has, hasRows_up, hasM_up, lrn]; done) | fail) (by first | (simp [rd, mk_slots, ofL, SV.has, CV.has, hasL, tbl, lrn]; done) | fail) ?_)
     | fail)
    refine n_loopG _ (gho_ren (a := 90) (b := 85) (by decide) (by decide)) ?_
    rw [mk_ren]
    refine n_loop (i + 1) [10, 11, 16, 17, 80, 81] [10, 17, 77, 85] ⟨?_, hin⟩ (by omega)
    simp only [go_sem, Int.reduceToNat, ↓reduceIte, reduceCtorEq, Nat.reduceEqDiff, Nat.reduceAdd, Nat.reduceMul, Nat.reduceLT, Nat.reduceLeDiff, Nat.reduceBEq, Int.reduceBEq, Int.reduceBNe, String.reduceBEq, Int.reduceEq, Int.reduceLT, Int.reduceLE, Int.reduceGE, Int.reduceGT, mk_keep, keepL, List.mem_cons, List.not_mem_nil, Nat.reduceEqDiff, Nat.zero_ne_one, Nat.one_ne_zero, reduceCtorEq, or_false, false_or, or_true, true_or, or_self, eq_self, ↓reduceIte, renS, Blk.ren, renRows, renL, CV.ren, renRows_up, mapV, SV.ren, ins, sw, hpt, upp_snoc, lrn]
  · have p1 := ff (show ¬ ((i : Int) < n) by omega)
    obtain rfl : i = n := by omega
    have e1 : List.take i (prows (parts l w k rounds seed i)) = prows (parts l w k rounds seed i) := List.take_of_length_le (by rw [prows_len, parts_len]; omega)
    have e2 := tt (show i ≤ (parts l w k rounds seed i).length by rw [parts_len]; omega)
    repeat' (first
     | (with_reducible first | refine s_seq ?_ | refine s_block ?_ | refine s_region fun kr hr => ?_)
     | (with_reducible refine s_text tOk [10, 17, 77, 85, 89, 90, 1000, 1001, 1002, 1003] (by kernel_rfl) (by simp [HeapIn, namers, namerDst, namerOp, namedOp, namedFn, ownLoad, Blk.has, hasRows, hasL, CV.has, hasRows_up, hasM_up, hasRows_append, p1, prows_len]; (try ((repeat' apply And.intro) <;> intros <;> omega))) fun kr hr => ?_)
     | (with_reducible first | refine s_op fun K' hk => ?_ | refine t_op fun K' hk => ?_ | (refine hk _ ?_; clear hk K') | (refine ht _ ?_; clear ht hf KT KF) | (refine hf _ ?_; clear ht hf KT KF) | ((first | refine s_nil ?_ | refine t_nil ?_); refine hr _ ?_; clear hr kr))
     | ((with_reducible refine n_seqK [0, 1, 2, 3, 4, 5, 6, 7, 8, 9, 10, 11, 12, 13, 14, 15, 16, 17, 18, 21, 22, 23, 27, 28, 29, 30, 43, 45, 49, 58, 59, 64, 67, 80, 81, 82] [10, 17, 77, 85, 89, 90] ?_); simp only [mk_keep, keepL, List.mem_cons, List.not_mem_nil, Nat.reduceEqDiff, Nat.zero_ne_one, Nat.one_ne_zero, reduceCtorEq, or_false, false_or, or_true, true_or, or_self, eq_self, ↓reduceIte])
     | (with_reducible first | refine s_cond fun KT KF ht hf => ?_ | refine s_skip ?_)
     | ((with_reducible refine s_long ?_); simp only [List.cons_append, List.nil_append])
     | (with_reducible first | refine s_exit ?_ | refine s_ret ?_ | refine e_seq ?_ | refine r_seq ?_ | refine n_block ?_ | refine e_block ?_ | refine r_block ?_ | refine e_loop ?_ | refine r_loop ?_ | refine e_round ?_ | refine r_round ?_ | refine s_round ?_ | refine f_block ?_ (by decide) | refine r_res ?_ | refine n_res ?_)
     | simp only [go_sem, Int.reduceToNat, ↓reduceIte, reduceCtorEq, Nat.reduceEqDiff, Nat.reduceAdd, Nat.reduceMul, Nat.reduceLT, Nat.reduceLeDiff, Nat.reduceBEq, Int.reduceBEq, Int.reduceBNe, String.reduceBEq, Int.reduceEq, Int.reduceLT, Int.reduceLE, Int.reduceGE, Int.reduceGT, p1, prows_len, hAll]
     | fail)
theorem ptrain_ok (l : List (List Int)) (n w : Nat) (k rounds seed : Int) (hl : SizedAll l) (hb : l.length + l.length ≤ 5864062014634) (hok : okRows l = true) (n1 : 1 ≤ n) (hw : n * w = (hd l).length) (k1 : 1 ≤ k) (k2 : k ≤ 256) (hr0 : -9223372036854775808 ≤ rounds ∧ rounds ≤ 9223372036854775807) :
    Spec Try.prog 39 [.v (.t (vecs l)), .v (.t (.int .i64 n)), .v (.t (.int .i64 k)), .v (.t (.int .i64 rounds)), .v (.t (.int .u64 seed))] [] [.agg [.t (.sl 1 (prows (parts l w k rounds seed n)))], .v (.t (.int .i64 0))] [] := by
  have h := ptrain_named l n w k rounds seed hl hb hok n1 hw k1 k2 hr0
  have e : (up (prows (parts l w k rounds seed n))).length = n := by rw [up_length, prows_len, parts_len]
  generalize prows (parts l w k rounds seed n) = rows at *
  have h2 : Spec Try.prog 39 [.v (.t (vecs l)), .v (.t (.int .i64 n)), .v (.t (.int .i64 k)), .v (.t (.int .i64 rounds)), .v (.t (.int .u64 seed))] [] [.agg [.mr 85 0 (up rows).length], .v (.t (.int .i64 0))] [(85, .cells 1 (up rows))] := by rw [e]; exact h
  exact h2.treeA2 (viewRows_up _)
/-- Both answer alike, whatever they are asked. -/
theorem ptrain_both (l : List (List Int)) (p k rounds seed : Int) (hl : SizedAll l) (hb : l.length + l.length ≤ 5864062014634) (hr0 : -9223372036854775808 ≤ rounds ∧ rounds ≤ 9223372036854775807) :
    ∃ (q : List (List (List Int))) (e : Int), Spec Try.prog 39 [.v (.t (vecs l)), .v (.t (.int .i64 p)), .v (.t (.int .i64 k)), .v (.t (.int .i64 rounds)), .v (.t (.int .u64 seed))] [] [.agg [.t (.sl 1 (prows q))], .v (.t (.int .i64 e))] [] ∧
      Spec Try.prog 40 [.v (.t (vecs l)), .v (.t (.int .i64 p)), .v (.t (.int .i64 k)), .v (.t (.int .i64 rounds)), .v (.t (.int .u64 seed))] [] [.agg [.t (.sl 1 (prows q))], .v (.t (.int .i64 e))] [] ∧
      Spec Try.prog 41 [.agg [.t (.sl 1 (prows q))], .agg [.t (.sl 1 (prows q))]] [] [.v (.t (.bool true))] [] := by
  have s0 := same19_spec [] [] (by simp) (by simp)
  rw [decide_eq_true rfl] at s0
  cases hok : okRows l with
  | false => exact ⟨[], 170, ptrain_no l p k rounds seed hl hok, rptrain_no l p k rounds seed hl hok, s0⟩
  | true =>
    by_cases hh : 1 ≤ p ∧ ((hd l).length : Int).tmod p = 0 ∧ 1 ≤ k ∧ k ≤ 256
    · obtain ⟨h1, h2, h3, h4⟩ := hh
      obtain ⟨n, rfl⟩ : ∃ n : Nat, p = n := ⟨p.toNat, by omega⟩
      have hdv : n ∣ (hd l).length := by
        have : ((hd l).length : Int) % (n : Int) = 0 := by rw [← Int.tmod_eq_emod_of_nonneg (by omega)]; exact h2
        exact Int.natCast_dvd_natCast.1 (Int.dvd_of_emod_eq_zero this)
      obtain ⟨w, hw⟩ := hdv
      have h0 : 0 < l.length := by simp [okRows] at hok; omega
      have hgood : ∀ v ∈ l, okRow (hd l).length v = true := by
        simp only [okRows, Bool.and_eq_true, List.all_eq_true] at hok
        exact hok.1
      have hrow := row_good (hgood (hd l) (by rw [← head_get h0]; exact List.getElem_mem h0))
      have hw64 : w ≤ 64 := by
        have := Nat.le_mul_of_pos_left w (show 0 < n by omega)
        omega
      refine ⟨parts l w k rounds seed n, 0, ptrain_ok l n w k rounds seed hl hb hok (by omega) hw.symm h3 h4 hr0, rptrain_ok l n w k rounds seed hl hb hok (by omega) hw.symm h3 h4 hr0, ?_⟩
      have := same19_spec (parts l w k rounds seed n) (parts l w k rounds seed n) (by
        rw [parts_len]
        have hw0 : 0 < w := by
          rcases Nat.eq_zero_or_pos w with e | e
          · rw [e, Nat.mul_zero] at hw; omega
          · exact e
        have := Nat.le_mul_of_pos_right n hw0
        omega) (fun c hc => by
        obtain ⟨i, hi, rfl⟩ := List.mem_map.1 hc
        exact train_sized (pieces_sized (l := l) (w := w) (i := i) hl.1 hw64) _ _ _)
      rw [decide_eq_true rfl] at this
      exact this
    · exact ⟨[], 190, ptrain_bad l p k rounds seed hl hok hh, rptrain_bad l p k rounds seed hl hok hh, s0⟩
end Go.Proofs.Ytlnilonlaedafaa.Fx
