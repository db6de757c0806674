/- product's learner: one part. -/
import Derived.Test.YtlnilonlaedafaaFxProdRef
namespace Go.Proofs.Ytlnilonlaedafaa.Fx
open Go Go.RowKit
set_option maxRecDepth 100000
set_option linter.unusedSimpArgs false
set_option linter.unusedVariables false
def lrn (l : List (List Int)) (w : Nat) (k rounds seed : Int) : Blk := .cells 5 [[.t (.sl 1 (vrows l)), .t (.int .i64 w), .t (.int .i64 k), .t (.int .i64 rounds), .t (.int .u64 seed)]]
set_option maxHeartbeats 16000000 in
theorem part_spec (l : List (List Int)) (w i : Nat) (k rounds seed : Int) (hl : SizedAll l) (hb : l.length + l.length ≤ 5864062014634) (hw64 : w ≤ 64) (hi64 : i ≤ 64) (hlen : ∀ v ∈ l, (i + 1) * w ≤ v.length) (k1 : 1 ≤ k) (k2 : k ≤ 256) (hr0 : -9223372036854775808 ≤ rounds ∧ rounds ≤ 9223372036854775807) :
    Spec Try.prog 59 [.v (.mp 1000 0 0), .v (.t (.int .i64 i))] [(1000, lrn l w k rounds seed)] [.v (.t (vecs (partOf l w k rounds seed i)))] [(1000, lrn l w k rounds seed)] := by
  have hiw : (i + 1) * w ≤ 65 * 64 := Nat.mul_le_mul (by omega) hw64
  have hiw2 : i * w ≤ (i + 1) * w := Nat.mul_le_mul_right _ (by omega)
  have p0 : IntKind.wrap .i64 ((i : Int) + 1) = ((i + 1 : Nat) : Int) := wUp (n := 65) (by omega) (by omega)
  have p4 : IntKind.wrap .i64 ((i : Int) * (w : Int)) = ((i * w : Nat) : Int) := by rw [wI (by rw [← Int.natCast_mul]; omega) (by rw [← Int.natCast_mul]; omega), Int.natCast_mul]
  have p5 : IntKind.wrap .i64 (((i + 1 : Nat) : Int) * (w : Int)) = (((i + 1) * w : Nat) : Int) := by rw [wI (by rw [← Int.natCast_mul]; omega) (by rw [← Int.natCast_mul]; omega), Int.natCast_mul]
  have p6 := tt (Int.natCast_nonneg (i * w))
  have p7 := tt (Int.natCast_nonneg ((i + 1) * w))
  have p8 := tt hiw2
  refine spec_by Try.func59 rfl mixed tOk evOk (n := 59) rfl (by simp) (by simp) ?_
  rw [initSt_mk, show Try.f59.results.toList = [.tmp 4] from rfl]
  simp only [initL, AV.sv, List.map_cons, List.map_nil, Nat.reduceAdd, Nat.zero_add, lrn, vecs_eq]
  repeat' (first
   | (with_reducible first | refine s_seq ?_ | refine s_block ?_ | refine s_region fun kr hr => ?_)
   | (with_reducible refine s_text tOk [35, 36, 1000, 1001, 1002, 1003] (by kernel_rfl) (by simp [HeapIn, namers, namerDst, namerOp, namedOp, namedFn, ownLoad, Blk.has, hasRows, hasL, CV.has, hasRows_up, hasM_up, hasRows_append, vrows_len]; (try ((repeat' apply And.intro) <;> intros <;> omega))) fun kr hr => ?_)
   | (with_reducible first | refine s_op fun K' hk => ?_ | refine t_op fun K' hk => ?_ | (refine hk _ ?_; clear hk K') | (refine ht _ ?_; clear ht hf KT KF) | (refine hf _ ?_; clear ht hf KT KF) | ((first | refine s_nil ?_ | refine t_nil ?_); refine hr _ ?_; clear hr kr))
   | ((with_reducible refine n_seqK [0, 1, 2, 3, 4, 5, 6, 7, 8, 9, 13, 14, 15, 16, 22, 23, 32] [35, 36, 1000] ?_); simp only [mk_keep, keepL, List.mem_cons, List.not_mem_nil, Nat.reduceEqDiff, Nat.zero_ne_one, Nat.one_ne_zero, reduceCtorEq, or_false, false_or, or_true, true_or, or_self, eq_self, ↓reduceIte])
   | (with_reducible first | refine s_cond fun KT KF ht hf => ?_ | refine s_skip ?_)
   | ((with_reducible refine s_long ?_); simp only [List.cons_append, List.nil_append])
   | (with_reducible first | refine s_exit ?_ | refine s_ret ?_ | refine e_seq ?_ | refine r_seq ?_ | refine n_block ?_ | refine e_block ?_ | refine r_block ?_ | refine e_loop ?_ | refine r_loop ?_ | refine e_round ?_ | refine r_round ?_ | refine s_round ?_ | refine f_block ?_ (by decide) | refine r_res ?_ | refine n_res ?_)
   | simp only [go_sem, Int.reduceToNat, ↓reduceIte, reduceCtorEq, Nat.reduceEqDiff, Nat.reduceAdd, Nat.reduceMul, Nat.reduceLT, Nat.reduceLeDiff, Nat.reduceBEq, Int.reduceBEq, Int.reduceBNe, String.reduceBEq, Int.reduceEq, Int.reduceLT, Int.reduceLE, Int.reduceGE, Int.reduceGT, vrows_len, hAll]
   | fail)
  refine w_loopG _ (gho_nilName (s := 5) (d := 37) (sz := 1) (by decide) ⟨1, rfl⟩ (by rw [fresh_t]; exact trivial; rfl)) ?_
  rw [mk_nilName]
  refine w_loop [0, 1, 4, 5, 13, 14, 15] [37, 1000] (σ := Nat) (fun j st => st = mk [(0, .c (.mp 1000 0 0)), (1, I i), (4, .c (.own 1 [])), (5, .c (.mr 37 0 j)), (13, V (.sl 1 (vrows l))), (14, I l.length), (15, I j)] [(37, .cells 1 (up (vrows (pieces w i (l.take j))))), (1000, .cells 5 [[.t (.sl 1 (vrows l)), .t (.int .i64 w), .t (.int .i64 k), .t (.int .i64 rounds), .t (.int .u64 seed)]])] ∧ j ≤ l.length) (fun j => l.length - j) 0 ?_ ?_
  · refine ⟨?_, Nat.zero_le _⟩
    simp only [go_sem, Int.reduceToNat, ↓reduceIte, reduceCtorEq, Nat.reduceEqDiff, Nat.reduceAdd, Nat.reduceMul, Nat.reduceLT, Nat.reduceLeDiff, Nat.reduceBEq, Int.reduceBEq, Int.reduceBNe, String.reduceBEq, Int.reduceEq, Int.reduceLT, Int.reduceLE, Int.reduceGE, Int.reduceGT, mk_keep, keepL, List.mem_cons, List.not_mem_nil, Nat.reduceEqDiff, Nat.zero_ne_one, Nat.one_ne_zero, reduceCtorEq, or_false, false_or, or_true, true_or, or_self, eq_self, ↓reduceIte]
    rfl
  rintro j st ⟨rfl, hj⟩
  by_cases hjl : j < l.length
  · have r1 := tt (show (j : Int) < l.length by omega)
    have r2 : (vrows l)[j]? = some [vec l[j]] := by rw [vrows_get, get_of_lt hjl]; rfl
    have r3 := wUp (k := j) (n := l.length) hjl (by have := hl.1; omega)
    have hps := pieces_succ (w := w) (i := i) hjl
    have hvl := hlen l[j] (List.getElem_mem hjl)
    have r0 := hl.1
    obtain ⟨v, hv⟩ : ∃ v, l[j] = v := ⟨_, rfl⟩
    rw [hv] at r2 hps hvl
    have r4 := tt hvl
    have r5 : List.drop (i * w) (List.take ((i + 1) * w) (ints v)) = ints (piece w i v) := piece_drop v
    have r6 := tt (show (j + 1) * 24 ≤ 140737488355328 by omega)
    have r7 := tt (show j ≤ 9223372036854775806 by omega)
    have r8 : (up (vrows (pieces w i (l.take j)))).length = j := by rw [upv_len, pieces_len, List.length_take]; omega
    have r9 : List.take j (up (vrows (pieces w i (l.take j)))) = up (vrows (pieces w i (l.take j))) := List.take_of_length_le (by omega)
    repeat' (first
     | with_reducible refine s_draw (id := 5) ?_
     | with_reducible refine s_draw (id := 7) ?_
     | ((with_reducible refine a_seg tOk [35, 36, 37, 1000, 1001, 1002, 1003] 19 0 17 (by decide) (by kernel_rfl) (by simp [HeapIn, namers, namerDst, namerOp, namedOp, namedFn, ownLoad, Blk.has, hasRows, hasL, CV.has, hasRows_up, hasM_up, hasRows_append, p0, p4, p5, p6, p7, p8, r1, r2, r3, r4, r5, r6, r7, r8, r9, Int.toNat_natCast, vrows_len, vec_eq, ints_len, hasRows_up]; (try ((repeat' apply And.intro) <;> intros <;> omega))) fun kr hr => ?_); simp only [List.drop_succ_cons, List.drop_zero, List.take_succ_cons, List.take_zero, List.map_cons, List.map_nil, List.cons_append, List.nil_append, Nat.reduceSub])
     | ((with_reducible refine a_seg tOk [35, 36, 37, 1000, 1001, 1002, 1003] 19 18 19 (by decide) (by kernel_rfl) (by simp [HeapIn, namers, namerDst, namerOp, namedOp, namedFn, ownLoad, Blk.has, hasRows, hasL, CV.has, hasRows_up, hasM_up, hasRows_append, p0, p4, p5, p6, p7, p8, r1, r2, r3, r4, r5, r6, r7, r8, r9, Int.toNat_natCast, vrows_len, vec_eq, ints_len, hasRows_up]; (try ((repeat' apply And.intro) <;> intros <;> omega))) fun kr hr => ?_); simp only [List.drop_succ_cons, List.drop_zero, List.take_succ_cons, List.take_zero, List.map_cons, List.map_nil, List.cons_append, List.nil_append, Nat.reduceSub])
     | ((with_reducible refine a_one 19 17 (by decide) (by kernel_rfl) fun kr hr => ?_); simp only [List.drop_succ_cons, List.drop_zero, List.take_succ_cons, List.take_zero, List.map_cons, List.map_nil, List.cons_append, List.nil_append, Nat.reduceSub])
     | with_reducible refine a_end 19 (by decide) ?_
     | ((with_reducible refine a_seg tOk [35, 36, 37, 1000, 1001, 1002, 1003] 22 0 16 (by decide) (by kernel_rfl) (by simp [HeapIn, namers, namerDst, namerOp, namedOp, namedFn, ownLoad, Blk.has, hasRows, hasL, CV.has, hasRows_up, hasM_up, hasRows_append, p0, p4, p5, p6, p7, p8, r1, r2, r3, r4, r5, r6, r7, r8, r9, Int.toNat_natCast, vrows_len, vec_eq, ints_len, hasRows_up]; (try ((repeat' apply And.intro) <;> intros <;> omega))) fun kr hr => ?_); simp only [List.drop_succ_cons, List.drop_zero, List.take_succ_cons, List.take_zero, List.map_cons, List.map_nil, List.cons_append, List.nil_append, Nat.reduceSub])
     | ((with_reducible refine a_seg tOk [35, 36, 37, 1000, 1001, 1002, 1003] 22 17 22 (by decide) (by kernel_rfl) (by simp [HeapIn, namers, namerDst, namerOp, namedOp, namedFn, ownLoad, Blk.has, hasRows, hasL, CV.has, hasRows_up, hasM_up, hasRows_append, p0, p4, p5, p6, p7, p8, r1, r2, r3, r4, r5, r6, r7, r8, r9, Int.toNat_natCast, vrows_len, vec_eq, ints_len, hasRows_up]; (try ((repeat' apply And.intro) <;> intros <;> omega))) fun kr hr => ?_); simp only [List.drop_succ_cons, List.drop_zero, List.take_succ_cons, List.take_zero, List.map_cons, List.map_nil, List.cons_append, List.nil_append, Nat.reduceSub])
     | ((with_reducible refine a_one 22 16 (by decide) (by kernel_rfl) fun kr hr => ?_); simp only [List.drop_succ_cons, List.drop_zero, List.take_succ_cons, List.take_zero, List.map_cons, List.map_nil, List.cons_append, List.nil_append, Nat.reduceSub])
     | with_reducible refine a_end 22 (by decide) ?_
     | (with_reducible refine hr _ ?_; clear hr kr)
     | (with_reducible first | refine s_seq ?_ | refine s_block ?_ | refine s_region fun kr hr => ?_)
     | (with_reducible refine s_text tOk [35, 36, 37, 1000, 1001, 1002, 1003] (by kernel_rfl) (by simp [HeapIn, namers, namerDst, namerOp, namedOp, namedFn, ownLoad, Blk.has, hasRows, hasL, CV.has, hasRows_up, hasM_up, hasRows_append, p0, p4, p5, p6, p7, p8, r1, r2, r3, r4, r5, r6, r7, r8, r9, Int.toNat_natCast, vrows_len, vec_eq, ints_len, hasRows_up]; (try ((repeat' apply And.intro) <;> intros <;> omega))) fun kr hr => ?_)
     | (with_reducible first | refine s_op fun K' hk => ?_ | refine t_op fun K' hk => ?_ | (refine hk _ ?_; clear hk K') | (refine ht _ ?_; clear ht hf KT KF) | (refine hf _ ?_; clear ht hf KT KF) | ((first | refine s_nil ?_ | refine t_nil ?_); refine hr _ ?_; clear hr kr))
     | ((with_reducible refine n_seqK [0, 1, 2, 3, 4, 5, 6, 7, 8, 9, 13, 14, 15, 16, 22, 23, 32] [35, 36, 37, 1000] ?_); simp only [mk_keep, keepL, List.mem_cons, List.not_mem_nil, Nat.reduceEqDiff, Nat.zero_ne_one, Nat.one_ne_zero, reduceCtorEq, or_false, false_or, or_true, true_or, or_self, eq_self, ↓reduceIte])
     | (with_reducible first | refine s_cond fun KT KF ht hf => ?_ | refine s_skip ?_)
     | ((with_reducible refine s_long ?_); simp only [List.cons_append, List.nil_append])
     | (with_reducible first | refine s_exit ?_ | refine s_ret ?_ | refine e_seq ?_ | refine r_seq ?_ | refine n_block ?_ | refine e_block ?_ | refine r_block ?_ | refine e_loop ?_ | refine r_loop ?_ | refine e_round ?_ | refine r_round ?_ | refine s_round ?_ | refine f_block ?_ (by decide) | refine r_res ?_ | refine n_res ?_)
     | simp only [go_sem, Int.reduceToNat, ↓reduceIte, reduceCtorEq, Nat.reduceEqDiff, Nat.reduceAdd, Nat.reduceMul, Nat.reduceLT, Nat.reduceLeDiff, Nat.reduceBEq, Int.reduceBEq, Int.reduceBNe, String.reduceBEq, Int.reduceEq, Int.reduceLT, Int.reduceLE, Int.reduceGE, Int.reduceGT, p0, p4, p5, p6, p7, p8, r1, r2, r3, r4, r5, r6, r7, r8, r9, Int.toNat_natCast, vrows_len, vec_eq, ints_len, hasRows_up, hAll]
     | fail)
    refine n_loopG _ (gho_ren (a := 36) (b := 37) (by decide) (by decide)) ?_
    rw [mk_ren]
    refine n_loop (j + 1) [0, 1, 4, 5, 13, 14, 15] [37, 1000] ⟨?_, hjl⟩ (by omega)
    simp only [go_sem, Int.reduceToNat, ↓reduceIte, reduceCtorEq, Nat.reduceEqDiff, Nat.reduceAdd, Nat.reduceMul, Nat.reduceLT, Nat.reduceLeDiff, Nat.reduceBEq, Int.reduceBEq, Int.reduceBNe, String.reduceBEq, Int.reduceEq, Int.reduceLT, Int.reduceLE, Int.reduceGE, Int.reduceGT, mk_keep, keepL, List.mem_cons, List.not_mem_nil, Nat.reduceEqDiff, Nat.zero_ne_one, Nat.one_ne_zero, reduceCtorEq, or_false, false_or, or_true, true_or, or_self, eq_self, ↓reduceIte, renS, Blk.ren, renRows, renL, CV.ren, renRows_up, mapV, SV.ren, ins, sw, hps, upv_snoc1]
  · have r1 := ff (show ¬ ((j : Int) < l.length) by omega)
    obtain rfl : j = l.length := by omega
    rw [List.take_length]
    have ps := pieces_sized (l := l) (w := w) (i := i) hl.1 hw64
    have q2 := train_spec (pieces w i l) k rounds (IntKind.wrap .u64 (seed + IntKind.wrap .u64 (i : Int))) ps (by rw [pieces_len]; exact hb) (by omega) hr0
    rw [vecs_eq, vecs_eq] at q2
    have e1 : List.take l.length (vrows (pieces w i l)) = vrows (pieces w i l) := List.take_of_length_le (by rw [vrows_len, pieces_len]; omega)
    have e2 := tt (show l.length ≤ (pieces w i l).length by rw [pieces_len]; omega)
    rw [show train (pieces w i l) k rounds (IntKind.wrap .u64 (seed + IntKind.wrap .u64 (i : Int))) = partOf l w k rounds seed i from rfl] at q2
    generalize partOf l w k rounds seed i = c at *
    generalize trainE (pieces w i l) k = tE at *
    repeat' (first
     | with_reducible refine s_draw (id := 5) ?_
     | with_reducible refine s_draw (id := 7) ?_
     | ((with_reducible refine a_seg tOk [35, 36, 37, 1000, 1001, 1002, 1003] 19 0 17 (by decide) (by kernel_rfl) (by simp [HeapIn, namers, namerDst, namerOp, namedOp, namedFn, ownLoad, Blk.has, hasRows, hasL, CV.has, hasRows_up, hasM_up, hasRows_append, r1, e1, e2, vrows_len, hasRows_up]; (try ((repeat' apply And.intro) <;> intros <;> omega))) fun kr hr => ?_); simp only [List.drop_succ_cons, List.drop_zero, List.take_succ_cons, List.take_zero, List.map_cons, List.map_nil, List.cons_append, List.nil_append, Nat.reduceSub])
     | ((with_reducible refine a_seg tOk [35, 36, 37, 1000, 1001, 1002, 1003] 19 18 19 (by decide) (by kernel_rfl) (by simp [HeapIn, namers, namerDst, namerOp, namedOp, namedFn, ownLoad, Blk.has, hasRows, hasL, CV.has, hasRows_up, hasM_up, hasRows_append, r1, e1, e2, vrows_len, hasRows_up]; (try ((repeat' apply And.intro) <;> intros <;> omega))) fun kr hr => ?_); simp only [List.drop_succ_cons, List.drop_zero, List.take_succ_cons, List.take_zero, List.map_cons, List.map_nil, List.cons_append, List.nil_append, Nat.reduceSub])
     | ((with_reducible refine a_one 19 17 (by decide) (by kernel_rfl) fun kr hr => ?_); simp only [List.drop_succ_cons, List.drop_zero, List.take_succ_cons, List.take_zero, List.map_cons, List.map_nil, List.cons_append, List.nil_append, Nat.reduceSub])
     | with_reducible refine a_end 19 (by decide) ?_
     | ((with_reducible refine a_seg tOk [35, 36, 37, 1000, 1001, 1002, 1003] 22 0 16 (by decide) (by kernel_rfl) (by simp [HeapIn, namers, namerDst, namerOp, namedOp, namedFn, ownLoad, Blk.has, hasRows, hasL, CV.has, hasRows_up, hasM_up, hasRows_append, r1, e1, e2, vrows_len, hasRows_up]; (try ((repeat' apply And.intro) <;> intros <;> omega))) fun kr hr => ?_); simp only [List.drop_succ_cons, List.drop_zero, List.take_succ_cons, List.take_zero, List.map_cons, List.map_nil, List.cons_append, List.nil_append, Nat.reduceSub])
     | ((with_reducible refine a_seg tOk [35, 36, 37, 1000, 1001, 1002, 1003] 22 17 22 (by decide) (by kernel_rfl) (by simp [HeapIn, namers, namerDst, namerOp, namedOp, namedFn, ownLoad, Blk.has, hasRows, hasL, CV.has, hasRows_up, hasM_up, hasRows_append, r1, e1, e2, vrows_len, hasRows_up]; (try ((repeat' apply And.intro) <;> intros <;> omega))) fun kr hr => ?_); simp only [List.drop_succ_cons, List.drop_zero, List.take_succ_cons, List.take_zero, List.map_cons, List.map_nil, List.cons_append, List.nil_append, Nat.reduceSub])
     | ((with_reducible refine a_one 22 16 (by decide) (by kernel_rfl) fun kr hr => ?_); simp only [List.drop_succ_cons, List.drop_zero, List.take_succ_cons, List.take_zero, List.map_cons, List.map_nil, List.cons_append, List.nil_append, Nat.reduceSub])
     | with_reducible refine a_end 22 (by decide) ?_
     | (with_reducible refine hr _ ?_; clear hr kr)
     | ((with_reducible_and_instances refine s_frz 37 rfl (viewRows_up _) ?_); simp only [del, mapV, SV.frz, CV.frz, hasA, AV.has, CV.has, List.drop_zero, List.map_cons, List.map_nil, Nat.zero_add, Nat.reduceEqDiff, Nat.reduceLeDiff, Nat.le_refl, ↓reduceIte, Bool.false_eq_true, r1, e1, e2, vrows_len, hasRows_up])
     | (with_reducible first | refine s_seq ?_ | refine s_block ?_ | refine s_region fun kr hr => ?_)
     | (with_reducible refine s_text tOk [35, 36, 37, 1000, 1001, 1002, 1003] (by kernel_rfl) (by simp [HeapIn, namers, namerDst, namerOp, namedOp, namedFn, ownLoad, Blk.has, hasRows, hasL, CV.has, hasRows_up, hasM_up, hasRows_append, r1, e1, e2, vrows_len, hasRows_up]; (try ((repeat' apply And.intro) <;> intros <;> omega))) fun kr hr => ?_)
     | (with_reducible first | refine s_op fun K' hk => ?_ | refine t_op fun K' hk => ?_ | (refine hk _ ?_; clear hk K') | (refine ht _ ?_; clear ht hf KT KF) | (refine hf _ ?_; clear ht hf KT KF) | ((first | refine s_nil ?_ | refine t_nil ?_); refine hr _ ?_; clear hr kr))
     | ((with_reducible refine n_seqK [0, 1, 2, 3, 4, 5, 6, 7, 8, 9, 13, 14, 15, 16, 22, 23, 32] [35, 36, 37, 1000] ?_); simp only [mk_keep, keepL, List.mem_cons, List.not_mem_nil, Nat.reduceEqDiff, Nat.zero_ne_one, Nat.one_ne_zero, reduceCtorEq, or_false, false_or, or_true, true_or, or_self, eq_self, ↓reduceIte])
     | (with_reducible first | refine s_cond fun KT KF ht hf => ?_ | refine s_skip ?_)
     | ((with_reducible refine s_long ?_); simp only [List.cons_append, List.nil_append])
     | (with_reducible first | refine s_exit ?_ | refine s_ret ?_ | refine e_seq ?_ | refine r_seq ?_ | refine n_block ?_ | refine e_block ?_ | refine r_block ?_ | refine e_loop ?_ | refine r_loop ?_ | refine e_round ?_ | refine r_round ?_ | refine s_round ?_ | refine f_block ?_ (by decide) | refine r_res ?_ | refine n_res ?_)
     | simp only [go_sem, Int.reduceToNat, ↓reduceIte, reduceCtorEq, Nat.reduceEqDiff, Nat.reduceAdd, Nat.reduceMul, Nat.reduceLT, Nat.reduceLeDiff, Nat.reduceBEq, Int.reduceBEq, Int.reduceBNe, String.reduceBEq, Int.reduceEq, Int.reduceLT, Int.reduceLE, Int.reduceGE, Int.reduceGT, r1, e1, e2, vrows_len, hasRows_up, callE, resSV, AV.flat, CV.flat, TV.flat, hAll]
     | refine Or.inl ⟨_, ⟨fun _ _ => rfl, q2⟩, ?_⟩
     | refine ⟨_, ⟨fun _ _ => rfl, q2⟩, ?_⟩
     | fail)
end Go.Proofs.Ytlnilonlaedafaa.Fx
