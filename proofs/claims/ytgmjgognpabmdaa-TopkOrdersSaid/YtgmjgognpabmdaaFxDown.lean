/- The heap: down. -/
import Derived.Test.YtgmjgognpabmdaaFxHeap
namespace Go.Proofs.Ytgmjgognpabmdaa.Fx
open Go Go.RowKit
set_option maxRecDepth 100000
set_option linter.unusedSimpArgs false
set_option linter.unusedVariables false
/-- The child that is asked. -/
def hch (m : Int) (n : Nat) (l : List Ht) (i : Nat) : Nat := if 2 * i + 2 < n ∧ less m (hg l (2 * i + 1)) (hg l (2 * i + 2)) = true then 2 * i + 2 else 2 * i + 1
theorem hch_gt (m : Int) (n : Nat) (l : List Ht) (i : Nat) : i < hch m n l i := by unfold hch; split <;> omega
theorem hch_lt (m : Int) (n : Nat) (l : List Ht) (i : Nat) (h : 2 * i + 1 < n) : hch m n l i < n := by unfold hch; split <;> omega
def hdn (m : Int) (n : Nat) (l : List Ht) (i : Nat) : List Ht × Nat :=
  if h : 2 * i + 1 < n then
    if less m (hg l i) (hg l (hch m n l i)) = true then hdn m n (hswap l i (hch m n l i)) (hch m n l i) else (l, i)
  else (l, i)
termination_by n - i
decreasing_by have := hch_gt m n l i; omega
theorem hdn_len (m : Int) (n : Nat) (l : List Ht) (i : Nat) : (hdn m n l i).1.length = l.length := by
  generalize hk : n - i = k
  induction k using Nat.strongRecOn generalizing l i with
  | ind k ih =>
    rw [hdn]
    split
    · split
      · have := hch_gt m n l i
        rw [ih _ (by omega) _ _ rfl, hswap_len]
      · rfl
    · rfl
set_option maxHeartbeats 4000000 in
theorem down_spec (k m : Int) (l : List Ht) (n : Nat) (hn : n ≤ l.length) (hl : l.length ≤ 1152921504606846976) : Spec Try.prog 63 [.v (.ifc 75 false [.mp 1002 0 2]), .v (.t (.int .i64 0)), .v (.t (.int .i64 n))] (bh k m l) [.v (.t (.bool (decide (0 < ((hdn m n l 0).2 : Int)))))] (bh k m (hdn m n l 0).1) := by
  have hlen := hdn_len m n l 0
  obtain ⟨z, hz⟩ : ∃ z, z = hdn m n l 0 := ⟨_, rfl⟩
  rw [← hz] at hlen ⊢
  refine spec_by Try.func63 rfl mixed tOk evOk (n := 48) rfl (by simp) (by simp) ?_
  rw [initSt_mk, show Try.f63.results.toList = [.tmp 6] from rfl]
  simp only [initL, AV.sv, List.map_cons, List.map_nil, Nat.reduceAdd, Nat.zero_add, boxB, listB, bestB, hlen]
  with_reducible refine s_seq ?_
  repeat' (first
   | (with_reducible first | refine s_seq ?_ | refine s_block ?_ | refine s_region fun kr hr => ?_)
   | (with_reducible refine s_text tOk [1000, 1001, 1002, 1003] (by kernel_rfl) (by simp [HeapIn, namers, namerDst, namerOp, namedOp, namedFn, Blk.has, hasRows, hasL, CV.has, hasRows_up, hasRows_append, boxB, listB, bestB]; (try ((repeat' apply And.intro) <;> intros <;> omega))) fun kr hr => ?_)
   | (with_reducible first | refine s_op fun K' hk => ?_ | refine t_op fun K' hk => ?_ | (refine hk _ ?_; clear hk K') | (refine ht _ ?_; clear ht hf KT KF) | (refine hf _ ?_; clear ht hf KT KF) | ((first | refine s_nil ?_ | refine t_nil ?_); refine hr _ ?_; clear hr kr))
   | ((with_reducible refine n_seqK [0, 1, 2, 3, 4, 5, 6, 7, 8, 9, 10, 21, 33, 39] [1000, 1001, 1002] ?_); simp only [mk_keep, keepL, List.mem_cons, List.not_mem_nil, Nat.reduceEqDiff, Nat.zero_ne_one, Nat.one_ne_zero, reduceCtorEq, or_false, false_or, or_true, true_or, or_self, eq_self, ↓reduceIte])
   | (with_reducible first | refine s_cond fun KT KF ht hf => ?_ | refine s_skip ?_)
   | ((with_reducible refine s_long ?_); simp only [List.cons_append, List.nil_append])
   | (with_reducible first | refine s_exit ?_ | refine s_ret ?_ | refine e_seq ?_ | refine r_seq ?_ | refine n_block ?_ | refine e_block ?_ | refine r_block ?_ | refine e_loop ?_ | refine r_loop ?_ | refine e_round ?_ | refine r_round ?_ | refine s_round ?_ | refine f_block ?_ (by decide) | refine r_res ?_ | refine n_res ?_)
   | (simp only [hgb, go_sem, Int.reduceToNat, ↓reduceIte, reduceCtorEq, Nat.reduceEqDiff, Nat.reduceAdd, Nat.reduceMul, Nat.reduceLT, Nat.reduceLeDiff, Nat.reduceBEq, Int.reduceBEq, Int.reduceBNe, Int.reduceEq, Int.reduceLT, Int.reduceLE, Int.reduceGE, Int.reduceGT, boxB, listB, bestB]; clear hgb)
   | simp only [go_sem, Int.reduceToNat, ↓reduceIte, reduceCtorEq, Nat.reduceEqDiff, Nat.reduceAdd, Nat.reduceMul, Nat.reduceLT, Nat.reduceLeDiff, Nat.reduceBEq, Int.reduceBEq, Int.reduceBNe, Int.reduceEq, Int.reduceLT, Int.reduceLE, Int.reduceGE, Int.reduceGT, boxB, listB, bestB, hAll]
   | (refine ite_guard (fun hg => ?_) (fun hg => ?_) <;> (try simp only [Bool.not_eq_true, Bool.not_eq_false, Decidable.not_not] at hg) <;> (first | have hgb : (_ : Bool) = _ := hg | have hgb := ff hg | have hgb := tt hg))
   | (refine ⟨fun hc => ht _ ?_, fun hc => hf _ ?_⟩ <;> clear ht hf KT KF)
   | fail)
  refine w_loop [0, 1, 2, 6, 7] [1000, 1001, 1002] (σ := List Ht × Nat) (fun k' st => st = mk [(0, .c (.ifc 75 false [.mp 1002 0 2])), (1, .c (.t (.int .i64 0))), (2, .c (.t (.int .i64 n))), (6, .c (.t (.bool false))), (7, .c (.t (.int .i64 k'.2)))] (bh k m k'.1) ∧ k'.1.length = l.length ∧ k'.2 ≤ l.length ∧ hdn m n k'.1 k'.2 = z) (fun k' => n - k'.2) (l, 0) ?_ ?_
  · simp only [go_sem, Int.reduceToNat, ↓reduceIte, reduceCtorEq, Nat.reduceEqDiff, Nat.reduceAdd, Nat.reduceMul, Nat.reduceLT, Nat.reduceLeDiff, Nat.reduceBEq, Int.reduceBEq, Int.reduceBNe, Int.reduceEq, Int.reduceLT, Int.reduceLE, Int.reduceGE, Int.reduceGT, mk_keep, keepL, List.mem_cons, List.not_mem_nil, Nat.reduceEqDiff, Nat.zero_ne_one, Nat.one_ne_zero, reduceCtorEq, or_false, false_or, or_true, true_or, or_self, eq_self, ↓reduceIte]
    repeat' (first | exact hz.symm | exact Nat.zero_le _ | rfl | trivial | apply And.intro)
  rintro ⟨l', i⟩ st ⟨rfl, h1, h0, h2⟩
  simp only at h1 h0 h2 ⊢
  rw [hdn] at h2
  have g1 : IntKind.wrap .i64 (IntKind.wrap .i64 (2 * (i : Int)) + 1) = ((2 * i + 1 : Nat) : Int) := by
    have g0 : IntKind.wrap .i64 (2 * (i : Int)) = 2 * i := wI (by omega) (by omega)
    rw [g0, wI (by omega) (by omega)]; omega
  by_cases hlt : 2 * i + 1 < n
  · rw [dif_pos hlt] at h2
    have f1 := ff (show ¬ ((2 * i + 1 : Nat) : Int) ≥ n by omega)
    have f2 := ff (show ¬ ((2 * i + 1 : Nat) : Int) < 0 by omega)
    have g2 : IntKind.wrap .i64 (((2 * i + 1 : Nat) : Int) + 1) = ((2 * i + 2 : Nat) : Int) := by rw [wI (by omega) (by omega)]; omega
    by_cases hj2 : 2 * i + 2 < n
    · have f3 := tt (show ((2 * i + 2 : Nat) : Int) < n by omega)
      have hlj := rless_spec k m l' (2 * i + 2) (2 * i + 1) (by omega) (by omega)
      rw [hg_get (by omega), hg_get (by omega)] at hlj
      by_cases hb : less m (hg l' (2 * i + 1)) (hg l' (2 * i + 2)) = true
      · rw [hb] at hlj
        have hch_ : hch m n l' i = 2 * i + 2 := by rw [hch, if_pos ⟨hj2, hb⟩]
        have hls := rless_spec k m l' (2 * i + 2) i (by omega) (by omega)
        rw [hg_get (by omega), hg_get (by omega)] at hls
        rw [hch_] at h2
        by_cases hle : less m (hg l' i) (hg l' (2 * i + 2)) = true
        · rw [if_pos hle] at h2
          have hsw := rswap_spec k m l' i (2 * i + 2) (by omega) (by omega)
          rw [hle] at hls
          repeat' (first
           | (with_reducible first | refine s_seq ?_ | refine s_block ?_ | refine s_region fun kr hr => ?_)
           | (with_reducible refine s_text tOk [1000, 1001, 1002, 1003] (by kernel_rfl) (by simp [HeapIn, namers, namerDst, namerOp, namedOp, namedFn, Blk.has, hasRows, hasL, CV.has, hasRows_up, hasRows_append, boxB, listB, bestB, g1, f1, f2, g2, f3]; (try ((repeat' apply And.intro) <;> intros <;> omega))) fun kr hr => ?_)
           | (with_reducible first | refine s_op fun K' hk => ?_ | refine t_op fun K' hk => ?_ | (refine hk _ ?_; clear hk K') | (refine ht _ ?_; clear ht hf KT KF) | (refine hf _ ?_; clear ht hf KT KF) | ((first | refine s_nil ?_ | refine t_nil ?_); refine hr _ ?_; clear hr kr))
           | ((with_reducible refine n_seqK [0, 1, 2, 3, 4, 5, 6, 7, 8, 9, 10, 21, 33, 39] [1000, 1001, 1002] ?_); simp only [mk_keep, keepL, List.mem_cons, List.not_mem_nil, Nat.reduceEqDiff, Nat.zero_ne_one, Nat.one_ne_zero, reduceCtorEq, or_false, false_or, or_true, true_or, or_self, eq_self, ↓reduceIte])
           | (with_reducible first | refine s_cond fun KT KF ht hf => ?_ | refine s_skip ?_)
           | ((with_reducible refine s_long ?_); simp only [List.cons_append, List.nil_append])
           | (with_reducible first | refine s_exit ?_ | refine s_ret ?_ | refine e_seq ?_ | refine r_seq ?_ | refine n_block ?_ | refine e_block ?_ | refine r_block ?_ | refine e_loop ?_ | refine r_loop ?_ | refine e_round ?_ | refine r_round ?_ | refine s_round ?_ | refine f_block ?_ (by decide) | refine r_res ?_ | refine n_res ?_)
           | (simp only [hgb, go_sem, Int.reduceToNat, ↓reduceIte, reduceCtorEq, Nat.reduceEqDiff, Nat.reduceAdd, Nat.reduceMul, Nat.reduceLT, Nat.reduceLeDiff, Nat.reduceBEq, Int.reduceBEq, Int.reduceBNe, Int.reduceEq, Int.reduceLT, Int.reduceLE, Int.reduceGE, Int.reduceGT, boxB, listB, bestB, g1, f1, f2, g2, f3, callE, resSV, AV.flat, CV.flat, TV.flat]; clear hgb)
           | simp only [go_sem, Int.reduceToNat, ↓reduceIte, reduceCtorEq, Nat.reduceEqDiff, Nat.reduceAdd, Nat.reduceMul, Nat.reduceLT, Nat.reduceLeDiff, Nat.reduceBEq, Int.reduceBEq, Int.reduceBNe, Int.reduceEq, Int.reduceLT, Int.reduceLE, Int.reduceGE, Int.reduceGT, boxB, listB, bestB, g1, f1, f2, g2, f3, callE, resSV, AV.flat, CV.flat, TV.flat, hAll]
           | refine Or.inr (m_callN [(1000,1000),(1001,1001),(1002,1002)] [1000,1001,1002] [1000,1001,1002] [] [1000, 1001, 1002] ⟨fun _ _ => rfl, hlj⟩ rfl rfl (by first | (simp [AV.ren, CV.ren, renL, renL_map, tbl, boxB, listB, bestB]; done) | fail) rfl rfl rfl rfl (by decide) (by first | (simp [hAll, hRen, mk_heap, hL, tbl, Blk.ren, renRows_up, renRows, renL, CV.ren, boxB, listB, bestB]; done) | fail) (by first | (simp [Blk.has, hasRows, hasL, CV.has, hasRows_up, boxB, listB, bestB]; done) | fail) (by first | (intro k; simp [hasA, AV.has, CV.has, hasL, Blk.has, hasRows, hasRows_up, boxB, listB, bestB]; done) | (intro k; simp [hasA, AV.has, CV.has, hasL, Blk.has, hasRows, hasRows_up, boxB, listB, bestB]; omega) | fail) ?_)
           | refine (m_callN [(1000,1000),(1001,1001),(1002,1002)] [1000,1001,1002] [1000,1001,1002] [] [1000, 1001, 1002] ⟨fun _ _ => rfl, hlj⟩ rfl rfl (by first | (simp [AV.ren, CV.ren, renL, renL_map, tbl, boxB, listB, bestB]; done) | fail) rfl rfl rfl rfl (by decide) (by first | (simp [hAll, hRen, mk_heap, hL, tbl, Blk.ren, renRows_up, renRows, renL, CV.ren, boxB, listB, bestB]; done) | fail) (by first | (simp [Blk.has, hasRows, hasL, CV.has, hasRows_up, boxB, listB, bestB]; done) | fail) (by first | (intro k; simp [hasA, AV.has, CV.has, hasL, Blk.has, hasRows, hasRows_up, boxB, listB, bestB]; done) | (intro k; simp [hasA, AV.has, CV.has, hasL, Blk.has, hasRows, hasRows_up, boxB, listB, bestB]; omega) | fail) ?_)
           | refine Or.inr (m_callN [(1000,1000),(1001,1001),(1002,1002)] [1000,1001,1002] [1000,1001,1002] [] [1000, 1001, 1002] ⟨fun _ _ => rfl, hls⟩ rfl rfl (by first | (simp [AV.ren, CV.ren, renL, renL_map, tbl, boxB, listB, bestB]; done) | fail) rfl rfl rfl rfl (by decide) (by first | (simp [hAll, hRen, mk_heap, hL, tbl, Blk.ren, renRows_up, renRows, renL, CV.ren, boxB, listB, bestB]; done) | fail) (by first | (simp [Blk.has, hasRows, hasL, CV.has, hasRows_up, boxB, listB, bestB]; done) | fail) (by first | (intro k; simp [hasA, AV.has, CV.has, hasL, Blk.has, hasRows, hasRows_up, boxB, listB, bestB]; done) | (intro k; simp [hasA, AV.has, CV.has, hasL, Blk.has, hasRows, hasRows_up, boxB, listB, bestB]; omega) | fail) ?_)
           | refine (m_callN [(1000,1000),(1001,1001),(1002,1002)] [1000,1001,1002] [1000,1001,1002] [] [1000, 1001, 1002] ⟨fun _ _ => rfl, hls⟩ rfl rfl (by first | (simp [AV.ren, CV.ren, renL, renL_map, tbl, boxB, listB, bestB]; done) | fail) rfl rfl rfl rfl (by decide) (by first | (simp [hAll, hRen, mk_heap, hL, tbl, Blk.ren, renRows_up, renRows, renL, CV.ren, boxB, listB, bestB]; done) | fail) (by first | (simp [Blk.has, hasRows, hasL, CV.has, hasRows_up, boxB, listB, bestB]; done) | fail) (by first | (intro k; simp [hasA, AV.has, CV.has, hasL, Blk.has, hasRows, hasRows_up, boxB, listB, bestB]; done) | (intro k; simp [hasA, AV.has, CV.has, hasL, Blk.has, hasRows, hasRows_up, boxB, listB, bestB]; omega) | fail) ?_)
           | refine Or.inr (m_callN [(1000,1000),(1001,1001),(1002,1002)] [1000,1001,1002] [1000,1001,1002] [] [1000, 1001, 1002] ⟨fun _ _ => rfl, hsw⟩ rfl rfl (by first | (simp [AV.ren, CV.ren, renL, renL_map, tbl, boxB, listB, bestB]; done) | fail) rfl rfl rfl rfl (by decide) (by first | (simp [hAll, hRen, mk_heap, hL, tbl, Blk.ren, renRows_up, renRows, renL, CV.ren, boxB, listB, bestB]; done) | fail) (by first | (simp [Blk.has, hasRows, hasL, CV.has, hasRows_up, boxB, listB, bestB]; done) | fail) (by first | (intro k; simp [hasA, AV.has, CV.has, hasL, Blk.has, hasRows, hasRows_up, boxB, listB, bestB]; done) | (intro k; simp [hasA, AV.has, CV.has, hasL, Blk.has, hasRows, hasRows_up, boxB, listB, bestB]; omega) | fail) ?_)
           | refine (m_callN [(1000,1000),(1001,1001),(1002,1002)] [1000,1001,1002] [1000,1001,1002] [] [1000, 1001, 1002] ⟨fun _ _ => rfl, hsw⟩ rfl rfl (by first | (simp [AV.ren, CV.ren, renL, renL_map, tbl, boxB, listB, bestB]; done) | fail) rfl rfl rfl rfl (by decide) (by first | (simp [hAll, hRen, mk_heap, hL, tbl, Blk.ren, renRows_up, renRows, renL, CV.ren, boxB, listB, bestB]; done) | fail) (by first | (simp [Blk.has, hasRows, hasL, CV.has, hasRows_up, boxB, listB, bestB]; done) | fail) (by first | (intro k; simp [hasA, AV.has, CV.has, hasL, Blk.has, hasRows, hasRows_up, boxB, listB, bestB]; done) | (intro k; simp [hasA, AV.has, CV.has, hasL, Blk.has, hasRows, hasRows_up, boxB, listB, bestB]; omega) | fail) ?_)
           | (refine ite_guard (fun hg => ?_) (fun hg => ?_) <;> (try simp only [Bool.not_eq_true, Bool.not_eq_false, Decidable.not_not] at hg) <;> (first | have hgb : (_ : Bool) = _ := hg | have hgb := ff hg | have hgb := tt hg))
           | (refine ⟨fun hc => ht _ ?_, fun hc => hf _ ?_⟩ <;> clear ht hf KT KF)
           | fail)
          refine n_loop (hswap l' i (2 * i + 2), 2 * i + 2) [0, 1, 2, 6, 7] [1000, 1001, 1002] ⟨?_, ?_, ?_, ?_⟩ (by simp only; omega)
          · simp only [mk_keep, keepL, List.mem_cons, List.not_mem_nil, Nat.reduceEqDiff, Nat.zero_ne_one, Nat.one_ne_zero, reduceCtorEq, or_false, false_or, or_true, true_or, or_self, eq_self, ↓reduceIte, bh, boxB, listB, bestB, hswap_len]
          · rw [hswap_len]; exact h1
          · simp only; omega
          · exact h2
        · rw [if_neg hle] at h2
          have f8 : z.1 = l' := by rw [← h2]
          have f9 : z.2 = i := by rw [← h2]
          have hle2 : less m (hg l' i) (hg l' (2 * i + 2)) = false := by simpa using hle
          rw [hle2] at hls
          repeat' (first
           | (with_reducible first | refine s_seq ?_ | refine s_block ?_ | refine s_region fun kr hr => ?_)
           | (with_reducible refine s_text tOk [1000, 1001, 1002, 1003] (by kernel_rfl) (by simp [HeapIn, namers, namerDst, namerOp, namedOp, namedFn, Blk.has, hasRows, hasL, CV.has, hasRows_up, hasRows_append, boxB, listB, bestB, g1, f1, f2, f8, f9, ← h1, g2, f3]; (try ((repeat' apply And.intro) <;> intros <;> omega))) fun kr hr => ?_)
           | (with_reducible first | refine s_op fun K' hk => ?_ | refine t_op fun K' hk => ?_ | (refine hk _ ?_; clear hk K') | (refine ht _ ?_; clear ht hf KT KF) | (refine hf _ ?_; clear ht hf KT KF) | ((first | refine s_nil ?_ | refine t_nil ?_); refine hr _ ?_; clear hr kr))
           | ((with_reducible refine n_seqK [0, 1, 2, 3, 4, 5, 6, 7, 8, 9, 10, 21, 33, 39] [1000, 1001, 1002] ?_); simp only [mk_keep, keepL, List.mem_cons, List.not_mem_nil, Nat.reduceEqDiff, Nat.zero_ne_one, Nat.one_ne_zero, reduceCtorEq, or_false, false_or, or_true, true_or, or_self, eq_self, ↓reduceIte])
           | (with_reducible first | refine s_cond fun KT KF ht hf => ?_ | refine s_skip ?_)
           | ((with_reducible refine s_long ?_); simp only [List.cons_append, List.nil_append])
           | (with_reducible first | refine s_exit ?_ | refine s_ret ?_ | refine e_seq ?_ | refine r_seq ?_ | refine n_block ?_ | refine e_block ?_ | refine r_block ?_ | refine e_loop ?_ | refine r_loop ?_ | refine e_round ?_ | refine r_round ?_ | refine s_round ?_ | refine f_block ?_ (by decide) | refine r_res ?_ | refine n_res ?_)
           | (simp only [hgb, go_sem, Int.reduceToNat, ↓reduceIte, reduceCtorEq, Nat.reduceEqDiff, Nat.reduceAdd, Nat.reduceMul, Nat.reduceLT, Nat.reduceLeDiff, Nat.reduceBEq, Int.reduceBEq, Int.reduceBNe, Int.reduceEq, Int.reduceLT, Int.reduceLE, Int.reduceGE, Int.reduceGT, boxB, listB, bestB, g1, f1, f2, f8, f9, ← h1, g2, f3, callE, resSV, AV.flat, CV.flat, TV.flat]; clear hgb)
           | simp only [go_sem, Int.reduceToNat, ↓reduceIte, reduceCtorEq, Nat.reduceEqDiff, Nat.reduceAdd, Nat.reduceMul, Nat.reduceLT, Nat.reduceLeDiff, Nat.reduceBEq, Int.reduceBEq, Int.reduceBNe, Int.reduceEq, Int.reduceLT, Int.reduceLE, Int.reduceGE, Int.reduceGT, boxB, listB, bestB, g1, f1, f2, f8, f9, ← h1, g2, f3, callE, resSV, AV.flat, CV.flat, TV.flat, hAll]
           | refine Or.inr (m_callN [(1000,1000),(1001,1001),(1002,1002)] [1000,1001,1002] [1000,1001,1002] [] [1000, 1001, 1002] ⟨fun _ _ => rfl, hlj⟩ rfl rfl (by first | (simp [AV.ren, CV.ren, renL, renL_map, tbl, boxB, listB, bestB]; done) | fail) rfl rfl rfl rfl (by decide) (by first | (simp [hAll, hRen, mk_heap, hL, tbl, Blk.ren, renRows_up, renRows, renL, CV.ren, boxB, listB, bestB]; done) | fail) (by first | (simp [Blk.has, hasRows, hasL, CV.has, hasRows_up, boxB, listB, bestB]; done) | fail) (by first | (intro k; simp [hasA, AV.has, CV.has, hasL, Blk.has, hasRows, hasRows_up, boxB, listB, bestB]; done) | (intro k; simp [hasA, AV.has, CV.has, hasL, Blk.has, hasRows, hasRows_up, boxB, listB, bestB]; omega) | fail) ?_)
           | refine (m_callN [(1000,1000),(1001,1001),(1002,1002)] [1000,1001,1002] [1000,1001,1002] [] [1000, 1001, 1002] ⟨fun _ _ => rfl, hlj⟩ rfl rfl (by first | (simp [AV.ren, CV.ren, renL, renL_map, tbl, boxB, listB, bestB]; done) | fail) rfl rfl rfl rfl (by decide) (by first | (simp [hAll, hRen, mk_heap, hL, tbl, Blk.ren, renRows_up, renRows, renL, CV.ren, boxB, listB, bestB]; done) | fail) (by first | (simp [Blk.has, hasRows, hasL, CV.has, hasRows_up, boxB, listB, bestB]; done) | fail) (by first | (intro k; simp [hasA, AV.has, CV.has, hasL, Blk.has, hasRows, hasRows_up, boxB, listB, bestB]; done) | (intro k; simp [hasA, AV.has, CV.has, hasL, Blk.has, hasRows, hasRows_up, boxB, listB, bestB]; omega) | fail) ?_)
           | refine Or.inr (m_callN [(1000,1000),(1001,1001),(1002,1002)] [1000,1001,1002] [1000,1001,1002] [] [1000, 1001, 1002] ⟨fun _ _ => rfl, hls⟩ rfl rfl (by first | (simp [AV.ren, CV.ren, renL, renL_map, tbl, boxB, listB, bestB]; done) | fail) rfl rfl rfl rfl (by decide) (by first | (simp [hAll, hRen, mk_heap, hL, tbl, Blk.ren, renRows_up, renRows, renL, CV.ren, boxB, listB, bestB]; done) | fail) (by first | (simp [Blk.has, hasRows, hasL, CV.has, hasRows_up, boxB, listB, bestB]; done) | fail) (by first | (intro k; simp [hasA, AV.has, CV.has, hasL, Blk.has, hasRows, hasRows_up, boxB, listB, bestB]; done) | (intro k; simp [hasA, AV.has, CV.has, hasL, Blk.has, hasRows, hasRows_up, boxB, listB, bestB]; omega) | fail) ?_)
           | refine (m_callN [(1000,1000),(1001,1001),(1002,1002)] [1000,1001,1002] [1000,1001,1002] [] [1000, 1001, 1002] ⟨fun _ _ => rfl, hls⟩ rfl rfl (by first | (simp [AV.ren, CV.ren, renL, renL_map, tbl, boxB, listB, bestB]; done) | fail) rfl rfl rfl rfl (by decide) (by first | (simp [hAll, hRen, mk_heap, hL, tbl, Blk.ren, renRows_up, renRows, renL, CV.ren, boxB, listB, bestB]; done) | fail) (by first | (simp [Blk.has, hasRows, hasL, CV.has, hasRows_up, boxB, listB, bestB]; done) | fail) (by first | (intro k; simp [hasA, AV.has, CV.has, hasL, Blk.has, hasRows, hasRows_up, boxB, listB, bestB]; done) | (intro k; simp [hasA, AV.has, CV.has, hasL, Blk.has, hasRows, hasRows_up, boxB, listB, bestB]; omega) | fail) ?_)
           | (refine ite_guard (fun hg => ?_) (fun hg => ?_) <;> (try simp only [Bool.not_eq_true, Bool.not_eq_false, Decidable.not_not] at hg) <;> (first | have hgb : (_ : Bool) = _ := hg | have hgb := ff hg | have hgb := tt hg))
           | (refine ⟨fun hc => ht _ ?_, fun hc => hf _ ?_⟩ <;> clear ht hf KT KF)
           | fail)
      · have hb2 : less m (hg l' (2 * i + 1)) (hg l' (2 * i + 2)) = false := by simpa using hb
        rw [hb2] at hlj
        have hch_ : hch m n l' i = 2 * i + 1 := by rw [hch, if_neg (fun h => hb h.2)]
        have hls := rless_spec k m l' (2 * i + 1) i (by omega) (by omega)
        rw [hg_get (by omega), hg_get (by omega)] at hls
        rw [hch_] at h2
        by_cases hle : less m (hg l' i) (hg l' (2 * i + 1)) = true
        · rw [if_pos hle] at h2
          have hsw := rswap_spec k m l' i (2 * i + 1) (by omega) (by omega)
          rw [hle] at hls
          repeat' (first
           | (with_reducible first | refine s_seq ?_ | refine s_block ?_ | refine s_region fun kr hr => ?_)
           | (with_reducible refine s_text tOk [1000, 1001, 1002, 1003] (by kernel_rfl) (by simp [HeapIn, namers, namerDst, namerOp, namedOp, namedFn, Blk.has, hasRows, hasL, CV.has, hasRows_up, hasRows_append, boxB, listB, bestB, g1, f1, f2, g2, f3]; (try ((repeat' apply And.intro) <;> intros <;> omega))) fun kr hr => ?_)
           | (with_reducible first | refine s_op fun K' hk => ?_ | refine t_op fun K' hk => ?_ | (refine hk _ ?_; clear hk K') | (refine ht _ ?_; clear ht hf KT KF) | (refine hf _ ?_; clear ht hf KT KF) | ((first | refine s_nil ?_ | refine t_nil ?_); refine hr _ ?_; clear hr kr))
           | ((with_reducible refine n_seqK [0, 1, 2, 3, 4, 5, 6, 7, 8, 9, 10, 21, 33, 39] [1000, 1001, 1002] ?_); simp only [mk_keep, keepL, List.mem_cons, List.not_mem_nil, Nat.reduceEqDiff, Nat.zero_ne_one, Nat.one_ne_zero, reduceCtorEq, or_false, false_or, or_true, true_or, or_self, eq_self, ↓reduceIte])
           | (with_reducible first | refine s_cond fun KT KF ht hf => ?_ | refine s_skip ?_)
           | ((with_reducible refine s_long ?_); simp only [List.cons_append, List.nil_append])
           | (with_reducible first | refine s_exit ?_ | refine s_ret ?_ | refine e_seq ?_ | refine r_seq ?_ | refine n_block ?_ | refine e_block ?_ | refine r_block ?_ | refine e_loop ?_ | refine r_loop ?_ | refine e_round ?_ | refine r_round ?_ | refine s_round ?_ | refine f_block ?_ (by decide) | refine r_res ?_ | refine n_res ?_)
           | (simp only [hgb, go_sem, Int.reduceToNat, ↓reduceIte, reduceCtorEq, Nat.reduceEqDiff, Nat.reduceAdd, Nat.reduceMul, Nat.reduceLT, Nat.reduceLeDiff, Nat.reduceBEq, Int.reduceBEq, Int.reduceBNe, Int.reduceEq, Int.reduceLT, Int.reduceLE, Int.reduceGE, Int.reduceGT, boxB, listB, bestB, g1, f1, f2, g2, f3, callE, resSV, AV.flat, CV.flat, TV.flat]; clear hgb)
           | simp only [go_sem, Int.reduceToNat, ↓reduceIte, reduceCtorEq, Nat.reduceEqDiff, Nat.reduceAdd, Nat.reduceMul, Nat.reduceLT, Nat.reduceLeDiff, Nat.reduceBEq, Int.reduceBEq, Int.reduceBNe, Int.reduceEq, Int.reduceLT, Int.reduceLE, Int.reduceGE, Int.reduceGT, boxB, listB, bestB, g1, f1, f2, g2, f3, callE, resSV, AV.flat, CV.flat, TV.flat, hAll]
           | refine Or.inr (m_callN [(1000,1000),(1001,1001),(1002,1002)] [1000,1001,1002] [1000,1001,1002] [] [1000, 1001, 1002] ⟨fun _ _ => rfl, hlj⟩ rfl rfl (by first | (simp [AV.ren, CV.ren, renL, renL_map, tbl, boxB, listB, bestB]; done) | fail) rfl rfl rfl rfl (by decide) (by first | (simp [hAll, hRen, mk_heap, hL, tbl, Blk.ren, renRows_up, renRows, renL, CV.ren, boxB, listB, bestB]; done) | fail) (by first | (simp [Blk.has, hasRows, hasL, CV.has, hasRows_up, boxB, listB, bestB]; done) | fail) (by first | (intro k; simp [hasA, AV.has, CV.has, hasL, Blk.has, hasRows, hasRows_up, boxB, listB, bestB]; done) | (intro k; simp [hasA, AV.has, CV.has, hasL, Blk.has, hasRows, hasRows_up, boxB, listB, bestB]; omega) | fail) ?_)
           | refine (m_callN [(1000,1000),(1001,1001),(1002,1002)] [1000,1001,1002] [1000,1001,1002] [] [1000, 1001, 1002] ⟨fun _ _ => rfl, hlj⟩ rfl rfl (by first | (simp [AV.ren, CV.ren, renL, renL_map, tbl, boxB, listB, bestB]; done) | fail) rfl rfl rfl rfl (by decide) (by first | (simp [hAll, hRen, mk_heap, hL, tbl, Blk.ren, renRows_up, renRows, renL, CV.ren, boxB, listB, bestB]; done) | fail) (by first | (simp [Blk.has, hasRows, hasL, CV.has, hasRows_up, boxB, listB, bestB]; done) | fail) (by first | (intro k; simp [hasA, AV.has, CV.has, hasL, Blk.has, hasRows, hasRows_up, boxB, listB, bestB]; done) | (intro k; simp [hasA, AV.has, CV.has, hasL, Blk.has, hasRows, hasRows_up, boxB, listB, bestB]; omega) | fail) ?_)
           | refine Or.inr (m_callN [(1000,1000),(1001,1001),(1002,1002)] [1000,1001,1002] [1000,1001,1002] [] [1000, 1001, 1002] ⟨fun _ _ => rfl, hls⟩ rfl rfl (by first | (simp [AV.ren, CV.ren, renL, renL_map, tbl, boxB, listB, bestB]; done) | fail) rfl rfl rfl rfl (by decide) (by first | (simp [hAll, hRen, mk_heap, hL, tbl, Blk.ren, renRows_up, renRows, renL, CV.ren, boxB, listB, bestB]; done) | fail) (by first | (simp [Blk.has, hasRows, hasL, CV.has, hasRows_up, boxB, listB, bestB]; done) | fail) (by first | (intro k; simp [hasA, AV.has, CV.has, hasL, Blk.has, hasRows, hasRows_up, boxB, listB, bestB]; done) | (intro k; simp [hasA, AV.has, CV.has, hasL, Blk.has, hasRows, hasRows_up, boxB, listB, bestB]; omega) | fail) ?_)
           | refine (m_callN [(1000,1000),(1001,1001),(1002,1002)] [1000,1001,1002] [1000,1001,1002] [] [1000, 1001, 1002] ⟨fun _ _ => rfl, hls⟩ rfl rfl (by first | (simp [AV.ren, CV.ren, renL, renL_map, tbl, boxB, listB, bestB]; done) | fail) rfl rfl rfl rfl (by decide) (by first | (simp [hAll, hRen, mk_heap, hL, tbl, Blk.ren, renRows_up, renRows, renL, CV.ren, boxB, listB, bestB]; done) | fail) (by first | (simp [Blk.has, hasRows, hasL, CV.has, hasRows_up, boxB, listB, bestB]; done) | fail) (by first | (intro k; simp [hasA, AV.has, CV.has, hasL, Blk.has, hasRows, hasRows_up, boxB, listB, bestB]; done) | (intro k; simp [hasA, AV.has, CV.has, hasL, Blk.has, hasRows, hasRows_up, boxB, listB, bestB]; omega) | fail) ?_)
           | refine Or.inr (m_callN [(1000,1000),(1001,1001),(1002,1002)] [1000,1001,1002] [1000,1001,1002] [] [1000, 1001, 1002] ⟨fun _ _ => rfl, hsw⟩ rfl rfl (by first | (simp [AV.ren, CV.ren, renL, renL_map, tbl, boxB, listB, bestB]; done) | fail) rfl rfl rfl rfl (by decide) (by first | (simp [hAll, hRen, mk_heap, hL, tbl, Blk.ren, renRows_up, renRows, renL, CV.ren, boxB, listB, bestB]; done) | fail) (by first | (simp [Blk.has, hasRows, hasL, CV.has, hasRows_up, boxB, listB, bestB]; done) | fail) (by first | (intro k; simp [hasA, AV.has, CV.has, hasL, Blk.has, hasRows, hasRows_up, boxB, listB, bestB]; done) | (intro k; simp [hasA, AV.has, CV.has, hasL, Blk.has, hasRows, hasRows_up, boxB, listB, bestB]; omega) | fail) ?_)
           | refine (m_callN [(1000,1000),(1001,1001),(1002,1002)] [1000,1001,1002] [1000,1001,1002] [] [1000, 1001, 1002] ⟨fun _ _ => rfl, hsw⟩ rfl rfl (by first | (simp [AV.ren, CV.ren, renL, renL_map, tbl, boxB, listB, bestB]; done) | fail) rfl rfl rfl rfl (by decide) (by first | (simp [hAll, hRen, mk_heap, hL, tbl, Blk.ren, renRows_up, renRows, renL, CV.ren, boxB, listB, bestB]; done) | fail) (by first | (simp [Blk.has, hasRows, hasL, CV.has, hasRows_up, boxB, listB, bestB]; done) | fail) (by first | (intro k; simp [hasA, AV.has, CV.has, hasL, Blk.has, hasRows, hasRows_up, boxB, listB, bestB]; done) | (intro k; simp [hasA, AV.has, CV.has, hasL, Blk.has, hasRows, hasRows_up, boxB, listB, bestB]; omega) | fail) ?_)
           | (refine ite_guard (fun hg => ?_) (fun hg => ?_) <;> (try simp only [Bool.not_eq_true, Bool.not_eq_false, Decidable.not_not] at hg) <;> (first | have hgb : (_ : Bool) = _ := hg | have hgb := ff hg | have hgb := tt hg))
           | (refine ⟨fun hc => ht _ ?_, fun hc => hf _ ?_⟩ <;> clear ht hf KT KF)
           | fail)
          refine n_loop (hswap l' i (2 * i + 1), 2 * i + 1) [0, 1, 2, 6, 7] [1000, 1001, 1002] ⟨?_, ?_, ?_, ?_⟩ (by simp only; omega)
          · simp only [mk_keep, keepL, List.mem_cons, List.not_mem_nil, Nat.reduceEqDiff, Nat.zero_ne_one, Nat.one_ne_zero, reduceCtorEq, or_false, false_or, or_true, true_or, or_self, eq_self, ↓reduceIte, bh, boxB, listB, bestB, hswap_len]
          · rw [hswap_len]; exact h1
          · simp only; omega
          · exact h2
        · rw [if_neg hle] at h2
          have f8 : z.1 = l' := by rw [← h2]
          have f9 : z.2 = i := by rw [← h2]
          have hle2 : less m (hg l' i) (hg l' (2 * i + 1)) = false := by simpa using hle
          rw [hle2] at hls
          repeat' (first
           | (with_reducible first | refine s_seq ?_ | refine s_block ?_ | refine s_region fun kr hr => ?_)
           | (with_reducible refine s_text tOk [1000, 1001, 1002, 1003] (by kernel_rfl) (by simp [HeapIn, namers, namerDst, namerOp, namedOp, namedFn, Blk.has, hasRows, hasL, CV.has, hasRows_up, hasRows_append, boxB, listB, bestB, g1, f1, f2, f8, f9, ← h1, g2, f3]; (try ((repeat' apply And.intro) <;> intros <;> omega))) fun kr hr => ?_)
           | (with_reducible first | refine s_op fun K' hk => ?_ | refine t_op fun K' hk => ?_ | (refine hk _ ?_; clear hk K') | (refine ht _ ?_; clear ht hf KT KF) | (refine hf _ ?_; clear ht hf KT KF) | ((first | refine s_nil ?_ | refine t_nil ?_); refine hr _ ?_; clear hr kr))
           | ((with_reducible refine n_seqK [0, 1, 2, 3, 4, 5, 6, 7, 8, 9, 10, 21, 33, 39] [1000, 1001, 1002] ?_); simp only [mk_keep, keepL, List.mem_cons, List.not_mem_nil, Nat.reduceEqDiff, Nat.zero_ne_one, Nat.one_ne_zero, reduceCtorEq, or_false, false_or, or_true, true_or, or_self, eq_self, ↓reduceIte])
           | (with_reducible first | refine s_cond fun KT KF ht hf => ?_ | refine s_skip ?_)
           | ((with_reducible refine s_long ?_); simp only [List.cons_append, List.nil_append])
           | (with_reducible first | refine s_exit ?_ | refine s_ret ?_ | refine e_seq ?_ | refine r_seq ?_ | refine n_block ?_ | refine e_block ?_ | refine r_block ?_ | refine e_loop ?_ | refine r_loop ?_ | refine e_round ?_ | refine r_round ?_ | refine s_round ?_ | refine f_block ?_ (by decide) | refine r_res ?_ | refine n_res ?_)
           | (simp only [hgb, go_sem, Int.reduceToNat, ↓reduceIte, reduceCtorEq, Nat.reduceEqDiff, Nat.reduceAdd, Nat.reduceMul, Nat.reduceLT, Nat.reduceLeDiff, Nat.reduceBEq, Int.reduceBEq, Int.reduceBNe, Int.reduceEq, Int.reduceLT, Int.reduceLE, Int.reduceGE, Int.reduceGT, boxB, listB, bestB, g1, f1, f2, f8, f9, ← h1, g2, f3, callE, resSV, AV.flat, CV.flat, TV.flat]; clear hgb)
           | simp only [go_sem, Int.reduceToNat, ↓reduceIte, reduceCtorEq, Nat.reduceEqDiff, Nat.reduceAdd, Nat.reduceMul, Nat.reduceLT, Nat.reduceLeDiff, Nat.reduceBEq, Int.reduceBEq, Int.reduceBNe, Int.reduceEq, Int.reduceLT, Int.reduceLE, Int.reduceGE, Int.reduceGT, boxB, listB, bestB, g1, f1, f2, f8, f9, ← h1, g2, f3, callE, resSV, AV.flat, CV.flat, TV.flat, hAll]
           | refine Or.inr (m_callN [(1000,1000),(1001,1001),(1002,1002)] [1000,1001,1002] [1000,1001,1002] [] [1000, 1001, 1002] ⟨fun _ _ => rfl, hlj⟩ rfl rfl (by first | (simp [AV.ren, CV.ren, renL, renL_map, tbl, boxB, listB, bestB]; done) | fail) rfl rfl rfl rfl (by decide) (by first | (simp [hAll, hRen, mk_heap, hL, tbl, Blk.ren, renRows_up, renRows, renL, CV.ren, boxB, listB, bestB]; done) | fail) (by first | (simp [Blk.has, hasRows, hasL, CV.has, hasRows_up, boxB, listB, bestB]; done) | fail) (by first | (intro k; simp [hasA, AV.has, CV.has, hasL, Blk.has, hasRows, hasRows_up, boxB, listB, bestB]; done) | (intro k; simp [hasA, AV.has, CV.has, hasL, Blk.has, hasRows, hasRows_up, boxB, listB, bestB]; omega) | fail) ?_)
           | refine (m_callN [(1000,1000),(1001,1001),(1002,1002)] [1000,1001,1002] [1000,1001,1002] [] [1000, 1001, 1002] ⟨fun _ _ => rfl, hlj⟩ rfl rfl (by first | (simp [AV.ren, CV.ren, renL, renL_map, tbl, boxB, listB, bestB]; done) | fail) rfl rfl rfl rfl (by decide) (by first | (simp [hAll, hRen, mk_heap, hL, tbl, Blk.ren, renRows_up, renRows, renL, CV.ren, boxB, listB, bestB]; done) | fail) (by first | (simp [Blk.has, hasRows, hasL, CV.has, hasRows_up, boxB, listB, bestB]; done) | fail) (by first | (intro k; simp [hasA, AV.has, CV.has, hasL, Blk.has, hasRows, hasRows_up, boxB, listB, bestB]; done) | (intro k; simp [hasA, AV.has, CV.has, hasL, Blk.has, hasRows, hasRows_up, boxB, listB, bestB]; omega) | fail) ?_)
           | refine Or.inr (m_callN [(1000,1000),(1001,1001),(1002,1002)] [1000,1001,1002] [1000,1001,1002] [] [1000, 1001, 1002] ⟨fun _ _ => rfl, hls⟩ rfl rfl (by first | (simp [AV.ren, CV.ren, renL, renL_map, tbl, boxB, listB, bestB]; done) | fail) rfl rfl rfl rfl (by decide) (by first | (simp [hAll, hRen, mk_heap, hL, tbl, Blk.ren, renRows_up, renRows, renL, CV.ren, boxB, listB, bestB]; done) | fail) (by first | (simp [Blk.has, hasRows, hasL, CV.has, hasRows_up, boxB, listB, bestB]; done) | fail) (by first | (intro k; simp [hasA, AV.has, CV.has, hasL, Blk.has, hasRows, hasRows_up, boxB, listB, bestB]; done) | (intro k; simp [hasA, AV.has, CV.has, hasL, Blk.has, hasRows, hasRows_up, boxB, listB, bestB]; omega) | fail) ?_)
           | refine (m_callN [(1000,1000),(1001,1001),(1002,1002)] [1000,1001,1002] [1000,1001,1002] [] [1000, 1001, 1002] ⟨fun _ _ => rfl, hls⟩ rfl rfl (by first | (simp [AV.ren, CV.ren, renL, renL_map, tbl, boxB, listB, bestB]; done) | fail) rfl rfl rfl rfl (by decide) (by first | (simp [hAll, hRen, mk_heap, hL, tbl, Blk.ren, renRows_up, renRows, renL, CV.ren, boxB, listB, bestB]; done) | fail) (by first | (simp [Blk.has, hasRows, hasL, CV.has, hasRows_up, boxB, listB, bestB]; done) | fail) (by first | (intro k; simp [hasA, AV.has, CV.has, hasL, Blk.has, hasRows, hasRows_up, boxB, listB, bestB]; done) | (intro k; simp [hasA, AV.has, CV.has, hasL, Blk.has, hasRows, hasRows_up, boxB, listB, bestB]; omega) | fail) ?_)
           | (refine ite_guard (fun hg => ?_) (fun hg => ?_) <;> (try simp only [Bool.not_eq_true, Bool.not_eq_false, Decidable.not_not] at hg) <;> (first | have hgb : (_ : Bool) = _ := hg | have hgb := ff hg | have hgb := tt hg))
           | (refine ⟨fun hc => ht _ ?_, fun hc => hf _ ?_⟩ <;> clear ht hf KT KF)
           | fail)
    · have f3 := ff (show ¬ ((2 * i + 2 : Nat) : Int) < n by omega)
      have hch_ : hch m n l' i = 2 * i + 1 := by rw [hch, if_neg (fun h => hj2 h.1)]
      have hls := rless_spec k m l' (2 * i + 1) i (by omega) (by omega)
      rw [hg_get (by omega), hg_get (by omega)] at hls
      rw [hch_] at h2
      by_cases hle : less m (hg l' i) (hg l' (2 * i + 1)) = true
      · rw [if_pos hle] at h2
        have hsw := rswap_spec k m l' i (2 * i + 1) (by omega) (by omega)
        rw [hle] at hls
        repeat' (first
         | (with_reducible first | refine s_seq ?_ | refine s_block ?_ | refine s_region fun kr hr => ?_)
         | (with_reducible refine s_text tOk [1000, 1001, 1002, 1003] (by kernel_rfl) (by simp [HeapIn, namers, namerDst, namerOp, namedOp, namedFn, Blk.has, hasRows, hasL, CV.has, hasRows_up, hasRows_append, boxB, listB, bestB, g1, f1, f2, g2, f3]; (try ((repeat' apply And.intro) <;> intros <;> omega))) fun kr hr => ?_)
         | (with_reducible first | refine s_op fun K' hk => ?_ | refine t_op fun K' hk => ?_ | (refine hk _ ?_; clear hk K') | (refine ht _ ?_; clear ht hf KT KF) | (refine hf _ ?_; clear ht hf KT KF) | ((first | refine s_nil ?_ | refine t_nil ?_); refine hr _ ?_; clear hr kr))
         | ((with_reducible refine n_seqK [0, 1, 2, 3, 4, 5, 6, 7, 8, 9, 10, 21, 33, 39] [1000, 1001, 1002] ?_); simp only [mk_keep, keepL, List.mem_cons, List.not_mem_nil, Nat.reduceEqDiff, Nat.zero_ne_one, Nat.one_ne_zero, reduceCtorEq, or_false, false_or, or_true, true_or, or_self, eq_self, ↓reduceIte])
         | (with_reducible first | refine s_cond fun KT KF ht hf => ?_ | refine s_skip ?_)
         | ((with_reducible refine s_long ?_); simp only [List.cons_append, List.nil_append])
         | (with_reducible first | refine s_exit ?_ | refine s_ret ?_ | refine e_seq ?_ | refine r_seq ?_ | refine n_block ?_ | refine e_block ?_ | refine r_block ?_ | refine e_loop ?_ | refine r_loop ?_ | refine e_round ?_ | refine r_round ?_ | refine s_round ?_ | refine f_block ?_ (by decide) | refine r_res ?_ | refine n_res ?_)
         | (simp only [hgb, go_sem, Int.reduceToNat, ↓reduceIte, reduceCtorEq, Nat.reduceEqDiff, Nat.reduceAdd, Nat.reduceMul, Nat.reduceLT, Nat.reduceLeDiff, Nat.reduceBEq, Int.reduceBEq, Int.reduceBNe, Int.reduceEq, Int.reduceLT, Int.reduceLE, Int.reduceGE, Int.reduceGT, boxB, listB, bestB, g1, f1, f2, g2, f3, callE, resSV, AV.flat, CV.flat, TV.flat]; clear hgb)
         | simp only [go_sem, Int.reduceToNat, ↓reduceIte, reduceCtorEq, Nat.reduceEqDiff, Nat.reduceAdd, Nat.reduceMul, Nat.reduceLT, Nat.reduceLeDiff, Nat.reduceBEq, Int.reduceBEq, Int.reduceBNe, Int.reduceEq, Int.reduceLT, Int.reduceLE, Int.reduceGE, Int.reduceGT, boxB, listB, bestB, g1, f1, f2, g2, f3, callE, resSV, AV.flat, CV.flat, TV.flat, hAll]
         | refine Or.inr (m_callN [(1000,1000),(1001,1001),(1002,1002)] [1000,1001,1002] [1000,1001,1002] [] [1000, 1001, 1002] ⟨fun _ _ => rfl, hls⟩ rfl rfl (by first | (simp [AV.ren, CV.ren, renL, renL_map, tbl, boxB, listB, bestB]; done) | fail) rfl rfl rfl rfl (by decide) (by first | (simp [hAll, hRen, mk_heap, hL, tbl, Blk.ren, renRows_up, renRows, renL, CV.ren, boxB, listB, bestB]; done) | fail) (by first | (simp [Blk.has, hasRows, hasL, CV.has, hasRows_up, boxB, listB, bestB]; done) | fail) (by first | (intro k; simp [hasA, AV.has, CV.has, hasL, Blk.has, hasRows, hasRows_up, boxB, listB, bestB]; done) | (intro k; simp [hasA, AV.has, CV.has, hasL, Blk.has, hasRows, hasRows_up, boxB, listB, bestB]; omega) | fail) ?_)
         | refine (m_callN [(1000,1000),(1001,1001),(1002,1002)] [1000,1001,1002] [1000,1001,1002] [] [1000, 1001, 1002] ⟨fun _ _ => rfl, hls⟩ rfl rfl (by first | (simp [AV.ren, CV.ren, renL, renL_map, tbl, boxB, listB, bestB]; done) | fail) rfl rfl rfl rfl (by decide) (by first | (simp [hAll, hRen, mk_heap, hL, tbl, Blk.ren, renRows_up, renRows, renL, CV.ren, boxB, listB, bestB]; done) | fail) (by first | (simp [Blk.has, hasRows, hasL, CV.has, hasRows_up, boxB, listB, bestB]; done) | fail) (by first | (intro k; simp [hasA, AV.has, CV.has, hasL, Blk.has, hasRows, hasRows_up, boxB, listB, bestB]; done) | (intro k; simp [hasA, AV.has, CV.has, hasL, Blk.has, hasRows, hasRows_up, boxB, listB, bestB]; omega) | fail) ?_)
         | refine Or.inr (m_callN [(1000,1000),(1001,1001),(1002,1002)] [1000,1001,1002] [1000,1001,1002] [] [1000, 1001, 1002] ⟨fun _ _ => rfl, hsw⟩ rfl rfl (by first | (simp [AV.ren, CV.ren, renL, renL_map, tbl, boxB, listB, bestB]; done) | fail) rfl rfl rfl rfl (by decide) (by first | (simp [hAll, hRen, mk_heap, hL, tbl, Blk.ren, renRows_up, renRows, renL, CV.ren, boxB, listB, bestB]; done) | fail) (by first | (simp [Blk.has, hasRows, hasL, CV.has, hasRows_up, boxB, listB, bestB]; done) | fail) (by first | (intro k; simp [hasA, AV.has, CV.has, hasL, Blk.has, hasRows, hasRows_up, boxB, listB, bestB]; done) | (intro k; simp [hasA, AV.has, CV.has, hasL, Blk.has, hasRows, hasRows_up, boxB, listB, bestB]; omega) | fail) ?_)
         | refine (m_callN [(1000,1000),(1001,1001),(1002,1002)] [1000,1001,1002] [1000,1001,1002] [] [1000, 1001, 1002] ⟨fun _ _ => rfl, hsw⟩ rfl rfl (by first | (simp [AV.ren, CV.ren, renL, renL_map, tbl, boxB, listB, bestB]; done) | fail) rfl rfl rfl rfl (by decide) (by first | (simp [hAll, hRen, mk_heap, hL, tbl, Blk.ren, renRows_up, renRows, renL, CV.ren, boxB, listB, bestB]; done) | fail) (by first | (simp [Blk.has, hasRows, hasL, CV.has, hasRows_up, boxB, listB, bestB]; done) | fail) (by first | (intro k; simp [hasA, AV.has, CV.has, hasL, Blk.has, hasRows, hasRows_up, boxB, listB, bestB]; done) | (intro k; simp [hasA, AV.has, CV.has, hasL, Blk.has, hasRows, hasRows_up, boxB, listB, bestB]; omega) | fail) ?_)
         | (refine ite_guard (fun hg => ?_) (fun hg => ?_) <;> (try simp only [Bool.not_eq_true, Bool.not_eq_false, Decidable.not_not] at hg) <;> (first | have hgb : (_ : Bool) = _ := hg | have hgb := ff hg | have hgb := tt hg))
         | (refine ⟨fun hc => ht _ ?_, fun hc => hf _ ?_⟩ <;> clear ht hf KT KF)
         | fail)
        refine n_loop (hswap l' i (2 * i + 1), 2 * i + 1) [0, 1, 2, 6, 7] [1000, 1001, 1002] ⟨?_, ?_, ?_, ?_⟩ (by simp only; omega)
        · simp only [mk_keep, keepL, List.mem_cons, List.not_mem_nil, Nat.reduceEqDiff, Nat.zero_ne_one, Nat.one_ne_zero, reduceCtorEq, or_false, false_or, or_true, true_or, or_self, eq_self, ↓reduceIte, bh, boxB, listB, bestB, hswap_len]
        · rw [hswap_len]; exact h1
        · simp only; omega
        · exact h2
      · rw [if_neg hle] at h2
        have f8 : z.1 = l' := by rw [← h2]
        have f9 : z.2 = i := by rw [← h2]
        have hle2 : less m (hg l' i) (hg l' (2 * i + 1)) = false := by simpa using hle
        rw [hle2] at hls
        repeat' (first
         | (with_reducible first | refine s_seq ?_ | refine s_block ?_ | refine s_region fun kr hr => ?_)
         | (with_reducible refine s_text tOk [1000, 1001, 1002, 1003] (by kernel_rfl) (by simp [HeapIn, namers, namerDst, namerOp, namedOp, namedFn, Blk.has, hasRows, hasL, CV.has, hasRows_up, hasRows_append, boxB, listB, bestB, g1, f1, f2, f8, f9, ← h1, g2, f3]; (try ((repeat' apply And.intro) <;> intros <;> omega))) fun kr hr => ?_)
         | (with_reducible first | refine s_op fun K' hk => ?_ | refine t_op fun K' hk => ?_ | (refine hk _ ?_; clear hk K') | (refine ht _ ?_; clear ht hf KT KF) | (refine hf _ ?_; clear ht hf KT KF) | ((first | refine s_nil ?_ | refine t_nil ?_); refine hr _ ?_; clear hr kr))
         | ((with_reducible refine n_seqK [0, 1, 2, 3, 4, 5, 6, 7, 8, 9, 10, 21, 33, 39] [1000, 1001, 1002] ?_); simp only [mk_keep, keepL, List.mem_cons, List.not_mem_nil, Nat.reduceEqDiff, Nat.zero_ne_one, Nat.one_ne_zero, reduceCtorEq, or_false, false_or, or_true, true_or, or_self, eq_self, ↓reduceIte])
         | (with_reducible first | refine s_cond fun KT KF ht hf => ?_ | refine s_skip ?_)
         | ((with_reducible refine s_long ?_); simp only [List.cons_append, List.nil_append])
         | (with_reducible first | refine s_exit ?_ | refine s_ret ?_ | refine e_seq ?_ | refine r_seq ?_ | refine n_block ?_ | refine e_block ?_ | refine r_block ?_ | refine e_loop ?_ | refine r_loop ?_ | refine e_round ?_ | refine r_round ?_ | refine s_round ?_ | refine f_block ?_ (by decide) | refine r_res ?_ | refine n_res ?_)
         | (simp only [hgb, go_sem, Int.reduceToNat, ↓reduceIte, reduceCtorEq, Nat.reduceEqDiff, Nat.reduceAdd, Nat.reduceMul, Nat.reduceLT, Nat.reduceLeDiff, Nat.reduceBEq, Int.reduceBEq, Int.reduceBNe, Int.reduceEq, Int.reduceLT, Int.reduceLE, Int.reduceGE, Int.reduceGT, boxB, listB, bestB, g1, f1, f2, f8, f9, ← h1, g2, f3, callE, resSV, AV.flat, CV.flat, TV.flat]; clear hgb)
         | simp only [go_sem, Int.reduceToNat, ↓reduceIte, reduceCtorEq, Nat.reduceEqDiff, Nat.reduceAdd, Nat.reduceMul, Nat.reduceLT, Nat.reduceLeDiff, Nat.reduceBEq, Int.reduceBEq, Int.reduceBNe, Int.reduceEq, Int.reduceLT, Int.reduceLE, Int.reduceGE, Int.reduceGT, boxB, listB, bestB, g1, f1, f2, f8, f9, ← h1, g2, f3, callE, resSV, AV.flat, CV.flat, TV.flat, hAll]
         | refine Or.inr (m_callN [(1000,1000),(1001,1001),(1002,1002)] [1000,1001,1002] [1000,1001,1002] [] [1000, 1001, 1002] ⟨fun _ _ => rfl, hls⟩ rfl rfl (by first | (simp [AV.ren, CV.ren, renL, renL_map, tbl, boxB, listB, bestB]; done) | fail) rfl rfl rfl rfl (by decide) (by first | (simp [hAll, hRen, mk_heap, hL, tbl, Blk.ren, renRows_up, renRows, renL, CV.ren, boxB, listB, bestB]; done) | fail) (by first | (simp [Blk.has, hasRows, hasL, CV.has, hasRows_up, boxB, listB, bestB]; done) | fail) (by first | (intro k; simp [hasA, AV.has, CV.has, hasL, Blk.has, hasRows, hasRows_up, boxB, listB, bestB]; done) | (intro k; simp [hasA, AV.has, CV.has, hasL, Blk.has, hasRows, hasRows_up, boxB, listB, bestB]; omega) | fail) ?_)
         | refine (m_callN [(1000,1000),(1001,1001),(1002,1002)] [1000,1001,1002] [1000,1001,1002] [] [1000, 1001, 1002] ⟨fun _ _ => rfl, hls⟩ rfl rfl (by first | (simp [AV.ren, CV.ren, renL, renL_map, tbl, boxB, listB, bestB]; done) | fail) rfl rfl rfl rfl (by decide) (by first | (simp [hAll, hRen, mk_heap, hL, tbl, Blk.ren, renRows_up, renRows, renL, CV.ren, boxB, listB, bestB]; done) | fail) (by first | (simp [Blk.has, hasRows, hasL, CV.has, hasRows_up, boxB, listB, bestB]; done) | fail) (by first | (intro k; simp [hasA, AV.has, CV.has, hasL, Blk.has, hasRows, hasRows_up, boxB, listB, bestB]; done) | (intro k; simp [hasA, AV.has, CV.has, hasL, Blk.has, hasRows, hasRows_up, boxB, listB, bestB]; omega) | fail) ?_)
         | (refine ite_guard (fun hg => ?_) (fun hg => ?_) <;> (try simp only [Bool.not_eq_true, Bool.not_eq_false, Decidable.not_not] at hg) <;> (first | have hgb : (_ : Bool) = _ := hg | have hgb := ff hg | have hgb := tt hg))
         | (refine ⟨fun hc => ht _ ?_, fun hc => hf _ ?_⟩ <;> clear ht hf KT KF)
         | fail)
  · rw [dif_neg hlt] at h2
    have f1 := tt (show ((2 * i + 1 : Nat) : Int) ≥ n by omega)
    have f2 : z.1 = l' := by rw [← h2]
    have f3 : z.2 = i := by rw [← h2]
    repeat' (first
     | (with_reducible first | refine s_seq ?_ | refine s_block ?_ | refine s_region fun kr hr => ?_)
     | (with_reducible refine s_text tOk [1000, 1001, 1002, 1003] (by kernel_rfl) (by simp [HeapIn, namers, namerDst, namerOp, namedOp, namedFn, Blk.has, hasRows, hasL, CV.has, hasRows_up, hasRows_append, boxB, listB, bestB, g1, f1, f2, f3, ← h1]; (try ((repeat' apply And.intro) <;> intros <;> omega))) fun kr hr => ?_)
     | (with_reducible first | refine s_op fun K' hk => ?_ | refine t_op fun K' hk => ?_ | (refine hk _ ?_; clear hk K') | (refine ht _ ?_; clear ht hf KT KF) | (refine hf _ ?_; clear ht hf KT KF) | ((first | refine s_nil ?_ | refine t_nil ?_); refine hr _ ?_; clear hr kr))
     | ((with_reducible refine n_seqK [0, 1, 2, 3, 4, 5, 6, 7, 8, 9, 10, 21, 33, 39] [1000, 1001, 1002] ?_); simp only [mk_keep, keepL, List.mem_cons, List.not_mem_nil, Nat.reduceEqDiff, Nat.zero_ne_one, Nat.one_ne_zero, reduceCtorEq, or_false, false_or, or_true, true_or, or_self, eq_self, ↓reduceIte])
     | (with_reducible first | refine s_cond fun KT KF ht hf => ?_ | refine s_skip ?_)
     | ((with_reducible refine s_long ?_); simp only [List.cons_append, List.nil_append])
     | (with_reducible first | refine s_exit ?_ | refine s_ret ?_ | refine e_seq ?_ | refine r_seq ?_ | refine n_block ?_ | refine e_block ?_ | refine r_block ?_ | refine e_loop ?_ | refine r_loop ?_ | refine e_round ?_ | refine r_round ?_ | refine s_round ?_ | refine f_block ?_ (by decide) | refine r_res ?_ | refine n_res ?_)
     | (simp only [hgb, go_sem, Int.reduceToNat, ↓reduceIte, reduceCtorEq, Nat.reduceEqDiff, Nat.reduceAdd, Nat.reduceMul, Nat.reduceLT, Nat.reduceLeDiff, Nat.reduceBEq, Int.reduceBEq, Int.reduceBNe, Int.reduceEq, Int.reduceLT, Int.reduceLE, Int.reduceGE, Int.reduceGT, boxB, listB, bestB, g1, f1, f2, f3, ← h1]; clear hgb)
     | simp only [go_sem, Int.reduceToNat, ↓reduceIte, reduceCtorEq, Nat.reduceEqDiff, Nat.reduceAdd, Nat.reduceMul, Nat.reduceLT, Nat.reduceLeDiff, Nat.reduceBEq, Int.reduceBEq, Int.reduceBNe, Int.reduceEq, Int.reduceLT, Int.reduceLE, Int.reduceGE, Int.reduceGT, boxB, listB, bestB, g1, f1, f2, f3, ← h1, hAll]
     | (refine ite_guard (fun hg => ?_) (fun hg => ?_) <;> (try simp only [Bool.not_eq_true, Bool.not_eq_false, Decidable.not_not] at hg) <;> (first | have hgb : (_ : Bool) = _ := hg | have hgb := ff hg | have hgb := tt hg))
     | (refine ⟨fun hc => ht _ ?_, fun hc => hf _ ?_⟩ <;> clear ht hf KT KF)
     | fail)
end Go.Proofs.Ytgmjgognpabmdaa.Fx
