/- The document's hits: sorted; one more of the best. -/
import Derived.Test.YtgmjgognpabmdaaFxRef07
namespace Go.Proofs.Ytgmjgognpabmdaa.Fx
open Go Go.RowKit
set_option maxRecDepth 100000
set_option linter.unusedSimpArgs false
set_option linter.unusedVariables false
theorem insert_spec (m : Int) (h : Ht) (l : List Ht) (hl : (l.length + 1) * 16 ≤ 140737488355328) : Spec Try.prog 43 [.v (.t (.int .i64 m)), .v (.t (.sl 2 (hrows l))), .agg (hcell h)] [] [.v (.t (.sl 2 (hrows (insR m h l))))] [] := by
  have h1 := insert_named m h l hl _ rfl
  rw [← uph_len] at h1
  exact Spec.tree h1 (viewRows_up _)
theorem insF_len (m : Int) (h : Ht) : ∀ (l : List Ht) (s : Bool × List Ht), (l.foldl (insF m h) s).2.length + (if s.1 = true then 1 else 0) = s.2.length + l.length + (if (l.foldl (insF m h) s).1 = true then 1 else 0)
  | [], (p, o) => by cases p <;> simp
  | x :: l, (p, o) => by
    rw [List.foldl_cons]
    have := insF_len m h l (insF m h (p, o) x)
    cases p <;> cases hx : less m h x <;> simp [insF, hx] at this ⊢ <;> omega
theorem insR_len (m : Int) (h : Ht) (l : List Ht) : (insR m h l).length = l.length + 1 := by
  have := insF_len m h l (false, [])
  unfold insR
  split
  · rename_i hc; simp [hc] at this; omega
  · rename_i hc; simp [hc] at this; simp; omega
def srt (m : Int) (l : List Ht) : List Ht := l.foldl (fun o x => insR m x o) []
theorem srt_take {m : Int} {l : List Ht} {k : Nat} (h : k < l.length) : srt m (l.take (k + 1)) = insR m l[k] (srt m (l.take k)) := by
  rw [srt, List.take_succ_eq_append_getElem h, List.foldl_append]; rfl
theorem srt_len (m : Int) : ∀ (l o : List Ht), (l.foldl (fun o x => insR m x o) o).length = o.length + l.length
  | [], o => by simp
  | x :: l, o => by rw [List.foldl_cons, srt_len m l, insR_len, List.length_cons]; omega
theorem srt_length (m : Int) (l : List Ht) : (srt m l).length = l.length := by rw [srt, srt_len]; simp
set_option maxHeartbeats 4000000 in
theorem rsort_spec (m : Int) (l : List Ht) (hl : l.length * 16 ≤ 140737488355328) : Spec Try.prog 18 [.v (.t (.int .i64 m)), .v (.t (.sl 2 (hrows l)))] [] [.v (.t (.sl 2 (hrows (if mOk m = true then srt m l else []))))] [] := by
  by_cases hM : mOk m = true
  · rw [if_pos hM]
    have hM' : 1 ≤ m ∧ m ≤ 3 := by simpa [mOk] using hM
    have g1 := tt hM'.1
    have g2 := tt hM'.2
    refine spec_by Try.func18 rfl mixed tOk evOk (n := 29) rfl (by simp) (by simp) ?_
    rw [initSt_mk, show Try.f18.results.toList = [.tmp 4] from rfl]
    simp only [initL, AV.sv, List.map_cons, List.map_nil, Nat.reduceAdd, Nat.zero_add, hrows_len]
    repeat' (first
     | (with_reducible first | refine s_seq ?_ | refine s_block ?_ | refine s_region fun kr hr => ?_)
     | (with_reducible refine s_text tOk [1000, 1001, 1002, 1003] (by kernel_rfl) (by simp [HeapIn, namers, namerDst, namerOp, namedOp, namedFn, ownLoad, Blk.has, hasRows, hasL, CV.has, hasRows_up, hasM_up, hasRows_append, hrows_len]; (try ((repeat' apply And.intro) <;> intros <;> omega))) fun kr hr => ?_)
     | (with_reducible first | refine s_op fun K' hk => ?_ | refine t_op fun K' hk => ?_ | (refine hk _ ?_; clear hk K') | (refine ht _ ?_; clear ht hf KT KF) | (refine hf _ ?_; clear ht hf KT KF) | ((first | refine s_nil ?_ | refine t_nil ?_); refine hr _ ?_; clear hr kr))
     | ((with_reducible refine n_seqK [0, 1, 2, 3, 4, 5, 6, 18, 25] [] ?_); simp only [mk_keep, keepL, List.mem_cons, List.not_mem_nil, Nat.reduceEqDiff, Nat.zero_ne_one, Nat.one_ne_zero, reduceCtorEq, or_false, false_or, or_true, true_or, or_self, eq_self, ↓reduceIte])
     | (with_reducible first | refine s_cond fun KT KF ht hf => ?_ | refine s_skip ?_)
     | ((with_reducible refine s_long ?_); simp only [List.cons_append, List.nil_append])
     | (with_reducible first | refine s_exit ?_ | refine s_ret ?_ | refine e_seq ?_ | refine r_seq ?_ | refine n_block ?_ | refine e_block ?_ | refine r_block ?_ | refine e_loop ?_ | refine r_loop ?_ | refine e_round ?_ | refine r_round ?_ | refine s_round ?_ | refine f_block ?_ (by decide) | refine r_res ?_ | refine n_res ?_)
     | (simp only [hgb, go_sem, Int.reduceToNat, ↓reduceIte, reduceCtorEq, Nat.reduceEqDiff, Nat.reduceAdd, Nat.reduceMul, Nat.reduceLT, Nat.reduceLeDiff, Nat.reduceBEq, Int.reduceBEq, Int.reduceBNe, String.reduceBEq, Int.reduceEq, Int.reduceLT, Int.reduceLE, Int.reduceGE, Int.reduceGT, hrows_len]; clear hgb)
     | simp only [go_sem, Int.reduceToNat, ↓reduceIte, reduceCtorEq, Nat.reduceEqDiff, Nat.reduceAdd, Nat.reduceMul, Nat.reduceLT, Nat.reduceLeDiff, Nat.reduceBEq, Int.reduceBEq, Int.reduceBNe, String.reduceBEq, Int.reduceEq, Int.reduceLT, Int.reduceLE, Int.reduceGE, Int.reduceGT, hrows_len, hAll]
     | (refine ite_guard (fun hg => ?_) (fun hg => ?_) <;> (try simp only [Bool.not_eq_true, Bool.not_eq_false, Decidable.not_not] at hg) <;> (first | have hgb : (_ : Bool) = _ := hg | have hgb := ff hg | have hgb := tt hg))
     | (refine ⟨fun hc => ht _ ?_, fun hc => hf _ ?_⟩ <;> clear ht hf KT KF)
     | fail)
    refine w_loopG _ (gho_nilName (s := 5) (d := 27) (sz := 2) (by decide) ⟨2, rfl⟩ (by rw [fresh_t]; exact trivial; rfl)) ?_
    rw [mk_nilName]
    refine w_loopG _ (gho_freeze (nm := 27) (sz := 2) (rows := []) (trows := []) (by simp [mk_heap, hL, ins]) rfl) ?_
    rw [mk_freeze]
    refine w_loop [0, 1, 4, 5, 6] [] (σ := Nat) (fun k st => st = mk [(0, .c (.t (.int .i64 m))), (1, .c (.t (.sl 2 (hrows l)))), (4, .c (.own 2 [])), (5, .c (.t (.sl 2 (hrows (srt m (l.take k)))))), (6, .c (.t (.int .i64 k)))] [] ∧ k ≤ l.length) (fun k => l.length - k) 0 ?_ ?_
    · refine ⟨?_, Nat.zero_le _⟩
      simp only [go_sem, Int.reduceToNat, ↓reduceIte, reduceCtorEq, Nat.reduceEqDiff, Nat.reduceAdd, Nat.reduceMul, Nat.reduceLT, Nat.reduceLeDiff, Nat.reduceBEq, Int.reduceBEq, Int.reduceBNe, String.reduceBEq, Int.reduceEq, Int.reduceLT, Int.reduceLE, Int.reduceGE, Int.reduceGT, mk_keep, keepL, List.mem_cons, List.not_mem_nil, Nat.reduceEqDiff, Nat.zero_ne_one, Nat.one_ne_zero, reduceCtorEq, or_false, false_or, or_true, true_or, or_self, eq_self, ↓reduceIte]
      rfl
    rintro k st ⟨rfl, hk⟩
    by_cases hkl : k < l.length
    · have f1 := tt (show (k : Int) < l.length by omega)
      have f2 : (hrows l)[k]? = some (hrow l[k]) := by rw [hrows_get, get_of_lt (by omega)]; rfl
      have f3 := wUp (k := k) (n := l.length) (by omega) (by omega)
      have hst := srt_take (m := m) hkl
      obtain ⟨⟨c, e⟩, hc⟩ : ∃ z, l[k] = z := ⟨_, rfl⟩
      rw [hc] at f2 hst
      have hq := insert_spec m (c, e) (srt m (l.take k)) (by rw [srt_length]; simp; omega)
      rw [← hst, hcell_eq] at hq
      repeat' (first
       | (with_reducible first | refine s_seq ?_ | refine s_block ?_ | refine s_region fun kr hr => ?_)
       | (with_reducible refine s_text tOk [1000, 1001, 1002, 1003] (by kernel_rfl) (by simp [HeapIn, namers, namerDst, namerOp, namedOp, namedFn, ownLoad, Blk.has, hasRows, hasL, CV.has, hasRows_up, hasM_up, hasRows_append, f1, f2, f3, g1, g2, ge_iff_le, hrow, hrows_len]; (try ((repeat' apply And.intro) <;> intros <;> omega))) fun kr hr => ?_)
       | (with_reducible first | refine s_op fun K' hk => ?_ | refine t_op fun K' hk => ?_ | (refine hk _ ?_; clear hk K') | (refine ht _ ?_; clear ht hf KT KF) | (refine hf _ ?_; clear ht hf KT KF) | ((first | refine s_nil ?_ | refine t_nil ?_); refine hr _ ?_; clear hr kr))
       | ((with_reducible refine n_seqK [0, 1, 2, 3, 4, 5, 6, 18, 25] [] ?_); simp only [mk_keep, keepL, List.mem_cons, List.not_mem_nil, Nat.reduceEqDiff, Nat.zero_ne_one, Nat.one_ne_zero, reduceCtorEq, or_false, false_or, or_true, true_or, or_self, eq_self, ↓reduceIte])
       | (with_reducible first | refine s_cond fun KT KF ht hf => ?_ | refine s_skip ?_)
       | ((with_reducible refine s_long ?_); simp only [List.cons_append, List.nil_append])
       | (with_reducible first | refine s_exit ?_ | refine s_ret ?_ | refine e_seq ?_ | refine r_seq ?_ | refine n_block ?_ | refine e_block ?_ | refine r_block ?_ | refine e_loop ?_ | refine r_loop ?_ | refine e_round ?_ | refine r_round ?_ | refine s_round ?_ | refine f_block ?_ (by decide) | refine r_res ?_ | refine n_res ?_)
       | (simp only [hgb, go_sem, Int.reduceToNat, ↓reduceIte, reduceCtorEq, Nat.reduceEqDiff, Nat.reduceAdd, Nat.reduceMul, Nat.reduceLT, Nat.reduceLeDiff, Nat.reduceBEq, Int.reduceBEq, Int.reduceBNe, String.reduceBEq, Int.reduceEq, Int.reduceLT, Int.reduceLE, Int.reduceGE, Int.reduceGT, f1, f2, f3, g1, g2, ge_iff_le, hrow, hrows_len, callE, resSV, AV.flat, CV.flat, TV.flat]; clear hgb)
       | simp only [go_sem, Int.reduceToNat, ↓reduceIte, reduceCtorEq, Nat.reduceEqDiff, Nat.reduceAdd, Nat.reduceMul, Nat.reduceLT, Nat.reduceLeDiff, Nat.reduceBEq, Int.reduceBEq, Int.reduceBNe, String.reduceBEq, Int.reduceEq, Int.reduceLT, Int.reduceLE, Int.reduceGE, Int.reduceGT, f1, f2, f3, g1, g2, ge_iff_le, hrow, hrows_len, callE, resSV, AV.flat, CV.flat, TV.flat, hAll]
       | refine Or.inl ⟨_, ⟨fun _ _ => rfl, hq⟩, ?_⟩
       | refine ⟨_, ⟨fun _ _ => rfl, hq⟩, ?_⟩
       | (refine ite_guard (fun hg => ?_) (fun hg => ?_) <;> (try simp only [Bool.not_eq_true, Bool.not_eq_false, Decidable.not_not] at hg) <;> (first | have hgb : (_ : Bool) = _ := hg | have hgb := ff hg | have hgb := tt hg))
       | (refine ⟨fun hc => ht _ ?_, fun hc => hf _ ?_⟩ <;> clear ht hf KT KF)
       | fail)
      refine n_loop (k + 1) [0, 1, 4, 5, 6] [] ⟨?_, hkl⟩ (by omega)
      simp only [mk_keep, keepL, List.mem_cons, List.not_mem_nil, Nat.reduceEqDiff, Nat.zero_ne_one, Nat.one_ne_zero, reduceCtorEq, or_false, false_or, or_true, true_or, or_self, eq_self, ↓reduceIte]
    · have f1 := ff (show ¬ ((k : Int) < l.length) by omega)
      obtain rfl : k = l.length := by omega
      rw [List.take_length]
      repeat' (first
       | (with_reducible first | refine s_seq ?_ | refine s_block ?_ | refine s_region fun kr hr => ?_)
       | (with_reducible refine s_text tOk [1000, 1001, 1002, 1003] (by kernel_rfl) (by simp [HeapIn, namers, namerDst, namerOp, namedOp, namedFn, ownLoad, Blk.has, hasRows, hasL, CV.has, hasRows_up, hasM_up, hasRows_append, f1, hrows_len]; (try ((repeat' apply And.intro) <;> intros <;> omega))) fun kr hr => ?_)
       | (with_reducible first | refine s_op fun K' hk => ?_ | refine t_op fun K' hk => ?_ | (refine hk _ ?_; clear hk K') | (refine ht _ ?_; clear ht hf KT KF) | (refine hf _ ?_; clear ht hf KT KF) | ((first | refine s_nil ?_ | refine t_nil ?_); refine hr _ ?_; clear hr kr))
       | ((with_reducible refine n_seqK [0, 1, 2, 3, 4, 5, 6, 18, 25] [] ?_); simp only [mk_keep, keepL, List.mem_cons, List.not_mem_nil, Nat.reduceEqDiff, Nat.zero_ne_one, Nat.one_ne_zero, reduceCtorEq, or_false, false_or, or_true, true_or, or_self, eq_self, ↓reduceIte])
       | (with_reducible first | refine s_cond fun KT KF ht hf => ?_ | refine s_skip ?_)
       | ((with_reducible refine s_long ?_); simp only [List.cons_append, List.nil_append])
       | (with_reducible first | refine s_exit ?_ | refine s_ret ?_ | refine e_seq ?_ | refine r_seq ?_ | refine n_block ?_ | refine e_block ?_ | refine r_block ?_ | refine e_loop ?_ | refine r_loop ?_ | refine e_round ?_ | refine r_round ?_ | refine s_round ?_ | refine f_block ?_ (by decide) | refine r_res ?_ | refine n_res ?_)
       | (simp only [hgb, go_sem, Int.reduceToNat, ↓reduceIte, reduceCtorEq, Nat.reduceEqDiff, Nat.reduceAdd, Nat.reduceMul, Nat.reduceLT, Nat.reduceLeDiff, Nat.reduceBEq, Int.reduceBEq, Int.reduceBNe, String.reduceBEq, Int.reduceEq, Int.reduceLT, Int.reduceLE, Int.reduceGE, Int.reduceGT, f1, hrows_len]; clear hgb)
       | simp only [go_sem, Int.reduceToNat, ↓reduceIte, reduceCtorEq, Nat.reduceEqDiff, Nat.reduceAdd, Nat.reduceMul, Nat.reduceLT, Nat.reduceLeDiff, Nat.reduceBEq, Int.reduceBEq, Int.reduceBNe, String.reduceBEq, Int.reduceEq, Int.reduceLT, Int.reduceLE, Int.reduceGE, Int.reduceGT, f1, hrows_len, hAll]
       | (refine ite_guard (fun hg => ?_) (fun hg => ?_) <;> (try simp only [Bool.not_eq_true, Bool.not_eq_false, Decidable.not_not] at hg) <;> (first | have hgb : (_ : Bool) = _ := hg | have hgb := ff hg | have hgb := tt hg))
       | (refine ⟨fun hc => ht _ ?_, fun hc => hf _ ?_⟩ <;> clear ht hf KT KF)
       | fail)
  · rw [if_neg hM]
    refine spec_by Try.func18 rfl mixed tOk evOk (n := 29) rfl (by simp) (by simp) ?_
    rw [initSt_mk, show Try.f18.results.toList = [.tmp 4] from rfl]
    simp only [initL, AV.sv, List.map_cons, List.map_nil, Nat.reduceAdd, Nat.zero_add, hrows_len]
    repeat' (first
     | (with_reducible first | refine s_seq ?_ | refine s_block ?_ | refine s_region fun kr hr => ?_)
     | (with_reducible refine s_text tOk [1000, 1001, 1002, 1003] (by kernel_rfl) (by simp [HeapIn, namers, namerDst, namerOp, namedOp, namedFn, ownLoad, Blk.has, hasRows, hasL, CV.has, hasRows_up, hasM_up, hasRows_append, hrows_len]; (try ((repeat' apply And.intro) <;> intros <;> omega))) fun kr hr => ?_)
     | (with_reducible first | refine s_op fun K' hk => ?_ | refine t_op fun K' hk => ?_ | (refine hk _ ?_; clear hk K') | (refine ht _ ?_; clear ht hf KT KF) | (refine hf _ ?_; clear ht hf KT KF) | ((first | refine s_nil ?_ | refine t_nil ?_); refine hr _ ?_; clear hr kr))
     | ((with_reducible refine n_seqK [0, 1, 2, 3, 4, 5, 6, 18, 25] [] ?_); simp only [mk_keep, keepL, List.mem_cons, List.not_mem_nil, Nat.reduceEqDiff, Nat.zero_ne_one, Nat.one_ne_zero, reduceCtorEq, or_false, false_or, or_true, true_or, or_self, eq_self, ↓reduceIte])
     | (with_reducible first | refine s_cond fun KT KF ht hf => ?_ | refine s_skip ?_)
     | ((with_reducible refine s_long ?_); simp only [List.cons_append, List.nil_append])
     | (with_reducible first | refine s_exit ?_ | refine s_ret ?_ | refine e_seq ?_ | refine r_seq ?_ | refine n_block ?_ | refine e_block ?_ | refine r_block ?_ | refine e_loop ?_ | refine r_loop ?_ | refine e_round ?_ | refine r_round ?_ | refine s_round ?_ | refine f_block ?_ (by decide) | refine r_res ?_ | refine n_res ?_)
     | (simp only [hgb, go_sem, Int.reduceToNat, ↓reduceIte, reduceCtorEq, Nat.reduceEqDiff, Nat.reduceAdd, Nat.reduceMul, Nat.reduceLT, Nat.reduceLeDiff, Nat.reduceBEq, Int.reduceBEq, Int.reduceBNe, String.reduceBEq, Int.reduceEq, Int.reduceLT, Int.reduceLE, Int.reduceGE, Int.reduceGT, hrows_len]; clear hgb)
     | simp only [go_sem, Int.reduceToNat, ↓reduceIte, reduceCtorEq, Nat.reduceEqDiff, Nat.reduceAdd, Nat.reduceMul, Nat.reduceLT, Nat.reduceLeDiff, Nat.reduceBEq, Int.reduceBEq, Int.reduceBNe, String.reduceBEq, Int.reduceEq, Int.reduceLT, Int.reduceLE, Int.reduceGE, Int.reduceGT, hrows_len, hAll]
     | (refine ite_guard (fun hg => ?_) (fun hg => ?_) <;> (try simp only [Bool.not_eq_true, Bool.not_eq_false, Decidable.not_not] at hg) <;> (first | have hgb : (_ : Bool) = _ := hg | have hgb := ff hg | have hgb := tt hg))
     | (refine ⟨fun hc => ht _ ?_, fun hc => hf _ ?_⟩ <;> clear ht hf KT KF)
     | fail)
    refine w_unroll 1 ?_
    by_cases hl0 : (0 : Int) < l.length
    · have f1 := tt hl0
      by_cases hm1 : 1 ≤ m
      · have f2 := tt hm1
        have f3 := ff (show ¬ m ≤ 3 from fun h => hM (by simp [mOk, hm1, h]))
        repeat' (first
         | (with_reducible first | refine s_seq ?_ | refine s_block ?_ | refine s_region fun kr hr => ?_)
         | (with_reducible refine s_text tOk [1000, 1001, 1002, 1003] (by kernel_rfl) (by simp [HeapIn, namers, namerDst, namerOp, namedOp, namedFn, ownLoad, Blk.has, hasRows, hasL, CV.has, hasRows_up, hasM_up, hasRows_append, f1, f2, f3, ge_iff_le, hrows_len]; (try ((repeat' apply And.intro) <;> intros <;> omega))) fun kr hr => ?_)
         | (with_reducible first | refine s_op fun K' hk => ?_ | refine t_op fun K' hk => ?_ | (refine hk _ ?_; clear hk K') | (refine ht _ ?_; clear ht hf KT KF) | (refine hf _ ?_; clear ht hf KT KF) | ((first | refine s_nil ?_ | refine t_nil ?_); refine hr _ ?_; clear hr kr))
         | ((with_reducible refine n_seqK [0, 1, 2, 3, 4, 5, 6, 18, 25] [] ?_); simp only [mk_keep, keepL, List.mem_cons, List.not_mem_nil, Nat.reduceEqDiff, Nat.zero_ne_one, Nat.one_ne_zero, reduceCtorEq, or_false, false_or, or_true, true_or, or_self, eq_self, ↓reduceIte])
         | ((with_reducible refine n_round [0, 1, 2, 3, 4, 5, 6, 18, 25] [] ?_); simp only [mk_keep, keepL, List.mem_cons, List.not_mem_nil, Nat.reduceEqDiff, Nat.zero_ne_one, Nat.one_ne_zero, reduceCtorEq, or_false, false_or, or_true, true_or, or_self, eq_self, ↓reduceIte])
         | (with_reducible first | refine s_cond fun KT KF ht hf => ?_ | refine s_skip ?_)
         | ((with_reducible refine s_long ?_); simp only [List.cons_append, List.nil_append])
         | (with_reducible first | refine s_exit ?_ | refine s_ret ?_ | refine e_seq ?_ | refine r_seq ?_ | refine n_block ?_ | refine e_block ?_ | refine r_block ?_ | refine e_loop ?_ | refine r_loop ?_ | refine e_round ?_ | refine r_round ?_ | refine s_round ?_ | refine f_block ?_ (by decide) | refine r_res ?_ | refine n_res ?_)
         | (simp only [hgb, go_sem, Int.reduceToNat, ↓reduceIte, reduceCtorEq, Nat.reduceEqDiff, Nat.reduceAdd, Nat.reduceMul, Nat.reduceLT, Nat.reduceLeDiff, Nat.reduceBEq, Int.reduceBEq, Int.reduceBNe, String.reduceBEq, Int.reduceEq, Int.reduceLT, Int.reduceLE, Int.reduceGE, Int.reduceGT, f1, f2, f3, ge_iff_le, hrows_len]; clear hgb)
         | simp only [go_sem, Int.reduceToNat, ↓reduceIte, reduceCtorEq, Nat.reduceEqDiff, Nat.reduceAdd, Nat.reduceMul, Nat.reduceLT, Nat.reduceLeDiff, Nat.reduceBEq, Int.reduceBEq, Int.reduceBNe, String.reduceBEq, Int.reduceEq, Int.reduceLT, Int.reduceLE, Int.reduceGE, Int.reduceGT, f1, f2, f3, ge_iff_le, hrows_len, hAll]
         | (refine ite_guard (fun hg => ?_) (fun hg => ?_) <;> (try simp only [Bool.not_eq_true, Bool.not_eq_false, Decidable.not_not] at hg) <;> (first | have hgb : (_ : Bool) = _ := hg | have hgb := ff hg | have hgb := tt hg))
         | (refine ⟨fun hc => ht _ ?_, fun hc => hf _ ?_⟩ <;> clear ht hf KT KF)
         | fail)
        rfl
      · have f2 := ff hm1
        repeat' (first
         | (with_reducible first | refine s_seq ?_ | refine s_block ?_ | refine s_region fun kr hr => ?_)
         | (with_reducible refine s_text tOk [1000, 1001, 1002, 1003] (by kernel_rfl) (by simp [HeapIn, namers, namerDst, namerOp, namedOp, namedFn, ownLoad, Blk.has, hasRows, hasL, CV.has, hasRows_up, hasM_up, hasRows_append, f1, f2, ge_iff_le, hrows_len]; (try ((repeat' apply And.intro) <;> intros <;> omega))) fun kr hr => ?_)
         | (with_reducible first | refine s_op fun K' hk => ?_ | refine t_op fun K' hk => ?_ | (refine hk _ ?_; clear hk K') | (refine ht _ ?_; clear ht hf KT KF) | (refine hf _ ?_; clear ht hf KT KF) | ((first | refine s_nil ?_ | refine t_nil ?_); refine hr _ ?_; clear hr kr))
         | ((with_reducible refine n_seqK [0, 1, 2, 3, 4, 5, 6, 18, 25] [] ?_); simp only [mk_keep, keepL, List.mem_cons, List.not_mem_nil, Nat.reduceEqDiff, Nat.zero_ne_one, Nat.one_ne_zero, reduceCtorEq, or_false, false_or, or_true, true_or, or_self, eq_self, ↓reduceIte])
         | ((with_reducible refine n_round [0, 1, 2, 3, 4, 5, 6, 18, 25] [] ?_); simp only [mk_keep, keepL, List.mem_cons, List.not_mem_nil, Nat.reduceEqDiff, Nat.zero_ne_one, Nat.one_ne_zero, reduceCtorEq, or_false, false_or, or_true, true_or, or_self, eq_self, ↓reduceIte])
         | (with_reducible first | refine s_cond fun KT KF ht hf => ?_ | refine s_skip ?_)
         | ((with_reducible refine s_long ?_); simp only [List.cons_append, List.nil_append])
         | (with_reducible first | refine s_exit ?_ | refine s_ret ?_ | refine e_seq ?_ | refine r_seq ?_ | refine n_block ?_ | refine e_block ?_ | refine r_block ?_ | refine e_loop ?_ | refine r_loop ?_ | refine e_round ?_ | refine r_round ?_ | refine s_round ?_ | refine f_block ?_ (by decide) | refine r_res ?_ | refine n_res ?_)
         | (simp only [hgb, go_sem, Int.reduceToNat, ↓reduceIte, reduceCtorEq, Nat.reduceEqDiff, Nat.reduceAdd, Nat.reduceMul, Nat.reduceLT, Nat.reduceLeDiff, Nat.reduceBEq, Int.reduceBEq, Int.reduceBNe, String.reduceBEq, Int.reduceEq, Int.reduceLT, Int.reduceLE, Int.reduceGE, Int.reduceGT, f1, f2, ge_iff_le, hrows_len]; clear hgb)
         | simp only [go_sem, Int.reduceToNat, ↓reduceIte, reduceCtorEq, Nat.reduceEqDiff, Nat.reduceAdd, Nat.reduceMul, Nat.reduceLT, Nat.reduceLeDiff, Nat.reduceBEq, Int.reduceBEq, Int.reduceBNe, String.reduceBEq, Int.reduceEq, Int.reduceLT, Int.reduceLE, Int.reduceGE, Int.reduceGT, f1, f2, ge_iff_le, hrows_len, hAll]
         | (refine ite_guard (fun hg => ?_) (fun hg => ?_) <;> (try simp only [Bool.not_eq_true, Bool.not_eq_false, Decidable.not_not] at hg) <;> (first | have hgb : (_ : Bool) = _ := hg | have hgb := ff hg | have hgb := tt hg))
         | (refine ⟨fun hc => ht _ ?_, fun hc => hf _ ?_⟩ <;> clear ht hf KT KF)
         | fail)
        rfl
    · have f1 := ff hl0
      repeat' (first
       | (with_reducible first | refine s_seq ?_ | refine s_block ?_ | refine s_region fun kr hr => ?_)
       | (with_reducible refine s_text tOk [1000, 1001, 1002, 1003] (by kernel_rfl) (by simp [HeapIn, namers, namerDst, namerOp, namedOp, namedFn, ownLoad, Blk.has, hasRows, hasL, CV.has, hasRows_up, hasM_up, hasRows_append, f1, hrows_len]; (try ((repeat' apply And.intro) <;> intros <;> omega))) fun kr hr => ?_)
       | (with_reducible first | refine s_op fun K' hk => ?_ | refine t_op fun K' hk => ?_ | (refine hk _ ?_; clear hk K') | (refine ht _ ?_; clear ht hf KT KF) | (refine hf _ ?_; clear ht hf KT KF) | ((first | refine s_nil ?_ | refine t_nil ?_); refine hr _ ?_; clear hr kr))
       | ((with_reducible refine n_seqK [0, 1, 2, 3, 4, 5, 6, 18, 25] [] ?_); simp only [mk_keep, keepL, List.mem_cons, List.not_mem_nil, Nat.reduceEqDiff, Nat.zero_ne_one, Nat.one_ne_zero, reduceCtorEq, or_false, false_or, or_true, true_or, or_self, eq_self, ↓reduceIte])
       | ((with_reducible refine n_round [0, 1, 2, 3, 4, 5, 6, 18, 25] [] ?_); simp only [mk_keep, keepL, List.mem_cons, List.not_mem_nil, Nat.reduceEqDiff, Nat.zero_ne_one, Nat.one_ne_zero, reduceCtorEq, or_false, false_or, or_true, true_or, or_self, eq_self, ↓reduceIte])
       | (with_reducible first | refine s_cond fun KT KF ht hf => ?_ | refine s_skip ?_)
       | ((with_reducible refine s_long ?_); simp only [List.cons_append, List.nil_append])
       | (with_reducible first | refine s_exit ?_ | refine s_ret ?_ | refine e_seq ?_ | refine r_seq ?_ | refine n_block ?_ | refine e_block ?_ | refine r_block ?_ | refine e_loop ?_ | refine r_loop ?_ | refine e_round ?_ | refine r_round ?_ | refine s_round ?_ | refine f_block ?_ (by decide) | refine r_res ?_ | refine n_res ?_)
       | (simp only [hgb, go_sem, Int.reduceToNat, ↓reduceIte, reduceCtorEq, Nat.reduceEqDiff, Nat.reduceAdd, Nat.reduceMul, Nat.reduceLT, Nat.reduceLeDiff, Nat.reduceBEq, Int.reduceBEq, Int.reduceBNe, String.reduceBEq, Int.reduceEq, Int.reduceLT, Int.reduceLE, Int.reduceGE, Int.reduceGT, f1, hrows_len]; clear hgb)
       | simp only [go_sem, Int.reduceToNat, ↓reduceIte, reduceCtorEq, Nat.reduceEqDiff, Nat.reduceAdd, Nat.reduceMul, Nat.reduceLT, Nat.reduceLeDiff, Nat.reduceBEq, Int.reduceBEq, Int.reduceBNe, String.reduceBEq, Int.reduceEq, Int.reduceLT, Int.reduceLE, Int.reduceGE, Int.reduceGT, f1, hrows_len, hAll]
       | (refine ite_guard (fun hg => ?_) (fun hg => ?_) <;> (try simp only [Bool.not_eq_true, Bool.not_eq_false, Decidable.not_not] at hg) <;> (first | have hgb : (_ : Bool) = _ := hg | have hgb := ff hg | have hgb := tt hg))
       | (refine ⟨fun hc => ht _ ?_, fun hc => hf _ ?_⟩ <;> clear ht hf KT KF)
       | fail)
      rfl
def radd (m : Int) (k : Nat) (l : List Ht) (x : Ht) : List Ht × Bool :=
  if x ∈ l then (l, false) else if l.length + 1 ≤ k then (insR m x l, true) else ((insR m x l).take k, !decide (hg (insR m x l) k = x))
set_option maxHeartbeats 4000000 in
theorem radd_spec (m : Int) (k : Nat) (l : List Ht) (x : Ht) (hl : (l.length + 1) * 16 ≤ 140737488355328) (hk9 : k ≤ 9223372036854775807) : Spec Try.prog 24 [.v (.t (.int .i64 m)), .v (.t (.int .i64 k)), .v (.t (.sl 2 (hrows l))), .agg (hcell x)] [] [.v (.t (.sl 2 (hrows (radd m k l x).1))), .v (.t (.bool (radd m k l x).2))] [] := by
  have hq := insert_spec m x l hl
  have hlen := insR_len m x l
  obtain ⟨a, b⟩ := x
  have hr0 : ∀ x, radd m k l x = if x ∈ l then (l, false) else if l.length + 1 ≤ k then (insR m x l, true) else ((insR m x l).take k, !decide (hg (insR m x l) k = x)) := fun _ => rfl
  have hr := hr0 (a, b)
  generalize radd m k l (a, b) = R at *
  clear hr0
  rw [hcell_eq] at hq
  refine spec_by Try.func24 rfl mixed tOk evOk (n := 43) rfl (by simp) (by simp) ?_
  rw [initSt_mk, show Try.f24.results.toList = [.tmp 8, .tmp 9] from rfl]
  simp only [initL, AV.sv, List.map_cons, List.map_nil, Nat.reduceAdd, Nat.zero_add, hcell, hrows_len]
  repeat' (first
   | (with_reducible first | refine s_seq ?_ | refine s_block ?_ | refine s_region fun kr hr => ?_)
   | (with_reducible refine s_text tOk [7, 1000, 1001, 1002, 1003] (by kernel_rfl) (by simp [HeapIn, namers, namerDst, namerOp, namedOp, namedFn, ownLoad, Blk.has, hasRows, hasL, CV.has, hasRows_up, hasM_up, hasRows_append, hrows_len]; (try ((repeat' apply And.intro) <;> intros <;> omega))) fun kr hr => ?_)
   | (with_reducible first | refine s_op fun K' hk => ?_ | refine t_op fun K' hk => ?_ | (refine hk _ ?_; clear hk K') | (refine ht _ ?_; clear ht hf KT KF) | (refine hf _ ?_; clear ht hf KT KF) | ((first | refine s_nil ?_ | refine t_nil ?_); refine hr _ ?_; clear hr kr))
   | ((with_reducible refine n_seqK [0, 1, 2, 3, 4, 5, 6, 7, 8, 9, 10, 11, 15, 23, 25, 32] [7] ?_); simp only [mk_keep, keepL, List.mem_cons, List.not_mem_nil, Nat.reduceEqDiff, Nat.zero_ne_one, Nat.one_ne_zero, reduceCtorEq, or_false, false_or, or_true, true_or, or_self, eq_self, ↓reduceIte])
   | (with_reducible first | refine s_cond fun KT KF ht hf => ?_ | refine s_skip ?_)
   | ((with_reducible refine s_long ?_); simp only [List.cons_append, List.nil_append])
   | (with_reducible first | refine s_exit ?_ | refine s_ret ?_ | refine e_seq ?_ | refine r_seq ?_ | refine n_block ?_ | refine e_block ?_ | refine r_block ?_ | refine e_loop ?_ | refine r_loop ?_ | refine e_round ?_ | refine r_round ?_ | refine s_round ?_ | refine f_block ?_ (by decide) | refine r_res ?_ | refine n_res ?_)
   | (simp only [hgb, go_sem, Int.reduceToNat, ↓reduceIte, reduceCtorEq, Nat.reduceEqDiff, Nat.reduceAdd, Nat.reduceMul, Nat.reduceLT, Nat.reduceLeDiff, Nat.reduceBEq, Int.reduceBEq, Int.reduceBNe, String.reduceBEq, Int.reduceEq, Int.reduceLT, Int.reduceLE, Int.reduceGE, Int.reduceGT, hrows_len]; clear hgb)
   | simp only [go_sem, Int.reduceToNat, ↓reduceIte, reduceCtorEq, Nat.reduceEqDiff, Nat.reduceAdd, Nat.reduceMul, Nat.reduceLT, Nat.reduceLeDiff, Nat.reduceBEq, Int.reduceBEq, Int.reduceBNe, String.reduceBEq, Int.reduceEq, Int.reduceLT, Int.reduceLE, Int.reduceGE, Int.reduceGT, hrows_len, hAll]
   | (refine ite_guard (fun hg => ?_) (fun hg => ?_) <;> (try simp only [Bool.not_eq_true, Bool.not_eq_false, Decidable.not_not] at hg) <;> (first | have hgb : (_ : Bool) = _ := hg | have hgb := ff hg | have hgb := tt hg))
   | (refine ⟨fun hc => ht _ ?_, fun hc => hf _ ?_⟩ <;> clear ht hf KT KF)
   | fail)
  refine w_loop [0, 1, 2, 7, 8, 9, 10] [7] (σ := Nat) (fun i st => st = mk [(0, .c (.t (.int .i64 m))), (1, .c (.t (.int .i64 k))), (2, .c (.t (.sl 2 (hrows l)))), (7, .c (.mp 7 0 0)), (8, .c (.own 2 [])), (9, .c (.t (.bool false))), (10, .c (.t (.int .i64 i)))] [(7, .cells 2 [[.t (.int .i64 a), .t (.int .i64 b)]])] ∧ i ≤ l.length ∧ (a, b) ∉ l.take i) (fun i => l.length - i) 0 ?_ ?_
  · refine ⟨?_, Nat.zero_le _, by simp⟩
    simp only [go_sem, Int.reduceToNat, ↓reduceIte, reduceCtorEq, Nat.reduceEqDiff, Nat.reduceAdd, Nat.reduceMul, Nat.reduceLT, Nat.reduceLeDiff, Nat.reduceBEq, Int.reduceBEq, Int.reduceBNe, String.reduceBEq, Int.reduceEq, Int.reduceLT, Int.reduceLE, Int.reduceGE, Int.reduceGT, mk_keep, keepL, List.mem_cons, List.not_mem_nil, Nat.reduceEqDiff, Nat.zero_ne_one, Nat.one_ne_zero, reduceCtorEq, or_false, false_or, or_true, true_or, or_self, eq_self, ↓reduceIte]
  rintro i st ⟨rfl, hi, hno⟩
  by_cases hil : i < l.length
  · have f1 := tt (show (i : Int) < l.length by omega)
    have f2 : (hrows l)[i]? = some (hrow l[i]) := by rw [hrows_get, get_of_lt (by omega)]; rfl
    have f3 := wUp (k := i) (n := l.length) (by omega) (by omega)
    have hs := List.take_succ_eq_append_getElem hil
    have hmem : l[i] ∈ l := List.getElem_mem hil
    obtain ⟨⟨c, d⟩, hc⟩ : ∃ z, l[i] = z := ⟨_, rfl⟩
    rw [hc] at f2 hs hmem
    by_cases hcc : (a, b) = (c, d)
    · obtain ⟨rfl, rfl⟩ := Prod.mk.inj hcc
      rw [if_pos hmem] at hr
      subst hr
      repeat' (first
       | (with_reducible first | refine s_seq ?_ | refine s_block ?_ | refine s_region fun kr hr => ?_)
       | (with_reducible refine s_text tOk [7, 1000, 1001, 1002, 1003] (by kernel_rfl) (by simp [HeapIn, namers, namerDst, namerOp, namedOp, namedFn, ownLoad, Blk.has, hasRows, hasL, CV.has, hasRows_up, hasM_up, hasRows_append, f1, f2, f3, hrow, hrows_len]; (try ((repeat' apply And.intro) <;> intros <;> omega))) fun kr hr => ?_)
       | (with_reducible first | refine s_op fun K' hk => ?_ | refine t_op fun K' hk => ?_ | (refine hk _ ?_; clear hk K') | (refine ht _ ?_; clear ht hf KT KF) | (refine hf _ ?_; clear ht hf KT KF) | ((first | refine s_nil ?_ | refine t_nil ?_); refine hr _ ?_; clear hr kr))
       | ((with_reducible refine n_seqK [0, 1, 2, 3, 4, 5, 6, 7, 8, 9, 10, 11, 15, 23, 25, 32] [7] ?_); simp only [mk_keep, keepL, List.mem_cons, List.not_mem_nil, Nat.reduceEqDiff, Nat.zero_ne_one, Nat.one_ne_zero, reduceCtorEq, or_false, false_or, or_true, true_or, or_self, eq_self, ↓reduceIte])
       | (with_reducible first | refine s_cond fun KT KF ht hf => ?_ | refine s_skip ?_)
       | ((with_reducible refine s_long ?_); simp only [List.cons_append, List.nil_append])
       | (with_reducible first | refine s_exit ?_ | refine s_ret ?_ | refine e_seq ?_ | refine r_seq ?_ | refine n_block ?_ | refine e_block ?_ | refine r_block ?_ | refine e_loop ?_ | refine r_loop ?_ | refine e_round ?_ | refine r_round ?_ | refine s_round ?_ | refine f_block ?_ (by decide) | refine r_res ?_ | refine n_res ?_)
       | (simp only [hgb, go_sem, Int.reduceToNat, ↓reduceIte, reduceCtorEq, Nat.reduceEqDiff, Nat.reduceAdd, Nat.reduceMul, Nat.reduceLT, Nat.reduceLeDiff, Nat.reduceBEq, Int.reduceBEq, Int.reduceBNe, String.reduceBEq, Int.reduceEq, Int.reduceLT, Int.reduceLE, Int.reduceGE, Int.reduceGT, f1, f2, f3, hrow, hrows_len]; clear hgb)
       | simp only [go_sem, Int.reduceToNat, ↓reduceIte, reduceCtorEq, Nat.reduceEqDiff, Nat.reduceAdd, Nat.reduceMul, Nat.reduceLT, Nat.reduceLeDiff, Nat.reduceBEq, Int.reduceBEq, Int.reduceBNe, String.reduceBEq, Int.reduceEq, Int.reduceLT, Int.reduceLE, Int.reduceGE, Int.reduceGT, f1, f2, f3, hrow, hrows_len, hAll]
       | (refine ite_guard (fun hg => ?_) (fun hg => ?_) <;> (try simp only [Bool.not_eq_true, Bool.not_eq_false, Decidable.not_not] at hg) <;> (first | have hgb : (_ : Bool) = _ := hg | have hgb := ff hg | have hgb := tt hg))
       | (refine ⟨fun hc => ht _ ?_, fun hc => hf _ ?_⟩ <;> clear ht hf KT KF)
       | fail)
    · have hno2 : (a, b) ∉ l.take (i + 1) := by rw [hs, List.mem_append, List.mem_singleton]; exact fun h => h.elim hno hcc
      by_cases h1 : c = a
      · subst h1
        have f5 := ff (show ¬ (d = b) from fun e => hcc (by rw [e]))
        repeat' (first
         | (with_reducible first | refine s_seq ?_ | refine s_block ?_ | refine s_region fun kr hr => ?_)
         | (with_reducible refine s_text tOk [7, 1000, 1001, 1002, 1003] (by kernel_rfl) (by simp [HeapIn, namers, namerDst, namerOp, namedOp, namedFn, ownLoad, Blk.has, hasRows, hasL, CV.has, hasRows_up, hasM_up, hasRows_append, f1, f2, f3, f5, hrow, hrows_len]; (try ((repeat' apply And.intro) <;> intros <;> omega))) fun kr hr => ?_)
         | (with_reducible first | refine s_op fun K' hk => ?_ | refine t_op fun K' hk => ?_ | (refine hk _ ?_; clear hk K') | (refine ht _ ?_; clear ht hf KT KF) | (refine hf _ ?_; clear ht hf KT KF) | ((first | refine s_nil ?_ | refine t_nil ?_); refine hr _ ?_; clear hr kr))
         | ((with_reducible refine n_seqK [0, 1, 2, 3, 4, 5, 6, 7, 8, 9, 10, 11, 15, 23, 25, 32] [7] ?_); simp only [mk_keep, keepL, List.mem_cons, List.not_mem_nil, Nat.reduceEqDiff, Nat.zero_ne_one, Nat.one_ne_zero, reduceCtorEq, or_false, false_or, or_true, true_or, or_self, eq_self, ↓reduceIte])
         | (with_reducible first | refine s_cond fun KT KF ht hf => ?_ | refine s_skip ?_)
         | ((with_reducible refine s_long ?_); simp only [List.cons_append, List.nil_append])
         | (with_reducible first | refine s_exit ?_ | refine s_ret ?_ | refine e_seq ?_ | refine r_seq ?_ | refine n_block ?_ | refine e_block ?_ | refine r_block ?_ | refine e_loop ?_ | refine r_loop ?_ | refine e_round ?_ | refine r_round ?_ | refine s_round ?_ | refine f_block ?_ (by decide) | refine r_res ?_ | refine n_res ?_)
         | (simp only [hgb, go_sem, Int.reduceToNat, ↓reduceIte, reduceCtorEq, Nat.reduceEqDiff, Nat.reduceAdd, Nat.reduceMul, Nat.reduceLT, Nat.reduceLeDiff, Nat.reduceBEq, Int.reduceBEq, Int.reduceBNe, String.reduceBEq, Int.reduceEq, Int.reduceLT, Int.reduceLE, Int.reduceGE, Int.reduceGT, f1, f2, f3, f5, hrow, hrows_len]; clear hgb)
         | simp only [go_sem, Int.reduceToNat, ↓reduceIte, reduceCtorEq, Nat.reduceEqDiff, Nat.reduceAdd, Nat.reduceMul, Nat.reduceLT, Nat.reduceLeDiff, Nat.reduceBEq, Int.reduceBEq, Int.reduceBNe, String.reduceBEq, Int.reduceEq, Int.reduceLT, Int.reduceLE, Int.reduceGE, Int.reduceGT, f1, f2, f3, f5, hrow, hrows_len, hAll]
         | (refine ite_guard (fun hg => ?_) (fun hg => ?_) <;> (try simp only [Bool.not_eq_true, Bool.not_eq_false, Decidable.not_not] at hg) <;> (first | have hgb : (_ : Bool) = _ := hg | have hgb := ff hg | have hgb := tt hg))
         | (refine ⟨fun hc => ht _ ?_, fun hc => hf _ ?_⟩ <;> clear ht hf KT KF)
         | fail)
        refine n_loop (i + 1) [0, 1, 2, 7, 8, 9, 10] [7] ⟨?_, hil, hno2⟩ (by omega)
        simp only [mk_keep, keepL, List.mem_cons, List.not_mem_nil, Nat.reduceEqDiff, Nat.zero_ne_one, Nat.one_ne_zero, reduceCtorEq, or_false, false_or, or_true, true_or, or_self, eq_self, ↓reduceIte]
      · have f5 := ff h1
        repeat' (first
         | (with_reducible first | refine s_seq ?_ | refine s_block ?_ | refine s_region fun kr hr => ?_)
         | (with_reducible refine s_text tOk [7, 1000, 1001, 1002, 1003] (by kernel_rfl) (by simp [HeapIn, namers, namerDst, namerOp, namedOp, namedFn, ownLoad, Blk.has, hasRows, hasL, CV.has, hasRows_up, hasM_up, hasRows_append, f1, f2, f3, f5, Bool.false_and, hrow, hrows_len]; (try ((repeat' apply And.intro) <;> intros <;> omega))) fun kr hr => ?_)
         | (with_reducible first | refine s_op fun K' hk => ?_ | refine t_op fun K' hk => ?_ | (refine hk _ ?_; clear hk K') | (refine ht _ ?_; clear ht hf KT KF) | (refine hf _ ?_; clear ht hf KT KF) | ((first | refine s_nil ?_ | refine t_nil ?_); refine hr _ ?_; clear hr kr))
         | ((with_reducible refine n_seqK [0, 1, 2, 3, 4, 5, 6, 7, 8, 9, 10, 11, 15, 23, 25, 32] [7] ?_); simp only [mk_keep, keepL, List.mem_cons, List.not_mem_nil, Nat.reduceEqDiff, Nat.zero_ne_one, Nat.one_ne_zero, reduceCtorEq, or_false, false_or, or_true, true_or, or_self, eq_self, ↓reduceIte])
         | (with_reducible first | refine s_cond fun KT KF ht hf => ?_ | refine s_skip ?_)
         | ((with_reducible refine s_long ?_); simp only [List.cons_append, List.nil_append])
         | (with_reducible first | refine s_exit ?_ | refine s_ret ?_ | refine e_seq ?_ | refine r_seq ?_ | refine n_block ?_ | refine e_block ?_ | refine r_block ?_ | refine e_loop ?_ | refine r_loop ?_ | refine e_round ?_ | refine r_round ?_ | refine s_round ?_ | refine f_block ?_ (by decide) | refine r_res ?_ | refine n_res ?_)
         | (simp only [hgb, go_sem, Int.reduceToNat, ↓reduceIte, reduceCtorEq, Nat.reduceEqDiff, Nat.reduceAdd, Nat.reduceMul, Nat.reduceLT, Nat.reduceLeDiff, Nat.reduceBEq, Int.reduceBEq, Int.reduceBNe, String.reduceBEq, Int.reduceEq, Int.reduceLT, Int.reduceLE, Int.reduceGE, Int.reduceGT, f1, f2, f3, f5, Bool.false_and, hrow, hrows_len]; clear hgb)
         | simp only [go_sem, Int.reduceToNat, ↓reduceIte, reduceCtorEq, Nat.reduceEqDiff, Nat.reduceAdd, Nat.reduceMul, Nat.reduceLT, Nat.reduceLeDiff, Nat.reduceBEq, Int.reduceBEq, Int.reduceBNe, String.reduceBEq, Int.reduceEq, Int.reduceLT, Int.reduceLE, Int.reduceGE, Int.reduceGT, f1, f2, f3, f5, Bool.false_and, hrow, hrows_len, hAll]
         | (refine ite_guard (fun hg => ?_) (fun hg => ?_) <;> (try simp only [Bool.not_eq_true, Bool.not_eq_false, Decidable.not_not] at hg) <;> (first | have hgb : (_ : Bool) = _ := hg | have hgb := ff hg | have hgb := tt hg))
         | (refine ⟨fun hc => ht _ ?_, fun hc => hf _ ?_⟩ <;> clear ht hf KT KF)
         | fail)
        refine n_loop (i + 1) [0, 1, 2, 7, 8, 9, 10] [7] ⟨?_, hil, hno2⟩ (by omega)
        simp only [mk_keep, keepL, List.mem_cons, List.not_mem_nil, Nat.reduceEqDiff, Nat.zero_ne_one, Nat.one_ne_zero, reduceCtorEq, or_false, false_or, or_true, true_or, or_self, eq_self, ↓reduceIte]
  · have f1 := ff (show ¬ ((i : Int) < l.length) by omega)
    rw [List.take_of_length_le (by omega)] at hno
    rw [if_neg hno] at hr
    generalize hO : insR m (a, b) l = O at *
    by_cases hk : l.length + 1 ≤ k
    · have g1 := tt (show (O.length : Int) ≤ k by omega)
      rw [if_pos hk] at hr
      subst hr
      repeat' (first
       | (with_reducible first | refine s_seq ?_ | refine s_block ?_ | refine s_region fun kr hr => ?_)
       | (with_reducible refine s_text tOk [7, 1000, 1001, 1002, 1003] (by kernel_rfl) (by simp [HeapIn, namers, namerDst, namerOp, namedOp, namedFn, ownLoad, Blk.has, hasRows, hasL, CV.has, hasRows_up, hasM_up, hasRows_append, f1, g1, hrows_len]; (try ((repeat' apply And.intro) <;> intros <;> omega))) fun kr hr => ?_)
       | (with_reducible first | refine s_op fun K' hk => ?_ | refine t_op fun K' hk => ?_ | (refine hk _ ?_; clear hk K') | (refine ht _ ?_; clear ht hf KT KF) | (refine hf _ ?_; clear ht hf KT KF) | ((first | refine s_nil ?_ | refine t_nil ?_); refine hr _ ?_; clear hr kr))
       | ((with_reducible refine n_seqK [0, 1, 2, 3, 4, 5, 6, 7, 8, 9, 10, 11, 15, 23, 25, 32] [7] ?_); simp only [mk_keep, keepL, List.mem_cons, List.not_mem_nil, Nat.reduceEqDiff, Nat.zero_ne_one, Nat.one_ne_zero, reduceCtorEq, or_false, false_or, or_true, true_or, or_self, eq_self, ↓reduceIte])
       | (with_reducible first | refine s_cond fun KT KF ht hf => ?_ | refine s_skip ?_)
       | ((with_reducible refine s_long ?_); simp only [List.cons_append, List.nil_append])
       | (with_reducible first | refine s_exit ?_ | refine s_ret ?_ | refine e_seq ?_ | refine r_seq ?_ | refine n_block ?_ | refine e_block ?_ | refine r_block ?_ | refine e_loop ?_ | refine r_loop ?_ | refine e_round ?_ | refine r_round ?_ | refine s_round ?_ | refine f_block ?_ (by decide) | refine r_res ?_ | refine n_res ?_)
       | (simp only [hgb, go_sem, Int.reduceToNat, ↓reduceIte, reduceCtorEq, Nat.reduceEqDiff, Nat.reduceAdd, Nat.reduceMul, Nat.reduceLT, Nat.reduceLeDiff, Nat.reduceBEq, Int.reduceBEq, Int.reduceBNe, String.reduceBEq, Int.reduceEq, Int.reduceLT, Int.reduceLE, Int.reduceGE, Int.reduceGT, f1, g1, hrows_len, callE, resSV, AV.flat, CV.flat, TV.flat]; clear hgb)
       | simp only [go_sem, Int.reduceToNat, ↓reduceIte, reduceCtorEq, Nat.reduceEqDiff, Nat.reduceAdd, Nat.reduceMul, Nat.reduceLT, Nat.reduceLeDiff, Nat.reduceBEq, Int.reduceBEq, Int.reduceBNe, String.reduceBEq, Int.reduceEq, Int.reduceLT, Int.reduceLE, Int.reduceGE, Int.reduceGT, f1, g1, hrows_len, callE, resSV, AV.flat, CV.flat, TV.flat, hAll]
       | refine Or.inl ⟨_, ⟨fun _ _ => rfl, hq⟩, ?_⟩
       | refine ⟨_, ⟨fun _ _ => rfl, hq⟩, ?_⟩
       | (refine ite_guard (fun hg => ?_) (fun hg => ?_) <;> (try simp only [Bool.not_eq_true, Bool.not_eq_false, Decidable.not_not] at hg) <;> (first | have hgb : (_ : Bool) = _ := hg | have hgb := ff hg | have hgb := tt hg))
       | (refine ⟨fun hc => ht _ ?_, fun hc => hf _ ?_⟩ <;> clear ht hf KT KF)
       | fail)
    · have g1 := ff (show ¬ (O.length : Int) ≤ k by omega)
      rw [if_neg hk] at hr
      subst hr
      have g2 : (hrows O)[k]? = some (hrow (hg O k)) := by rw [hrows_get, get_of_lt (by omega), hg_get]; rfl
      have g3 := tt (show k ≤ O.length by omega)
      have g4 : List.take k (hrows O) = hrows (O.take k) := by simp [hrows, List.map_take]
      obtain ⟨⟨c, d⟩, hc⟩ : ∃ z, hg O k = z := ⟨_, rfl⟩
      rw [hc] at g2
      rw [hc]
      have g5 := tt (Nat.zero_le k)
      repeat' (first
       | (with_reducible first | refine s_seq ?_ | refine s_block ?_ | refine s_region fun kr hr => ?_)
       | (with_reducible refine s_text tOk [7, 1000, 1001, 1002, 1003] (by kernel_rfl) (by simp [HeapIn, namers, namerDst, namerOp, namedOp, namedFn, ownLoad, Blk.has, hasRows, hasL, CV.has, hasRows_up, hasM_up, hasRows_append, f1, g1, g2, g3, g4, g5, hrow, hrows_len]; (try ((repeat' apply And.intro) <;> intros <;> omega))) fun kr hr => ?_)
       | (with_reducible first | refine s_op fun K' hk => ?_ | refine t_op fun K' hk => ?_ | (refine hk _ ?_; clear hk K') | (refine ht _ ?_; clear ht hf KT KF) | (refine hf _ ?_; clear ht hf KT KF) | ((first | refine s_nil ?_ | refine t_nil ?_); refine hr _ ?_; clear hr kr))
       | ((with_reducible refine n_seqK [0, 1, 2, 3, 4, 5, 6, 7, 8, 9, 10, 11, 15, 23, 25, 32] [7] ?_); simp only [mk_keep, keepL, List.mem_cons, List.not_mem_nil, Nat.reduceEqDiff, Nat.zero_ne_one, Nat.one_ne_zero, reduceCtorEq, or_false, false_or, or_true, true_or, or_self, eq_self, ↓reduceIte])
       | (with_reducible first | refine s_cond fun KT KF ht hf => ?_ | refine s_skip ?_)
       | ((with_reducible refine s_long ?_); simp only [List.cons_append, List.nil_append])
       | (with_reducible first | refine s_exit ?_ | refine s_ret ?_ | refine e_seq ?_ | refine r_seq ?_ | refine n_block ?_ | refine e_block ?_ | refine r_block ?_ | refine e_loop ?_ | refine r_loop ?_ | refine e_round ?_ | refine r_round ?_ | refine s_round ?_ | refine f_block ?_ (by decide) | refine r_res ?_ | refine n_res ?_)
       | (simp only [hgb, go_sem, Int.reduceToNat, ↓reduceIte, reduceCtorEq, Nat.reduceEqDiff, Nat.reduceAdd, Nat.reduceMul, Nat.reduceLT, Nat.reduceLeDiff, Nat.reduceBEq, Int.reduceBEq, Int.reduceBNe, String.reduceBEq, Int.reduceEq, Int.reduceLT, Int.reduceLE, Int.reduceGE, Int.reduceGT, f1, g1, g2, g3, g4, g5, hrow, hrows_len, callE, resSV, AV.flat, CV.flat, TV.flat]; clear hgb)
       | simp only [go_sem, Int.reduceToNat, ↓reduceIte, reduceCtorEq, Nat.reduceEqDiff, Nat.reduceAdd, Nat.reduceMul, Nat.reduceLT, Nat.reduceLeDiff, Nat.reduceBEq, Int.reduceBEq, Int.reduceBNe, String.reduceBEq, Int.reduceEq, Int.reduceLT, Int.reduceLE, Int.reduceGE, Int.reduceGT, f1, g1, g2, g3, g4, g5, hrow, hrows_len, callE, resSV, AV.flat, CV.flat, TV.flat, hAll]
       | refine Or.inl ⟨_, ⟨fun _ _ => rfl, hq⟩, ?_⟩
       | refine ⟨_, ⟨fun _ _ => rfl, hq⟩, ?_⟩
       | (refine ite_guard (fun hg => ?_) (fun hg => ?_) <;> (try simp only [Bool.not_eq_true, Bool.not_eq_false, Decidable.not_not] at hg) <;> (first | have hgb : (_ : Bool) = _ := hg | have hgb := ff hg | have hgb := tt hg))
       | (refine ⟨fun hc => ht _ ?_, fun hc => hf _ ?_⟩ <;> clear ht hf KT KF)
       | fail)
      simp [Prod.mk.injEq]
def uq (o : List Ht) (x : Ht) : List Ht := if x ∈ o then o else o ++ [x]
def uniq (l : List Ht) : List Ht := l.foldl uq []
theorem uq_len (l : List Ht) : ∀ o : List Ht, (l.foldl uq o).length ≤ o.length + l.length := by
  induction l with
  | nil => intro o; simp
  | cons x l ih =>
    intro o
    rw [List.foldl_cons, List.length_cons]
    refine Nat.le_trans (ih _) ?_
    unfold uq; split <;> simp <;> omega
theorem uniq_take {l : List Ht} {k : Nat} (h : k < l.length) : uniq (l.take (k + 1)) = uq (uniq (l.take k)) l[k] := by
  rw [uniq, List.take_succ_eq_append_getElem h, List.foldl_append]; rfl
theorem uniq_len (l : List Ht) : (uniq l).length ≤ l.length := by have := uq_len l []; simpa [uniq] using this
set_option maxHeartbeats 4000000 in
theorem unlike_spec (l : List Ht) (hl : l.length * 16 ≤ 140737488355328) : Spec Try.prog 22 [.v (.t (.sl 2 (hrows l)))] [] [.v (.mr 39 0 (uniq l).length)] [(39, listB (uniq l))] := by
  refine spec_by Try.func22 rfl mixed tOk evOk (n := 41) rfl (by simp) (by simp) ?_
  rw [initSt_mk, show Try.f22.results.toList = [.tmp 2] from rfl]
  simp only [initL, AV.sv, List.map_cons, List.map_nil, Nat.reduceAdd, Nat.zero_add, listB]
  repeat' (first
   | (with_reducible first | refine s_seq ?_ | refine s_block ?_ | refine s_region fun kr hr => ?_)
   | (with_reducible refine s_text tOk [38, 39, 1000, 1001, 1002, 1003] (by kernel_rfl) (by simp [HeapIn, namers, namerDst, namerOp, namedOp, namedFn, ownLoad, Blk.has, hasRows, hasL, CV.has, hasRows_up, hasM_up, hasRows_append, hrows_len]; (try ((repeat' apply And.intro) <;> intros <;> omega))) fun kr hr => ?_)
   | (with_reducible first | refine s_op fun K' hk => ?_ | refine t_op fun K' hk => ?_ | (refine hk _ ?_; clear hk K') | (refine ht _ ?_; clear ht hf KT KF) | (refine hf _ ?_; clear ht hf KT KF) | ((first | refine s_nil ?_ | refine t_nil ?_); refine hr _ ?_; clear hr kr))
   | ((with_reducible refine n_seqK [0, 1, 2, 3, 4, 5, 6, 10, 16, 23, 25, 32] [38, 39] ?_); simp only [mk_keep, keepL, List.mem_cons, List.not_mem_nil, Nat.reduceEqDiff, Nat.zero_ne_one, Nat.one_ne_zero, reduceCtorEq, or_false, false_or, or_true, true_or, or_self, eq_self, ↓reduceIte])
   | (with_reducible first | refine s_cond fun KT KF ht hf => ?_ | refine s_skip ?_)
   | ((with_reducible refine s_long ?_); simp only [List.cons_append, List.nil_append])
   | (with_reducible first | refine s_exit ?_ | refine s_ret ?_ | refine e_seq ?_ | refine r_seq ?_ | refine n_block ?_ | refine e_block ?_ | refine r_block ?_ | refine e_loop ?_ | refine r_loop ?_ | refine e_round ?_ | refine r_round ?_ | refine s_round ?_ | refine f_block ?_ (by decide) | refine r_res ?_ | refine n_res ?_)
   | (simp only [hgb, go_sem, Int.reduceToNat, ↓reduceIte, reduceCtorEq, Nat.reduceEqDiff, Nat.reduceAdd, Nat.reduceMul, Nat.reduceLT, Nat.reduceLeDiff, Nat.reduceBEq, Int.reduceBEq, Int.reduceBNe, String.reduceBEq, Int.reduceEq, Int.reduceLT, Int.reduceLE, Int.reduceGE, Int.reduceGT, hrows_len]; clear hgb)
   | simp only [go_sem, Int.reduceToNat, ↓reduceIte, reduceCtorEq, Nat.reduceEqDiff, Nat.reduceAdd, Nat.reduceMul, Nat.reduceLT, Nat.reduceLeDiff, Nat.reduceBEq, Int.reduceBEq, Int.reduceBNe, String.reduceBEq, Int.reduceEq, Int.reduceLT, Int.reduceLE, Int.reduceGE, Int.reduceGT, hrows_len, hAll]
   | (refine ite_guard (fun hg => ?_) (fun hg => ?_) <;> (try simp only [Bool.not_eq_true, Bool.not_eq_false, Decidable.not_not] at hg) <;> (first | have hgb : (_ : Bool) = _ := hg | have hgb := ff hg | have hgb := tt hg))
   | (refine ⟨fun hc => ht _ ?_, fun hc => hf _ ?_⟩ <;> clear ht hf KT KF)
   | fail)
  refine w_loopG _ (gho_nilName (s := 3) (d := 39) (sz := 2) (by decide) ⟨2, rfl⟩ (by rw [fresh_t]; exact trivial; rfl)) ?_
  rw [mk_nilName]
  refine w_loop [0, 2, 3, 4] [39] (σ := Nat) (fun k st => st = mk [(0, .c (.t (.sl 2 (hrows l)))), (2, .c (.own 2 [])), (3, .c (.mr 39 0 (uniq (l.take k)).length)), (4, .c (.t (.int .i64 k)))] [(39, .cells 2 (up (hrows (uniq (l.take k)))))] ∧ k ≤ l.length) (fun k => l.length - k) 0 ?_ ?_
  · refine ⟨?_, Nat.zero_le _⟩
    simp only [go_sem, Int.reduceToNat, ↓reduceIte, reduceCtorEq, Nat.reduceEqDiff, Nat.reduceAdd, Nat.reduceMul, Nat.reduceLT, Nat.reduceLeDiff, Nat.reduceBEq, Int.reduceBEq, Int.reduceBNe, String.reduceBEq, Int.reduceEq, Int.reduceLT, Int.reduceLE, Int.reduceGE, Int.reduceGT, mk_keep, keepL, List.mem_cons, List.not_mem_nil, Nat.reduceEqDiff, Nat.zero_ne_one, Nat.one_ne_zero, reduceCtorEq, or_false, false_or, or_true, true_or, or_self, eq_self, ↓reduceIte]
    rfl
  rintro k st ⟨rfl, hk⟩
  by_cases hkl : k < l.length
  · have f1 := tt (show (k : Int) < l.length by omega)
    have f2 : (hrows l)[k]? = some (hrow l[k]) := by rw [hrows_get, get_of_lt (by omega)]; rfl
    have f3 := wUp (k := k) (n := l.length) (by omega) (by omega)
    have hut := uniq_take hkl
    have hul := uniq_len (l.take k)
    rw [List.length_take, Nat.min_eq_left hk] at hul
    generalize uniq (l.take k) = U at *
    obtain ⟨⟨a, b⟩, hc⟩ : ∃ z, l[k] = z := ⟨_, rfl⟩
    rw [hc] at f2 hut
    have e1 : (up (hrows U)).take U.length = up (hrows U) := List.take_of_length_le (by simp [up, hrows])
    have e2 : (up (hrows U)).length = U.length := by simp [up, hrows]
    repeat' (first
     | (with_reducible first | refine s_seq ?_ | refine s_block ?_ | refine s_region fun kr hr => ?_)
     | (with_reducible refine s_text tOk [38, 39, 1000, 1001, 1002, 1003] (by kernel_rfl) (by simp [HeapIn, namers, namerDst, namerOp, namedOp, namedFn, ownLoad, Blk.has, hasRows, hasL, CV.has, hasRows_up, hasM_up, hasRows_append, f1, f2, f3, hrow, hrows_len]; (try ((repeat' apply And.intro) <;> intros <;> omega))) fun kr hr => ?_)
     | (with_reducible first | refine s_op fun K' hk => ?_ | refine t_op fun K' hk => ?_ | (refine hk _ ?_; clear hk K') | (refine ht _ ?_; clear ht hf KT KF) | (refine hf _ ?_; clear ht hf KT KF) | ((first | refine s_nil ?_ | refine t_nil ?_); refine hr _ ?_; clear hr kr))
     | ((with_reducible refine n_seqK [0, 1, 2, 3, 4, 5, 6, 10, 16, 23, 25, 32] [38, 39] ?_); simp only [mk_keep, keepL, List.mem_cons, List.not_mem_nil, Nat.reduceEqDiff, Nat.zero_ne_one, Nat.one_ne_zero, reduceCtorEq, or_false, false_or, or_true, true_or, or_self, eq_self, ↓reduceIte])
     | (with_reducible first | refine s_cond fun KT KF ht hf => ?_ | refine s_skip ?_)
     | ((with_reducible refine s_long ?_); simp only [List.cons_append, List.nil_append])
     | (with_reducible first | refine s_exit ?_ | refine s_ret ?_ | refine e_seq ?_ | refine r_seq ?_ | refine n_block ?_ | refine e_block ?_ | refine r_block ?_ | refine e_loop ?_ | refine r_loop ?_ | refine e_round ?_ | refine r_round ?_ | refine s_round ?_ | refine f_block ?_ (by decide) | refine r_res ?_ | refine n_res ?_)
     | (simp only [hgb, go_sem, Int.reduceToNat, ↓reduceIte, reduceCtorEq, Nat.reduceEqDiff, Nat.reduceAdd, Nat.reduceMul, Nat.reduceLT, Nat.reduceLeDiff, Nat.reduceBEq, Int.reduceBEq, Int.reduceBNe, String.reduceBEq, Int.reduceEq, Int.reduceLT, Int.reduceLE, Int.reduceGE, Int.reduceGT, f1, f2, f3, hrow, hrows_len]; clear hgb)
     | simp only [go_sem, Int.reduceToNat, ↓reduceIte, reduceCtorEq, Nat.reduceEqDiff, Nat.reduceAdd, Nat.reduceMul, Nat.reduceLT, Nat.reduceLeDiff, Nat.reduceBEq, Int.reduceBEq, Int.reduceBNe, String.reduceBEq, Int.reduceEq, Int.reduceLT, Int.reduceLE, Int.reduceGE, Int.reduceGT, f1, f2, f3, hrow, hrows_len, hAll]
     | (refine ite_guard (fun hg => ?_) (fun hg => ?_) <;> (try simp only [Bool.not_eq_true, Bool.not_eq_false, Decidable.not_not] at hg) <;> (first | have hgb : (_ : Bool) = _ := hg | have hgb := ff hg | have hgb := tt hg))
     | (refine ⟨fun hc => ht _ ?_, fun hc => hf _ ?_⟩ <;> clear ht hf KT KF)
     | fail)
    refine w_loop [0, 2, 3, 4, 5, 6] [39] (σ := Nat) (fun i st => st = mk [(0, .c (.t (.sl 2 (hrows l)))), (2, .c (.own 2 [])), (3, .c (.mr 39 0 U.length)), (4, .c (.t (.int .i64 k))), (5, .c (.t (.bool (decide ((a, b) ∈ U.take i))))), (6, .c (.t (.int .i64 i)))] [(39, .cells 2 (up (hrows U)))] ∧ i ≤ U.length) (fun i => U.length - i) 0 ?_ ?_
    · refine ⟨?_, Nat.zero_le _⟩
      simp only [go_sem, Int.reduceToNat, ↓reduceIte, reduceCtorEq, Nat.reduceEqDiff, Nat.reduceAdd, Nat.reduceMul, Nat.reduceLT, Nat.reduceLeDiff, Nat.reduceBEq, Int.reduceBEq, Int.reduceBNe, String.reduceBEq, Int.reduceEq, Int.reduceLT, Int.reduceLE, Int.reduceGE, Int.reduceGT, mk_keep, keepL, List.mem_cons, List.not_mem_nil, Nat.reduceEqDiff, Nat.zero_ne_one, Nat.one_ne_zero, reduceCtorEq, or_false, false_or, or_true, true_or, or_self, eq_self, ↓reduceIte, List.take_zero, List.not_mem_nil, decide_false]
    rintro i st ⟨rfl, hi⟩
    by_cases hil : i < U.length
    · have p1 := tt (show (i : Int) < U.length by omega)
      have p2 : (up (hrows U))[i]? = some (hcell U[i]) := by rw [hcell_get, get_of_lt (by omega)]; rfl
      have p3 := wUp (k := i) (n := U.length) (by omega) (by omega)
      have hs := List.take_succ_eq_append_getElem hil
      obtain ⟨⟨c, d⟩, hc'⟩ : ∃ z, U[i] = z := ⟨_, rfl⟩
      rw [hc'] at p2 hs
      cases hse : decide ((a, b) ∈ U.take i)
      · have hno : (a, b) ∉ U.take i := by simpa using hse
        by_cases h1 : c = a
        · subst h1
          by_cases h2 : d = b
          · subst h2
            repeat' (first
             | (with_reducible first | refine s_seq ?_ | refine s_block ?_ | refine s_region fun kr hr => ?_)
             | (with_reducible refine s_text tOk [38, 39, 1000, 1001, 1002, 1003] (by kernel_rfl) (by simp [HeapIn, namers, namerDst, namerOp, namedOp, namedFn, ownLoad, Blk.has, hasRows, hasL, CV.has, hasRows_up, hasM_up, hasRows_append, f1, f2, f3, p1, p2, p3, hrow, hcell, hrows_len, e2]; (try ((repeat' apply And.intro) <;> intros <;> omega))) fun kr hr => ?_)
             | (with_reducible first | refine s_op fun K' hk => ?_ | refine t_op fun K' hk => ?_ | (refine hk _ ?_; clear hk K') | (refine ht _ ?_; clear ht hf KT KF) | (refine hf _ ?_; clear ht hf KT KF) | ((first | refine s_nil ?_ | refine t_nil ?_); refine hr _ ?_; clear hr kr))
             | ((with_reducible refine n_seqK [0, 1, 2, 3, 4, 5, 6, 10, 16, 23, 25, 32] [38, 39] ?_); simp only [mk_keep, keepL, List.mem_cons, List.not_mem_nil, Nat.reduceEqDiff, Nat.zero_ne_one, Nat.one_ne_zero, reduceCtorEq, or_false, false_or, or_true, true_or, or_self, eq_self, ↓reduceIte])
             | (with_reducible first | refine s_cond fun KT KF ht hf => ?_ | refine s_skip ?_)
             | ((with_reducible refine s_long ?_); simp only [List.cons_append, List.nil_append])
             | (with_reducible first | refine s_exit ?_ | refine s_ret ?_ | refine e_seq ?_ | refine r_seq ?_ | refine n_block ?_ | refine e_block ?_ | refine r_block ?_ | refine e_loop ?_ | refine r_loop ?_ | refine e_round ?_ | refine r_round ?_ | refine s_round ?_ | refine f_block ?_ (by decide) | refine r_res ?_ | refine n_res ?_)
             | (simp only [hgb, go_sem, Int.reduceToNat, ↓reduceIte, reduceCtorEq, Nat.reduceEqDiff, Nat.reduceAdd, Nat.reduceMul, Nat.reduceLT, Nat.reduceLeDiff, Nat.reduceBEq, Int.reduceBEq, Int.reduceBNe, String.reduceBEq, Int.reduceEq, Int.reduceLT, Int.reduceLE, Int.reduceGE, Int.reduceGT, f1, f2, f3, p1, p2, p3, hrow, hcell, hrows_len, e2]; clear hgb)
             | simp only [go_sem, Int.reduceToNat, ↓reduceIte, reduceCtorEq, Nat.reduceEqDiff, Nat.reduceAdd, Nat.reduceMul, Nat.reduceLT, Nat.reduceLeDiff, Nat.reduceBEq, Int.reduceBEq, Int.reduceBNe, String.reduceBEq, Int.reduceEq, Int.reduceLT, Int.reduceLE, Int.reduceGE, Int.reduceGT, f1, f2, f3, p1, p2, p3, hrow, hcell, hrows_len, e2, hAll]
             | (refine ite_guard (fun hg => ?_) (fun hg => ?_) <;> (try simp only [Bool.not_eq_true, Bool.not_eq_false, Decidable.not_not] at hg) <;> (first | have hgb : (_ : Bool) = _ := hg | have hgb := ff hg | have hgb := tt hg))
             | (refine ⟨fun hc => ht _ ?_, fun hc => hf _ ?_⟩ <;> clear ht hf KT KF)
             | fail)
            refine n_loop (i + 1) [0, 2, 3, 4, 5, 6] [39] ⟨?_, hil⟩ (by omega)
            simp only [mk_keep, keepL, List.mem_cons, List.not_mem_nil, Nat.reduceEqDiff, Nat.zero_ne_one, Nat.one_ne_zero, reduceCtorEq, or_false, false_or, or_true, true_or, or_self, eq_self, ↓reduceIte, hs]
            simp
          · have f5 := ff h2
            repeat' (first
             | (with_reducible first | refine s_seq ?_ | refine s_block ?_ | refine s_region fun kr hr => ?_)
             | (with_reducible refine s_text tOk [38, 39, 1000, 1001, 1002, 1003] (by kernel_rfl) (by simp [HeapIn, namers, namerDst, namerOp, namedOp, namedFn, ownLoad, Blk.has, hasRows, hasL, CV.has, hasRows_up, hasM_up, hasRows_append, f1, f2, f3, f5, p1, p2, p3, hrow, hcell, hrows_len, e2]; (try ((repeat' apply And.intro) <;> intros <;> omega))) fun kr hr => ?_)
             | (with_reducible first | refine s_op fun K' hk => ?_ | refine t_op fun K' hk => ?_ | (refine hk _ ?_; clear hk K') | (refine ht _ ?_; clear ht hf KT KF) | (refine hf _ ?_; clear ht hf KT KF) | ((first | refine s_nil ?_ | refine t_nil ?_); refine hr _ ?_; clear hr kr))
             | ((with_reducible refine n_seqK [0, 1, 2, 3, 4, 5, 6, 10, 16, 23, 25, 32] [38, 39] ?_); simp only [mk_keep, keepL, List.mem_cons, List.not_mem_nil, Nat.reduceEqDiff, Nat.zero_ne_one, Nat.one_ne_zero, reduceCtorEq, or_false, false_or, or_true, true_or, or_self, eq_self, ↓reduceIte])
             | (with_reducible first | refine s_cond fun KT KF ht hf => ?_ | refine s_skip ?_)
             | ((with_reducible refine s_long ?_); simp only [List.cons_append, List.nil_append])
             | (with_reducible first | refine s_exit ?_ | refine s_ret ?_ | refine e_seq ?_ | refine r_seq ?_ | refine n_block ?_ | refine e_block ?_ | refine r_block ?_ | refine e_loop ?_ | refine r_loop ?_ | refine e_round ?_ | refine r_round ?_ | refine s_round ?_ | refine f_block ?_ (by decide) | refine r_res ?_ | refine n_res ?_)
             | (simp only [hgb, go_sem, Int.reduceToNat, ↓reduceIte, reduceCtorEq, Nat.reduceEqDiff, Nat.reduceAdd, Nat.reduceMul, Nat.reduceLT, Nat.reduceLeDiff, Nat.reduceBEq, Int.reduceBEq, Int.reduceBNe, String.reduceBEq, Int.reduceEq, Int.reduceLT, Int.reduceLE, Int.reduceGE, Int.reduceGT, f1, f2, f3, f5, p1, p2, p3, hrow, hcell, hrows_len, e2]; clear hgb)
             | simp only [go_sem, Int.reduceToNat, ↓reduceIte, reduceCtorEq, Nat.reduceEqDiff, Nat.reduceAdd, Nat.reduceMul, Nat.reduceLT, Nat.reduceLeDiff, Nat.reduceBEq, Int.reduceBEq, Int.reduceBNe, String.reduceBEq, Int.reduceEq, Int.reduceLT, Int.reduceLE, Int.reduceGE, Int.reduceGT, f1, f2, f3, f5, p1, p2, p3, hrow, hcell, hrows_len, e2, hAll]
             | (refine ite_guard (fun hg => ?_) (fun hg => ?_) <;> (try simp only [Bool.not_eq_true, Bool.not_eq_false, Decidable.not_not] at hg) <;> (first | have hgb : (_ : Bool) = _ := hg | have hgb := ff hg | have hgb := tt hg))
             | (refine ⟨fun hc => ht _ ?_, fun hc => hf _ ?_⟩ <;> clear ht hf KT KF)
             | fail)
            refine n_loop (i + 1) [0, 2, 3, 4, 5, 6] [39] ⟨?_, hil⟩ (by omega)
            have : decide ((c, b) ∈ U.take (i + 1)) = false := by rw [hs]; simp [hno]; exact fun e => h2 e.symm
            simp only [mk_keep, keepL, List.mem_cons, List.not_mem_nil, Nat.reduceEqDiff, Nat.zero_ne_one, Nat.one_ne_zero, reduceCtorEq, or_false, false_or, or_true, true_or, or_self, eq_self, ↓reduceIte, this]
        · have f5 := ff h1
          repeat' (first
           | (with_reducible first | refine s_seq ?_ | refine s_block ?_ | refine s_region fun kr hr => ?_)
           | (with_reducible refine s_text tOk [38, 39, 1000, 1001, 1002, 1003] (by kernel_rfl) (by simp [HeapIn, namers, namerDst, namerOp, namedOp, namedFn, ownLoad, Blk.has, hasRows, hasL, CV.has, hasRows_up, hasM_up, hasRows_append, f1, f2, f3, f5, p1, p2, p3, Bool.false_and, hrow, hcell, hrows_len, e2]; (try ((repeat' apply And.intro) <;> intros <;> omega))) fun kr hr => ?_)
           | (with_reducible first | refine s_op fun K' hk => ?_ | refine t_op fun K' hk => ?_ | (refine hk _ ?_; clear hk K') | (refine ht _ ?_; clear ht hf KT KF) | (refine hf _ ?_; clear ht hf KT KF) | ((first | refine s_nil ?_ | refine t_nil ?_); refine hr _ ?_; clear hr kr))
           | ((with_reducible refine n_seqK [0, 1, 2, 3, 4, 5, 6, 10, 16, 23, 25, 32] [38, 39] ?_); simp only [mk_keep, keepL, List.mem_cons, List.not_mem_nil, Nat.reduceEqDiff, Nat.zero_ne_one, Nat.one_ne_zero, reduceCtorEq, or_false, false_or, or_true, true_or, or_self, eq_self, ↓reduceIte])
           | (with_reducible first | refine s_cond fun KT KF ht hf => ?_ | refine s_skip ?_)
           | ((with_reducible refine s_long ?_); simp only [List.cons_append, List.nil_append])
           | (with_reducible first | refine s_exit ?_ | refine s_ret ?_ | refine e_seq ?_ | refine r_seq ?_ | refine n_block ?_ | refine e_block ?_ | refine r_block ?_ | refine e_loop ?_ | refine r_loop ?_ | refine e_round ?_ | refine r_round ?_ | refine s_round ?_ | refine f_block ?_ (by decide) | refine r_res ?_ | refine n_res ?_)
           | (simp only [hgb, go_sem, Int.reduceToNat, ↓reduceIte, reduceCtorEq, Nat.reduceEqDiff, Nat.reduceAdd, Nat.reduceMul, Nat.reduceLT, Nat.reduceLeDiff, Nat.reduceBEq, Int.reduceBEq, Int.reduceBNe, String.reduceBEq, Int.reduceEq, Int.reduceLT, Int.reduceLE, Int.reduceGE, Int.reduceGT, f1, f2, f3, f5, p1, p2, p3, Bool.false_and, hrow, hcell, hrows_len, e2]; clear hgb)
           | simp only [go_sem, Int.reduceToNat, ↓reduceIte, reduceCtorEq, Nat.reduceEqDiff, Nat.reduceAdd, Nat.reduceMul, Nat.reduceLT, Nat.reduceLeDiff, Nat.reduceBEq, Int.reduceBEq, Int.reduceBNe, String.reduceBEq, Int.reduceEq, Int.reduceLT, Int.reduceLE, Int.reduceGE, Int.reduceGT, f1, f2, f3, f5, p1, p2, p3, Bool.false_and, hrow, hcell, hrows_len, e2, hAll]
           | (refine ite_guard (fun hg => ?_) (fun hg => ?_) <;> (try simp only [Bool.not_eq_true, Bool.not_eq_false, Decidable.not_not] at hg) <;> (first | have hgb : (_ : Bool) = _ := hg | have hgb := ff hg | have hgb := tt hg))
           | (refine ⟨fun hc => ht _ ?_, fun hc => hf _ ?_⟩ <;> clear ht hf KT KF)
           | fail)
          refine n_loop (i + 1) [0, 2, 3, 4, 5, 6] [39] ⟨?_, hil⟩ (by omega)
          have : decide ((a, b) ∈ U.take (i + 1)) = false := by rw [hs]; simp [hno]; exact fun e => absurd e.symm h1
          simp only [mk_keep, keepL, List.mem_cons, List.not_mem_nil, Nat.reduceEqDiff, Nat.zero_ne_one, Nat.one_ne_zero, reduceCtorEq, or_false, false_or, or_true, true_or, or_self, eq_self, ↓reduceIte, this]
      · have hyes : (a, b) ∈ U.take i := by simpa using hse
        repeat' (first
         | (with_reducible first | refine s_seq ?_ | refine s_block ?_ | refine s_region fun kr hr => ?_)
         | (with_reducible refine s_text tOk [38, 39, 1000, 1001, 1002, 1003] (by kernel_rfl) (by simp [HeapIn, namers, namerDst, namerOp, namedOp, namedFn, ownLoad, Blk.has, hasRows, hasL, CV.has, hasRows_up, hasM_up, hasRows_append, f1, f2, f3, p1, p2, p3, hrow, hcell, hrows_len, e2]; (try ((repeat' apply And.intro) <;> intros <;> omega))) fun kr hr => ?_)
         | (with_reducible first | refine s_op fun K' hk => ?_ | refine t_op fun K' hk => ?_ | (refine hk _ ?_; clear hk K') | (refine ht _ ?_; clear ht hf KT KF) | (refine hf _ ?_; clear ht hf KT KF) | ((first | refine s_nil ?_ | refine t_nil ?_); refine hr _ ?_; clear hr kr))
         | ((with_reducible refine n_seqK [0, 1, 2, 3, 4, 5, 6, 10, 16, 23, 25, 32] [38, 39] ?_); simp only [mk_keep, keepL, List.mem_cons, List.not_mem_nil, Nat.reduceEqDiff, Nat.zero_ne_one, Nat.one_ne_zero, reduceCtorEq, or_false, false_or, or_true, true_or, or_self, eq_self, ↓reduceIte])
         | (with_reducible first | refine s_cond fun KT KF ht hf => ?_ | refine s_skip ?_)
         | ((with_reducible refine s_long ?_); simp only [List.cons_append, List.nil_append])
         | (with_reducible first | refine s_exit ?_ | refine s_ret ?_ | refine e_seq ?_ | refine r_seq ?_ | refine n_block ?_ | refine e_block ?_ | refine r_block ?_ | refine e_loop ?_ | refine r_loop ?_ | refine e_round ?_ | refine r_round ?_ | refine s_round ?_ | refine f_block ?_ (by decide) | refine r_res ?_ | refine n_res ?_)
         | (simp only [hgb, go_sem, Int.reduceToNat, ↓reduceIte, reduceCtorEq, Nat.reduceEqDiff, Nat.reduceAdd, Nat.reduceMul, Nat.reduceLT, Nat.reduceLeDiff, Nat.reduceBEq, Int.reduceBEq, Int.reduceBNe, String.reduceBEq, Int.reduceEq, Int.reduceLT, Int.reduceLE, Int.reduceGE, Int.reduceGT, f1, f2, f3, p1, p2, p3, hrow, hcell, hrows_len, e2]; clear hgb)
         | simp only [go_sem, Int.reduceToNat, ↓reduceIte, reduceCtorEq, Nat.reduceEqDiff, Nat.reduceAdd, Nat.reduceMul, Nat.reduceLT, Nat.reduceLeDiff, Nat.reduceBEq, Int.reduceBEq, Int.reduceBNe, String.reduceBEq, Int.reduceEq, Int.reduceLT, Int.reduceLE, Int.reduceGE, Int.reduceGT, f1, f2, f3, p1, p2, p3, hrow, hcell, hrows_len, e2, hAll]
         | (refine ite_guard (fun hg => ?_) (fun hg => ?_) <;> (try simp only [Bool.not_eq_true, Bool.not_eq_false, Decidable.not_not] at hg) <;> (first | have hgb : (_ : Bool) = _ := hg | have hgb := ff hg | have hgb := tt hg))
         | (refine ⟨fun hc => ht _ ?_, fun hc => hf _ ?_⟩ <;> clear ht hf KT KF)
         | fail)
        refine n_loop (i + 1) [0, 2, 3, 4, 5, 6] [39] ⟨?_, hil⟩ (by omega)
        have : decide ((a, b) ∈ U.take (i + 1)) = true := by rw [hs]; simp [hyes]
        simp only [mk_keep, keepL, List.mem_cons, List.not_mem_nil, Nat.reduceEqDiff, Nat.zero_ne_one, Nat.one_ne_zero, reduceCtorEq, or_false, false_or, or_true, true_or, or_self, eq_self, ↓reduceIte, this]
    · have p1 := ff (show ¬ ((i : Int) < U.length) by omega)
      rw [List.take_of_length_le (by omega)]
      by_cases hmem : (a, b) ∈ U
      · rw [show decide ((a, b) ∈ U) = true by simpa using hmem]
        rw [uq, if_pos hmem] at hut
        repeat' (first
         | (with_reducible first | refine s_seq ?_ | refine s_block ?_ | refine s_region fun kr hr => ?_)
         | (with_reducible refine s_text tOk [38, 39, 1000, 1001, 1002, 1003] (by kernel_rfl) (by simp [HeapIn, namers, namerDst, namerOp, namedOp, namedFn, ownLoad, Blk.has, hasRows, hasL, CV.has, hasRows_up, hasM_up, hasRows_append, f1, f2, f3, p1, hrow, hcell, hrows_len, e2]; (try ((repeat' apply And.intro) <;> intros <;> omega))) fun kr hr => ?_)
         | (with_reducible first | refine s_op fun K' hk => ?_ | refine t_op fun K' hk => ?_ | (refine hk _ ?_; clear hk K') | (refine ht _ ?_; clear ht hf KT KF) | (refine hf _ ?_; clear ht hf KT KF) | ((first | refine s_nil ?_ | refine t_nil ?_); refine hr _ ?_; clear hr kr))
         | ((with_reducible refine n_seqK [0, 1, 2, 3, 4, 5, 6, 10, 16, 23, 25, 32] [38, 39] ?_); simp only [mk_keep, keepL, List.mem_cons, List.not_mem_nil, Nat.reduceEqDiff, Nat.zero_ne_one, Nat.one_ne_zero, reduceCtorEq, or_false, false_or, or_true, true_or, or_self, eq_self, ↓reduceIte])
         | (with_reducible first | refine s_cond fun KT KF ht hf => ?_ | refine s_skip ?_)
         | ((with_reducible refine s_long ?_); simp only [List.cons_append, List.nil_append])
         | (with_reducible first | refine s_exit ?_ | refine s_ret ?_ | refine e_seq ?_ | refine r_seq ?_ | refine n_block ?_ | refine e_block ?_ | refine r_block ?_ | refine e_loop ?_ | refine r_loop ?_ | refine e_round ?_ | refine r_round ?_ | refine s_round ?_ | refine f_block ?_ (by decide) | refine r_res ?_ | refine n_res ?_)
         | (simp only [hgb, go_sem, Int.reduceToNat, ↓reduceIte, reduceCtorEq, Nat.reduceEqDiff, Nat.reduceAdd, Nat.reduceMul, Nat.reduceLT, Nat.reduceLeDiff, Nat.reduceBEq, Int.reduceBEq, Int.reduceBNe, String.reduceBEq, Int.reduceEq, Int.reduceLT, Int.reduceLE, Int.reduceGE, Int.reduceGT, f1, f2, f3, p1, hrow, hcell, hrows_len, e2]; clear hgb)
         | simp only [go_sem, Int.reduceToNat, ↓reduceIte, reduceCtorEq, Nat.reduceEqDiff, Nat.reduceAdd, Nat.reduceMul, Nat.reduceLT, Nat.reduceLeDiff, Nat.reduceBEq, Int.reduceBEq, Int.reduceBNe, String.reduceBEq, Int.reduceEq, Int.reduceLT, Int.reduceLE, Int.reduceGE, Int.reduceGT, f1, f2, f3, p1, hrow, hcell, hrows_len, e2, hAll]
         | (refine ite_guard (fun hg => ?_) (fun hg => ?_) <;> (try simp only [Bool.not_eq_true, Bool.not_eq_false, Decidable.not_not] at hg) <;> (first | have hgb : (_ : Bool) = _ := hg | have hgb := ff hg | have hgb := tt hg))
         | (refine ⟨fun hc => ht _ ?_, fun hc => hf _ ?_⟩ <;> clear ht hf KT KF)
         | fail)
        refine n_loop (k + 1) [0, 2, 3, 4] [39] ⟨?_, hkl⟩ (by omega)
        simp only [mk_keep, keepL, List.mem_cons, List.not_mem_nil, Nat.reduceEqDiff, Nat.zero_ne_one, Nat.one_ne_zero, reduceCtorEq, or_false, false_or, or_true, true_or, or_self, eq_self, ↓reduceIte, hut]
      · rw [show decide ((a, b) ∈ U) = false by simpa using hmem]
        rw [uq, if_neg hmem] at hut
        have b3 := tt (show (U.length + 1) * 16 ≤ 140737488355328 by omega)
        have b4 := tt (show U.length ≤ 9223372036854775806 by omega)
        repeat' (first
         | (with_reducible first | refine s_seq ?_ | refine s_block ?_ | refine s_region fun kr hr => ?_)
         | (with_reducible refine s_text tOk [38, 39, 1000, 1001, 1002, 1003] (by kernel_rfl) (by simp [HeapIn, namers, namerDst, namerOp, namedOp, namedFn, ownLoad, Blk.has, hasRows, hasL, CV.has, hasRows_up, hasM_up, hasRows_append, f1, f2, f3, p1, b3, b4, e1, e2, hrow, hcell, hrows_len, hasRows_up]; (try ((repeat' apply And.intro) <;> intros <;> omega))) fun kr hr => ?_)
         | (with_reducible first | refine s_op fun K' hk => ?_ | refine t_op fun K' hk => ?_ | (refine hk _ ?_; clear hk K') | (refine ht _ ?_; clear ht hf KT KF) | (refine hf _ ?_; clear ht hf KT KF) | ((first | refine s_nil ?_ | refine t_nil ?_); refine hr _ ?_; clear hr kr))
         | ((with_reducible refine n_seqK [0, 1, 2, 3, 4, 5, 6, 10, 16, 23, 25, 32] [38, 39] ?_); simp only [mk_keep, keepL, List.mem_cons, List.not_mem_nil, Nat.reduceEqDiff, Nat.zero_ne_one, Nat.one_ne_zero, reduceCtorEq, or_false, false_or, or_true, true_or, or_self, eq_self, ↓reduceIte])
         | (with_reducible first | refine s_cond fun KT KF ht hf => ?_ | refine s_skip ?_)
         | ((with_reducible refine s_long ?_); simp only [List.cons_append, List.nil_append])
         | (with_reducible first | refine s_exit ?_ | refine s_ret ?_ | refine e_seq ?_ | refine r_seq ?_ | refine n_block ?_ | refine e_block ?_ | refine r_block ?_ | refine e_loop ?_ | refine r_loop ?_ | refine e_round ?_ | refine r_round ?_ | refine s_round ?_ | refine f_block ?_ (by decide) | refine r_res ?_ | refine n_res ?_)
         | (simp only [hgb, go_sem, Int.reduceToNat, ↓reduceIte, reduceCtorEq, Nat.reduceEqDiff, Nat.reduceAdd, Nat.reduceMul, Nat.reduceLT, Nat.reduceLeDiff, Nat.reduceBEq, Int.reduceBEq, Int.reduceBNe, String.reduceBEq, Int.reduceEq, Int.reduceLT, Int.reduceLE, Int.reduceGE, Int.reduceGT, f1, f2, f3, p1, b3, b4, e1, e2, hrow, hcell, hrows_len, hasRows_up]; clear hgb)
         | simp only [go_sem, Int.reduceToNat, ↓reduceIte, reduceCtorEq, Nat.reduceEqDiff, Nat.reduceAdd, Nat.reduceMul, Nat.reduceLT, Nat.reduceLeDiff, Nat.reduceBEq, Int.reduceBEq, Int.reduceBNe, String.reduceBEq, Int.reduceEq, Int.reduceLT, Int.reduceLE, Int.reduceGE, Int.reduceGT, f1, f2, f3, p1, b3, b4, e1, e2, hrow, hcell, hrows_len, hasRows_up, hAll]
         | (refine ite_guard (fun hg => ?_) (fun hg => ?_) <;> (try simp only [Bool.not_eq_true, Bool.not_eq_false, Decidable.not_not] at hg) <;> (first | have hgb : (_ : Bool) = _ := hg | have hgb := ff hg | have hgb := tt hg))
         | (refine ⟨fun hc => ht _ ?_, fun hc => hf _ ?_⟩ <;> clear ht hf KT KF)
         | fail)
        refine n_loop (k + 1) [0, 2, 3, 4] [39] ⟨?_, hkl⟩ (by omega)
        simp only [mk_keep, keepL, List.mem_cons, List.not_mem_nil, Nat.reduceEqDiff, Nat.zero_ne_one, Nat.one_ne_zero, reduceCtorEq, or_false, false_or, or_true, true_or, or_self, eq_self, ↓reduceIte, up_app, hut, List.length_append, List.length_singleton]
  · have f1 := ff (show ¬ ((k : Int) < l.length) by omega)
    obtain rfl : k = l.length := by omega
    rw [List.take_length]
    repeat' (first
     | (with_reducible first | refine s_seq ?_ | refine s_block ?_ | refine s_region fun kr hr => ?_)
     | (with_reducible refine s_text tOk [38, 39, 1000, 1001, 1002, 1003] (by kernel_rfl) (by simp [HeapIn, namers, namerDst, namerOp, namedOp, namedFn, ownLoad, Blk.has, hasRows, hasL, CV.has, hasRows_up, hasM_up, hasRows_append, f1, hrows_len]; (try ((repeat' apply And.intro) <;> intros <;> omega))) fun kr hr => ?_)
     | (with_reducible first | refine s_op fun K' hk => ?_ | refine t_op fun K' hk => ?_ | (refine hk _ ?_; clear hk K') | (refine ht _ ?_; clear ht hf KT KF) | (refine hf _ ?_; clear ht hf KT KF) | ((first | refine s_nil ?_ | refine t_nil ?_); refine hr _ ?_; clear hr kr))
     | ((with_reducible refine n_seqK [0, 1, 2, 3, 4, 5, 6, 10, 16, 23, 25, 32] [38, 39] ?_); simp only [mk_keep, keepL, List.mem_cons, List.not_mem_nil, Nat.reduceEqDiff, Nat.zero_ne_one, Nat.one_ne_zero, reduceCtorEq, or_false, false_or, or_true, true_or, or_self, eq_self, ↓reduceIte])
     | (with_reducible first | refine s_cond fun KT KF ht hf => ?_ | refine s_skip ?_)
     | ((with_reducible refine s_long ?_); simp only [List.cons_append, List.nil_append])
     | (with_reducible first | refine s_exit ?_ | refine s_ret ?_ | refine e_seq ?_ | refine r_seq ?_ | refine n_block ?_ | refine e_block ?_ | refine r_block ?_ | refine e_loop ?_ | refine r_loop ?_ | refine e_round ?_ | refine r_round ?_ | refine s_round ?_ | refine f_block ?_ (by decide) | refine r_res ?_ | refine n_res ?_)
     | (simp only [hgb, go_sem, Int.reduceToNat, ↓reduceIte, reduceCtorEq, Nat.reduceEqDiff, Nat.reduceAdd, Nat.reduceMul, Nat.reduceLT, Nat.reduceLeDiff, Nat.reduceBEq, Int.reduceBEq, Int.reduceBNe, String.reduceBEq, Int.reduceEq, Int.reduceLT, Int.reduceLE, Int.reduceGE, Int.reduceGT, f1, hrows_len]; clear hgb)
     | simp only [go_sem, Int.reduceToNat, ↓reduceIte, reduceCtorEq, Nat.reduceEqDiff, Nat.reduceAdd, Nat.reduceMul, Nat.reduceLT, Nat.reduceLeDiff, Nat.reduceBEq, Int.reduceBEq, Int.reduceBNe, String.reduceBEq, Int.reduceEq, Int.reduceLT, Int.reduceLE, Int.reduceGE, Int.reduceGT, f1, hrows_len, hAll]
     | (refine ite_guard (fun hg => ?_) (fun hg => ?_) <;> (try simp only [Bool.not_eq_true, Bool.not_eq_false, Decidable.not_not] at hg) <;> (first | have hgb : (_ : Bool) = _ := hg | have hgb := ff hg | have hgb := tt hg))
     | (refine ⟨fun hc => ht _ ?_, fun hc => hf _ ?_⟩ <;> clear ht hf KT KF)
     | fail)
end Go.Proofs.Ytgmjgognpabmdaa.Fx
