/- The law FusePages. -/
import Derived.Test.YtgmjgognpabmdaaFxPage
-- ren_map
namespace Go.Proofs.Ytgmjgognpabmdaa.Fx
open Go Go.RowKit
set_option maxRecDepth 100000
set_option linter.unusedSimpArgs false
set_option linter.unusedVariables false
theorem fusePages_spec (l : List Ht) (o k : Int) (ho : In64 o) (hl : l.length * 16 ≤ 140737488355328) : Spec Try.prog 11 [.v (.t (.sl 2 (hrows l))), .v (.t (.int .i64 o)), .v (.t (.int .i64 k))] [] [.v (.t (.bool true))] [] := by
  have h1 := page_named l o k hl
  have h2 := page_tree l o k hl
  have h3 := rpage_spec l o k ho hl
  have hPl : (pageL l o k).length ≤ l.length := by simp [pageL]; omega
  generalize pageL l o k = P at *
  have h4 := same_spec P P (by omega)
  rw [decide_eq_true rfl] at h4
  refine spec_by Try.func11 rfl mixed tOk evOk (n := 37) rfl (by simp) (by simp) ?_
  rw [initSt_mk, show Try.f11.results.toList = [.tmp 6] from rfl]
  simp only [initL, AV.sv, List.map_cons, List.map_nil, Nat.reduceAdd, Nat.zero_add]
  repeat' (first
   | (with_reducible first | refine s_seq ?_ | refine s_block ?_ | refine s_region fun kr hr => ?_)
   | (with_reducible refine s_text tOk [13, 1000, 1001, 1002, 1003] (by kernel_rfl) (by simp [HeapIn, namers, namerDst, namerOp, namedOp, namedFn, ownLoad, Blk.has, hasRows, hasL, CV.has, hasRows_up, hasM_up, hasRows_append, listB]; (try ((repeat' apply And.intro) <;> intros <;> omega))) fun kr hr => ?_)
   | (with_reducible first | refine s_op fun K' hk => ?_ | refine t_op fun K' hk => ?_ | (refine hk _ ?_; clear hk K') | (refine ht _ ?_; clear ht hf KT KF) | (refine hf _ ?_; clear ht hf KT KF) | ((first | refine s_nil ?_ | refine t_nil ?_); refine hr _ ?_; clear hr kr))
   | ((with_reducible refine n_seqK [0, 1, 2, 3, 4, 5, 6, 7, 8, 9, 17, 21, 23, 25, 34] [13] ?_); simp only [mk_keep, keepL, List.mem_cons, List.not_mem_nil, Nat.reduceEqDiff, Nat.zero_ne_one, Nat.one_ne_zero, reduceCtorEq, or_false, false_or, or_true, true_or, or_self, eq_self, ↓reduceIte])
   | (with_reducible first | refine s_cond fun KT KF ht hf => ?_ | refine s_skip ?_)
   | ((with_reducible refine s_long ?_); simp only [List.cons_append, List.nil_append])
   | (with_reducible first | refine s_exit ?_ | refine s_ret ?_ | refine e_seq ?_ | refine r_seq ?_ | refine n_block ?_ | refine e_block ?_ | refine r_block ?_ | refine e_loop ?_ | refine r_loop ?_ | refine e_round ?_ | refine r_round ?_ | refine s_round ?_ | refine f_block ?_ (by decide) | refine r_res ?_ | refine n_res ?_)
   | (simp only [hgb, go_sem, Int.reduceToNat, ↓reduceIte, reduceCtorEq, Nat.reduceEqDiff, Nat.reduceAdd, Nat.reduceMul, Nat.reduceLT, Nat.reduceLeDiff, Nat.reduceBEq, Int.reduceBEq, Int.reduceBNe, String.reduceBEq, Int.reduceEq, Int.reduceLT, Int.reduceLE, Int.reduceGE, Int.reduceGT, listB, callE, resSV, AV.flat, CV.flat, TV.flat]; clear hgb)
   | simp only [go_sem, Int.reduceToNat, ↓reduceIte, reduceCtorEq, Nat.reduceEqDiff, Nat.reduceAdd, Nat.reduceMul, Nat.reduceLT, Nat.reduceLeDiff, Nat.reduceBEq, Int.reduceBEq, Int.reduceBNe, String.reduceBEq, Int.reduceEq, Int.reduceLT, Int.reduceLE, Int.reduceGE, Int.reduceGT, listB, callE, resSV, AV.flat, CV.flat, TV.flat, hAll]
   | (refine Or.inr ?_; refine callM_new [13] rfl ?_; refine (m_callN [(24,13)] [] [24] [13] [] ⟨fun _ _ => rfl, h1⟩ rfl rfl (by first | (simp [avren_v, avren_a, CV.ren, renL, renL_map, tbl, listB]; done) | fail) rfl rfl rfl rfl (by decide) (by first | (simp [hAll, hRen, mk_heap, hL, tbl, Blk.ren, renRows_up, ren_up, renRows, renL, CV.ren, listB]; done) | fail) (by first | (simp [Blk.has, hasRows, hasL, CV.has, hasRows_up, hasM_up, listB]; done) | fail) (by first | (intro k; simp [hasA, AV.has, CV.has, hasL, Blk.has, hasRows, hasRows_up, hasM_up, listB]; done) | (intro k; simp [hasA, AV.has, CV.has, hasL, Blk.has, hasRows, hasRows_up, hasM_up, listB]; omega) | fail) ?_))
   | (refine callM_new [13] rfl ?_; refine (m_callN [(24,13)] [] [24] [13] [] ⟨fun _ _ => rfl, h1⟩ rfl rfl (by first | (simp [avren_v, avren_a, CV.ren, renL, renL_map, tbl, listB]; done) | fail) rfl rfl rfl rfl (by decide) (by first | (simp [hAll, hRen, mk_heap, hL, tbl, Blk.ren, renRows_up, ren_up, renRows, renL, CV.ren, listB]; done) | fail) (by first | (simp [Blk.has, hasRows, hasL, CV.has, hasRows_up, hasM_up, listB]; done) | fail) (by first | (intro k; simp [hasA, AV.has, CV.has, hasL, Blk.has, hasRows, hasRows_up, hasM_up, listB]; done) | (intro k; simp [hasA, AV.has, CV.has, hasL, Blk.has, hasRows, hasRows_up, hasM_up, listB]; omega) | fail) ?_))
   | refine Or.inl ⟨_, ⟨fun _ _ => rfl, h2⟩, ?_⟩
   | refine ⟨_, ⟨fun _ _ => rfl, h2⟩, ?_⟩
   | (refine ite_guard (fun hg => ?_) (fun hg => ?_) <;> (try simp only [Bool.not_eq_true, Bool.not_eq_false, Decidable.not_not] at hg) <;> (first | have hgb : (_ : Bool) = _ := hg | have hgb := ff hg | have hgb := tt hg))
   | (refine ⟨fun hc => ht _ ?_, fun hc => hf _ ?_⟩ <;> clear ht hf KT KF)
   | fail)
  refine w_loop [0, 1, 2, 7, 8, 9] [13] (σ := Nat × List Ht) (fun s st => st = mk [(0, V (.sl 2 (hrows l))), (1, I o), (2, I k), (7, .c (.mr 13 0 P.length)), (8, V (.sl 2 (hrows P))), (9, I s.1)] [(13, .cells 2 (up (hrows s.2)))] ∧ s.1 ≤ P.length ∧ s.2.length = P.length) (fun s => P.length - s.1) (0, P) ?_ ?_
  · refine ⟨?_, Nat.zero_le _, rfl⟩
    simp only [go_sem, Int.reduceToNat, ↓reduceIte, reduceCtorEq, Nat.reduceEqDiff, Nat.reduceAdd, Nat.reduceMul, Nat.reduceLT, Nat.reduceLeDiff, Nat.reduceBEq, Int.reduceBEq, Int.reduceBNe, String.reduceBEq, Int.reduceEq, Int.reduceLT, Int.reduceLE, Int.reduceGE, Int.reduceGT, mk_keep, keepL, List.mem_cons, List.not_mem_nil, Nat.reduceEqDiff, Nat.zero_ne_one, Nat.one_ne_zero, reduceCtorEq, or_false, false_or, or_true, true_or, or_self, eq_self, ↓reduceIte]
    try rfl
  rintro ⟨j, X⟩ st ⟨rfl, hj, hX⟩
  simp only at hj hX
  by_cases hjl : j < P.length
  · have p1 := tt (show (j : Int) < P.length by omega)
    have p3 := wUp (k := j) (n := P.length) (by omega) (by omega)
    have p4 := tt (show j < P.length from hjl)
    have e5 : (up (hrows X)).set j [.t (.int .i64 78), .t (.int .i64 0)] = up (hrows (X.set j (78, 0))) := hset_up X j (78, 0)
    have e6 : (up (hrows X)).length = P.length := by rw [uph_len, hX]
    have e7 : (up (hrows X))[j]? = some (hcell X[j]) := by rw [hcell_get, get_of_lt (by omega)]; rfl
    repeat' (first
     | (with_reducible first | refine s_seq ?_ | refine s_block ?_ | refine s_region fun kr hr => ?_)
     | (with_reducible refine s_text tOk [13, 1000, 1001, 1002, 1003] (by kernel_rfl) (by simp [HeapIn, namers, namerDst, namerOp, namedOp, namedFn, ownLoad, Blk.has, hasRows, hasL, CV.has, hasRows_up, hasM_up, hasRows_append, p1, p3, p4, e5, e6, e7, hcell, hrows_len]; (try ((repeat' apply And.intro) <;> intros <;> omega))) fun kr hr => ?_)
     | (with_reducible first | refine s_op fun K' hk => ?_ | refine t_op fun K' hk => ?_ | (refine hk _ ?_; clear hk K') | (refine ht _ ?_; clear ht hf KT KF) | (refine hf _ ?_; clear ht hf KT KF) | ((first | refine s_nil ?_ | refine t_nil ?_); refine hr _ ?_; clear hr kr))
     | ((with_reducible refine n_seqK [0, 1, 2, 3, 4, 5, 6, 7, 8, 9, 17, 21, 23, 25, 34] [13] ?_); simp only [mk_keep, keepL, List.mem_cons, List.not_mem_nil, Nat.reduceEqDiff, Nat.zero_ne_one, Nat.one_ne_zero, reduceCtorEq, or_false, false_or, or_true, true_or, or_self, eq_self, ↓reduceIte])
     | (with_reducible first | refine s_cond fun KT KF ht hf => ?_ | refine s_skip ?_)
     | ((with_reducible refine s_long ?_); simp only [List.cons_append, List.nil_append])
     | (with_reducible first | refine s_exit ?_ | refine s_ret ?_ | refine e_seq ?_ | refine r_seq ?_ | refine n_block ?_ | refine e_block ?_ | refine r_block ?_ | refine e_loop ?_ | refine r_loop ?_ | refine e_round ?_ | refine r_round ?_ | refine s_round ?_ | refine f_block ?_ (by decide) | refine r_res ?_ | refine n_res ?_)
     | (simp only [hgb, go_sem, Int.reduceToNat, ↓reduceIte, reduceCtorEq, Nat.reduceEqDiff, Nat.reduceAdd, Nat.reduceMul, Nat.reduceLT, Nat.reduceLeDiff, Nat.reduceBEq, Int.reduceBEq, Int.reduceBNe, String.reduceBEq, Int.reduceEq, Int.reduceLT, Int.reduceLE, Int.reduceGE, Int.reduceGT, p1, p3, p4, e5, e6, e7, hcell, hrows_len]; clear hgb)
     | simp only [go_sem, Int.reduceToNat, ↓reduceIte, reduceCtorEq, Nat.reduceEqDiff, Nat.reduceAdd, Nat.reduceMul, Nat.reduceLT, Nat.reduceLeDiff, Nat.reduceBEq, Int.reduceBEq, Int.reduceBNe, String.reduceBEq, Int.reduceEq, Int.reduceLT, Int.reduceLE, Int.reduceGE, Int.reduceGT, p1, p3, p4, e5, e6, e7, hcell, hrows_len, hAll]
     | (refine ite_guard (fun hg => ?_) (fun hg => ?_) <;> (try simp only [Bool.not_eq_true, Bool.not_eq_false, Decidable.not_not] at hg) <;> (first | have hgb : (_ : Bool) = _ := hg | have hgb := ff hg | have hgb := tt hg))
     | (refine ⟨fun hc => ht _ ?_, fun hc => hf _ ?_⟩ <;> clear ht hf KT KF)
     | fail)
    refine n_loop (j + 1, X.set j (78, 0)) [0, 1, 2, 7, 8, 9] [13] ⟨?_, hjl, by simpa using hX⟩ (by simp only; omega)
    simp only [go_sem, Int.reduceToNat, ↓reduceIte, reduceCtorEq, Nat.reduceEqDiff, Nat.reduceAdd, Nat.reduceMul, Nat.reduceLT, Nat.reduceLeDiff, Nat.reduceBEq, Int.reduceBEq, Int.reduceBNe, String.reduceBEq, Int.reduceEq, Int.reduceLT, Int.reduceLE, Int.reduceGE, Int.reduceGT, mk_keep, keepL, List.mem_cons, List.not_mem_nil, Nat.reduceEqDiff, Nat.zero_ne_one, Nat.one_ne_zero, reduceCtorEq, or_false, false_or, or_true, true_or, or_self, eq_self, ↓reduceIte]
  · have p1 := ff (show ¬ ((j : Int) < P.length) by omega)
    repeat' (first
     | (with_reducible first | refine s_seq ?_ | refine s_block ?_ | refine s_region fun kr hr => ?_)
     | (with_reducible refine s_text tOk [13, 1000, 1001, 1002, 1003] (by kernel_rfl) (by simp [HeapIn, namers, namerDst, namerOp, namedOp, namedFn, ownLoad, Blk.has, hasRows, hasL, CV.has, hasRows_up, hasM_up, hasRows_append, p1, hrows_len]; (try ((repeat' apply And.intro) <;> intros <;> omega))) fun kr hr => ?_)
     | (with_reducible first | refine s_op fun K' hk => ?_ | refine t_op fun K' hk => ?_ | (refine hk _ ?_; clear hk K') | (refine ht _ ?_; clear ht hf KT KF) | (refine hf _ ?_; clear ht hf KT KF) | ((first | refine s_nil ?_ | refine t_nil ?_); refine hr _ ?_; clear hr kr))
     | ((with_reducible refine n_seqK [0, 1, 2, 3, 4, 5, 6, 7, 8, 9, 17, 21, 23, 25, 34] [13] ?_); simp only [mk_keep, keepL, List.mem_cons, List.not_mem_nil, Nat.reduceEqDiff, Nat.zero_ne_one, Nat.one_ne_zero, reduceCtorEq, or_false, false_or, or_true, true_or, or_self, eq_self, ↓reduceIte])
     | (with_reducible first | refine s_cond fun KT KF ht hf => ?_ | refine s_skip ?_)
     | ((with_reducible refine s_long ?_); simp only [List.cons_append, List.nil_append])
     | (with_reducible first | refine s_exit ?_ | refine s_ret ?_ | refine e_seq ?_ | refine r_seq ?_ | refine n_block ?_ | refine e_block ?_ | refine r_block ?_ | refine e_loop ?_ | refine r_loop ?_ | refine e_round ?_ | refine r_round ?_ | refine s_round ?_ | refine f_block ?_ (by decide) | refine r_res ?_ | refine n_res ?_)
     | (simp only [hgb, go_sem, Int.reduceToNat, ↓reduceIte, reduceCtorEq, Nat.reduceEqDiff, Nat.reduceAdd, Nat.reduceMul, Nat.reduceLT, Nat.reduceLeDiff, Nat.reduceBEq, Int.reduceBEq, Int.reduceBNe, String.reduceBEq, Int.reduceEq, Int.reduceLT, Int.reduceLE, Int.reduceGE, Int.reduceGT, p1, hrows_len, callE, resSV, AV.flat, CV.flat, TV.flat]; clear hgb)
     | simp only [go_sem, Int.reduceToNat, ↓reduceIte, reduceCtorEq, Nat.reduceEqDiff, Nat.reduceAdd, Nat.reduceMul, Nat.reduceLT, Nat.reduceLeDiff, Nat.reduceBEq, Int.reduceBEq, Int.reduceBNe, String.reduceBEq, Int.reduceEq, Int.reduceLT, Int.reduceLE, Int.reduceGE, Int.reduceGT, p1, hrows_len, callE, resSV, AV.flat, CV.flat, TV.flat, hAll]
     | refine Or.inl ⟨_, ⟨fun _ _ => rfl, h3⟩, ?_⟩
     | refine ⟨_, ⟨fun _ _ => rfl, h3⟩, ?_⟩
     | refine Or.inl ⟨_, ⟨fun _ _ => rfl, h4⟩, ?_⟩
     | refine ⟨_, ⟨fun _ _ => rfl, h4⟩, ?_⟩
     | refine Or.inl ⟨_, ⟨fun _ _ => rfl, awake25_spec⟩, ?_⟩
     | refine ⟨_, ⟨fun _ _ => rfl, awake25_spec⟩, ?_⟩
     | (refine ite_guard (fun hg => ?_) (fun hg => ?_) <;> (try simp only [Bool.not_eq_true, Bool.not_eq_false, Decidable.not_not] at hg) <;> (first | have hgb : (_ : Bool) = _ := hg | have hgb := ff hg | have hgb := tt hg))
     | (refine ⟨fun hc => ht _ ?_, fun hc => hf _ ?_⟩ <;> clear ht hf KT KF)
     | fail)
end Go.Proofs.Ytgmjgognpabmdaa.Fx
