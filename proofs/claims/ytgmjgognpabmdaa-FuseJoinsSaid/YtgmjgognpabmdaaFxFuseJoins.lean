/- The law FuseJoins. -/
import Derived.Test.YtgmjgognpabmdaaFxPage
-- ren_map
namespace Go.Proofs.Ytgmjgognpabmdaa.Fx
open Go Go.RowKit
set_option maxRecDepth 100000
set_option linter.unusedSimpArgs false
set_option linter.unusedVariables false
theorem pageL_nil {l : List Ht} {o k : Int} (h : pgN l.length o k = 0) : pageL l o k = [] := List.eq_nil_of_length_eq_zero (by rw [page_len, h])
theorem page_join (l : List Ht) (k a : Nat) (hk : 0 < k) (ha : a < l.length) : l.take a ++ pageL l a k = l.take (a + min k l.length) ∧ (pageL l a k).length = min k (l.length - a) := by
  have hO : pgO l.length a = a := by unfold pgO; omega
  have hN : pgN l.length a k = min k (l.length - a) := by unfold pgN; rw [hO]; omega
  refine ⟨?_, by rw [page_len, hN]⟩
  unfold pageL
  rw [hO, hN, List.drop_take]
  have e1 : a + min k (l.length - a) - a = min k (l.length - a) := by omega
  rw [e1]
  have e2 : l.take (a + min k l.length) = l.take a ++ (l.drop a).take (min k l.length) := by rw [List.take_add]
  rw [e2]
  congr 1
  by_cases h : k ≤ l.length - a
  · rw [show min k (l.length - a) = min k l.length by omega]
  · rw [List.take_of_length_le (by rw [List.length_drop]; omega), List.take_of_length_le (by rw [List.length_drop]; omega)]
theorem fuseJoins_none (l : List Ht) (k : Int) (hk : k < 1) (hl : l.length * 16 ≤ 140737488355328) : Spec Try.prog 12 [.v (.t (.sl 2 (hrows l))), .v (.t (.int .i64 k))] [] [.v (.t (.bool true))] [] := by
  have h1 := page_tree l 0 k hl
  rw [pageL_nil (show pgN l.length 0 k = 0 by unfold pgN pgO; omega)] at h1
  have f1 := tt hk
  have e0 : (hrows []).length = 0 := rfl
  refine spec_by Try.func12 rfl mixed tOk evOk (n := 59) rfl (by simp) (by simp) ?_
  rw [initSt_mk, show Try.f12.results.toList = [.tmp 4] from rfl]
  simp only [initL, AV.sv, List.map_cons, List.map_nil, Nat.reduceAdd, Nat.zero_add]
  repeat' (first
   | (with_reducible first | refine s_seq ?_ | refine s_block ?_ | refine s_region fun kr hr => ?_)
   | (with_reducible refine s_text tOk [43, 1000, 1001, 1002, 1003] (by kernel_rfl) (by simp [HeapIn, namers, namerDst, namerOp, namedOp, namedFn, ownLoad, Blk.has, hasRows, hasL, CV.has, hasRows_up, hasM_up, hasRows_append, f1, e0]; (try ((repeat' apply And.intro) <;> intros <;> omega))) fun kr hr => ?_)
   | (with_reducible first | refine s_op fun K' hk => ?_ | refine t_op fun K' hk => ?_ | (refine hk _ ?_; clear hk K') | (refine ht _ ?_; clear ht hf KT KF) | (refine hf _ ?_; clear ht hf KT KF) | ((first | refine s_nil ?_ | refine t_nil ?_); refine hr _ ?_; clear hr kr))
   | ((with_reducible refine n_seqK [0, 1, 2, 3, 4, 5, 6, 7, 9, 17, 21, 25, 31, 34, 40] [43] ?_); simp only [mk_keep, keepL, List.mem_cons, List.not_mem_nil, Nat.reduceEqDiff, Nat.zero_ne_one, Nat.one_ne_zero, reduceCtorEq, or_false, false_or, or_true, true_or, or_self, eq_self, ↓reduceIte])
   | (with_reducible first | refine s_cond fun KT KF ht hf => ?_ | refine s_skip ?_)
   | ((with_reducible refine s_long ?_); simp only [List.cons_append, List.nil_append])
   | (with_reducible first | refine s_exit ?_ | refine s_ret ?_ | refine e_seq ?_ | refine r_seq ?_ | refine n_block ?_ | refine e_block ?_ | refine r_block ?_ | refine e_loop ?_ | refine r_loop ?_ | refine e_round ?_ | refine r_round ?_ | refine s_round ?_ | refine f_block ?_ (by decide) | refine r_res ?_ | refine n_res ?_)
   | (simp only [hgb, go_sem, Int.reduceToNat, ↓reduceIte, reduceCtorEq, Nat.reduceEqDiff, Nat.reduceAdd, Nat.reduceMul, Nat.reduceLT, Nat.reduceLeDiff, Nat.reduceBEq, Int.reduceBEq, Int.reduceBNe, String.reduceBEq, Int.reduceEq, Int.reduceLT, Int.reduceLE, Int.reduceGE, Int.reduceGT, f1, e0, callE, resSV, AV.flat, CV.flat, TV.flat]; clear hgb)
   | simp only [go_sem, Int.reduceToNat, ↓reduceIte, reduceCtorEq, Nat.reduceEqDiff, Nat.reduceAdd, Nat.reduceMul, Nat.reduceLT, Nat.reduceLeDiff, Nat.reduceBEq, Int.reduceBEq, Int.reduceBNe, String.reduceBEq, Int.reduceEq, Int.reduceLT, Int.reduceLE, Int.reduceGE, Int.reduceGT, f1, e0, callE, resSV, AV.flat, CV.flat, TV.flat, hAll]
   | refine Or.inl ⟨_, ⟨fun _ _ => rfl, h1⟩, ?_⟩
   | refine ⟨_, ⟨fun _ _ => rfl, h1⟩, ?_⟩
   | refine Or.inl ⟨_, ⟨fun _ _ => rfl, awake25_spec⟩, ?_⟩
   | refine ⟨_, ⟨fun _ _ => rfl, awake25_spec⟩, ?_⟩
   | (refine ite_guard (fun hg => ?_) (fun hg => ?_) <;> (try simp only [Bool.not_eq_true, Bool.not_eq_false, Decidable.not_not] at hg) <;> (first | have hgb : (_ : Bool) = _ := hg | have hgb := ff hg | have hgb := tt hg))
   | (refine ⟨fun hc => ht _ ?_, fun hc => hf _ ?_⟩ <;> clear ht hf KT KF)
   | fail)
theorem fuseJoins_some (l : List Ht) (k : Nat) (hk : 1 ≤ k) (hk2 : k ≤ 9223372036854775807) (hl : l.length * 16 ≤ 140737488355328) : Spec Try.prog 12 [.v (.t (.sl 2 (hrows l))), .v (.t (.int .i64 k))] [] [.v (.t (.bool true))] [] := by
  have g0 := ff (show ¬ (k : Int) < 1 by omega)
  have e0 : (hrows []).length = 0 := rfl
  have hrl : (hrows l).length = l.length := hrows_len l
  have h9 := page_tree l l.length k hl
  rw [pageL_nil (show pgN l.length l.length k = 0 by unfold pgN pgO; omega)] at h9
  have h8 := same_spec l l (by omega)
  rw [decide_eq_true rfl] at h8
  refine spec_by Try.func12 rfl mixed tOk evOk (n := 59) rfl (by simp) (by simp) ?_
  rw [initSt_mk, show Try.f12.results.toList = [.tmp 4] from rfl]
  simp only [initL, AV.sv, List.map_cons, List.map_nil, Nat.reduceAdd, Nat.zero_add]
  repeat' (first
   | (with_reducible first | refine s_seq ?_ | refine s_block ?_ | refine s_region fun kr hr => ?_)
   | (with_reducible refine s_text tOk [43, 1000, 1001, 1002, 1003] (by kernel_rfl) (by simp [HeapIn, namers, namerDst, namerOp, namedOp, namedFn, ownLoad, Blk.has, hasRows, hasL, CV.has, hasRows_up, hasM_up, hasRows_append, g0, hrl]; (try ((repeat' apply And.intro) <;> intros <;> omega))) fun kr hr => ?_)
   | (with_reducible first | refine s_op fun K' hk => ?_ | refine t_op fun K' hk => ?_ | (refine hk _ ?_; clear hk K') | (refine ht _ ?_; clear ht hf KT KF) | (refine hf _ ?_; clear ht hf KT KF) | ((first | refine s_nil ?_ | refine t_nil ?_); refine hr _ ?_; clear hr kr))
   | ((with_reducible refine n_seqK [0, 1, 2, 3, 4, 5, 6, 7, 9, 17, 21, 25, 31, 34, 40] [43] ?_); simp only [mk_keep, keepL, List.mem_cons, List.not_mem_nil, Nat.reduceEqDiff, Nat.zero_ne_one, Nat.one_ne_zero, reduceCtorEq, or_false, false_or, or_true, true_or, or_self, eq_self, ↓reduceIte])
   | (with_reducible first | refine s_cond fun KT KF ht hf => ?_ | refine s_skip ?_)
   | ((with_reducible refine s_long ?_); simp only [List.cons_append, List.nil_append])
   | (with_reducible first | refine s_exit ?_ | refine s_ret ?_ | refine e_seq ?_ | refine r_seq ?_ | refine n_block ?_ | refine e_block ?_ | refine r_block ?_ | refine e_loop ?_ | refine r_loop ?_ | refine e_round ?_ | refine r_round ?_ | refine s_round ?_ | refine f_block ?_ (by decide) | refine r_res ?_ | refine n_res ?_)
   | (simp only [hgb, go_sem, Int.reduceToNat, ↓reduceIte, reduceCtorEq, Nat.reduceEqDiff, Nat.reduceAdd, Nat.reduceMul, Nat.reduceLT, Nat.reduceLeDiff, Nat.reduceBEq, Int.reduceBEq, Int.reduceBNe, String.reduceBEq, Int.reduceEq, Int.reduceLT, Int.reduceLE, Int.reduceGE, Int.reduceGT, g0, hrl]; clear hgb)
   | simp only [go_sem, Int.reduceToNat, ↓reduceIte, reduceCtorEq, Nat.reduceEqDiff, Nat.reduceAdd, Nat.reduceMul, Nat.reduceLT, Nat.reduceLeDiff, Nat.reduceBEq, Int.reduceBEq, Int.reduceBNe, String.reduceBEq, Int.reduceEq, Int.reduceLT, Int.reduceLE, Int.reduceGE, Int.reduceGT, g0, hrl, hAll]
   | (refine ite_guard (fun hg => ?_) (fun hg => ?_) <;> (try simp only [Bool.not_eq_true, Bool.not_eq_false, Decidable.not_not] at hg) <;> (first | have hgb : (_ : Bool) = _ := hg | have hgb := ff hg | have hgb := tt hg))
   | (refine ⟨fun hc => ht _ ?_, fun hc => hf _ ?_⟩ <;> clear ht hf KT KF)
   | fail)
  refine w_loopG _ (gho_nilName (s := 5) (d := 43) (sz := 2) (by decide) ⟨2, rfl⟩ (by rw [fresh_t]; exact trivial; rfl)) ?_
  rw [mk_nilName]
  refine w_loop [0, 1, 5, 6] [43] (σ := Nat) (fun a st => st = mk [(0, V (.sl 2 (hrows l))), (1, I k), (5, .c (.mr 43 0 (l.take a).length)), (6, I a)] [(43, .cells 2 (up (hrows (l.take a))))] ∧ a ≤ 2 * l.length) (fun a => l.length - a) 0 ?_ ?_
  · refine ⟨?_, Nat.zero_le _⟩
    simp only [go_sem, Int.reduceToNat, ↓reduceIte, reduceCtorEq, Nat.reduceEqDiff, Nat.reduceAdd, Nat.reduceMul, Nat.reduceLT, Nat.reduceLeDiff, Nat.reduceBEq, Int.reduceBEq, Int.reduceBNe, String.reduceBEq, Int.reduceEq, Int.reduceLT, Int.reduceLE, Int.reduceGE, Int.reduceGT, mk_keep, keepL, List.mem_cons, List.not_mem_nil, Nat.reduceEqDiff, Nat.zero_ne_one, Nat.one_ne_zero, reduceCtorEq, or_false, false_or, or_true, true_or, or_self, eq_self, ↓reduceIte]
    try rfl
  rintro a st' ⟨rfl, ha⟩
  by_cases hlt : a < l.length
  · obtain ⟨q1, q2⟩ := page_join l k a (by omega) hlt
    have h1 := page_tree l a k hl
    have f1 := tt (show (a : Int) < l.length by omega)
    have hPr : (hrows (pageL l a k)).length = min k (l.length - a) := by rw [hrows_len, q2]
    have f2 := ff (show ¬ ((min k (l.length - a) : Nat) : Int) = 0 by omega)
    have f3 := ff (show ¬ ((min k (l.length - a) : Nat) : Int) > k by omega)
    have hm : (if (l.length : Int) < k then (l.length : Int) else k) = ((min k l.length : Nat) : Int) := by omega
    have hw : IntKind.wrap .i64 ((a : Int) + (min k l.length : Nat)) = ((a + min k l.length : Nat) : Int) := by rw [wI (by omega) (by omega)]; omega
    have htl : (l.take a).length = a := by rw [List.length_take]; omega
    have hta : (hrows (l.take a)).length = a := by rw [hrows_len, htl]
    have htk : (up (hrows (l.take a))).take a = up (hrows (l.take a)) := List.take_of_length_le (by rw [up_length]; omega)
    have b3 := tt (show (a + min k (l.length - a)) * 16 ≤ 140737488355328 by omega)
    have b4 := tt (show a + min k (l.length - a) ≤ 9223372036854775807 by omega)
    have hus : up (hrows (l.take a)) ++ up (hrows (pageL l a k)) = up (hrows (l.take (a + min k l.length))) := by rw [← up_append, ← q1]; simp [hrows]
    have hul : (hrows (l.take (a + min k l.length))).length = (l.take (a + min k l.length)).length := hrows_len _
    generalize pageL l a k = P at *
    repeat' (first
     | (with_reducible first | refine s_seq ?_ | refine s_block ?_ | refine s_region fun kr hr => ?_)
     | (with_reducible refine s_text tOk [43, 1000, 1001, 1002, 1003] (by kernel_rfl) (by simp [HeapIn, namers, namerDst, namerOp, namedOp, namedFn, ownLoad, Blk.has, hasRows, hasL, CV.has, hasRows_up, hasM_up, hasRows_append, f1, f2, f3, hrl, hPr, hm, hw, htl, hta, htk, b3, b4, hus, hul]; (try ((repeat' apply And.intro) <;> intros <;> omega))) fun kr hr => ?_)
     | (with_reducible first | refine s_op fun K' hk => ?_ | refine t_op fun K' hk => ?_ | (refine hk _ ?_; clear hk K') | (refine ht _ ?_; clear ht hf KT KF) | (refine hf _ ?_; clear ht hf KT KF) | ((first | refine s_nil ?_ | refine t_nil ?_); refine hr _ ?_; clear hr kr))
     | ((with_reducible refine n_seqK [0, 1, 2, 3, 4, 5, 6, 7, 9, 17, 21, 25, 31, 34, 40] [43] ?_); simp only [mk_keep, keepL, List.mem_cons, List.not_mem_nil, Nat.reduceEqDiff, Nat.zero_ne_one, Nat.one_ne_zero, reduceCtorEq, or_false, false_or, or_true, true_or, or_self, eq_self, ↓reduceIte])
     | (with_reducible first | refine s_cond fun KT KF ht hf => ?_ | refine s_skip ?_)
     | ((with_reducible refine s_long ?_); simp only [List.cons_append, List.nil_append])
     | (with_reducible first | refine s_exit ?_ | refine s_ret ?_ | refine e_seq ?_ | refine r_seq ?_ | refine n_block ?_ | refine e_block ?_ | refine r_block ?_ | refine e_loop ?_ | refine r_loop ?_ | refine e_round ?_ | refine r_round ?_ | refine s_round ?_ | refine f_block ?_ (by decide) | refine r_res ?_ | refine n_res ?_)
     | (simp only [hgb, go_sem, Int.reduceToNat, ↓reduceIte, reduceCtorEq, Nat.reduceEqDiff, Nat.reduceAdd, Nat.reduceMul, Nat.reduceLT, Nat.reduceLeDiff, Nat.reduceBEq, Int.reduceBEq, Int.reduceBNe, String.reduceBEq, Int.reduceEq, Int.reduceLT, Int.reduceLE, Int.reduceGE, Int.reduceGT, f1, f2, f3, hrl, hPr, hm, hw, htl, hta, htk, b3, b4, hus, hul, callE, resSV, AV.flat, CV.flat, TV.flat]; clear hgb)
     | simp only [go_sem, Int.reduceToNat, ↓reduceIte, reduceCtorEq, Nat.reduceEqDiff, Nat.reduceAdd, Nat.reduceMul, Nat.reduceLT, Nat.reduceLeDiff, Nat.reduceBEq, Int.reduceBEq, Int.reduceBNe, String.reduceBEq, Int.reduceEq, Int.reduceLT, Int.reduceLE, Int.reduceGE, Int.reduceGT, f1, f2, f3, hrl, hPr, hm, hw, htl, hta, htk, b3, b4, hus, hul, callE, resSV, AV.flat, CV.flat, TV.flat, hAll]
     | refine Or.inl ⟨_, ⟨fun _ _ => rfl, h1⟩, ?_⟩
     | refine ⟨_, ⟨fun _ _ => rfl, h1⟩, ?_⟩
     | (refine ite_guard (fun hg => ?_) (fun hg => ?_) <;> (try simp only [Bool.not_eq_true, Bool.not_eq_false, Decidable.not_not] at hg) <;> (first | have hgb : (_ : Bool) = _ := hg | have hgb := ff hg | have hgb := tt hg))
     | (refine ⟨fun hc => ht _ ?_, fun hc => hf _ ?_⟩ <;> clear ht hf KT KF)
     | fail)
    refine n_loop (a + min k l.length) [0, 1, 5, 6] [43] ⟨?_, by omega⟩ (by omega)
    simp only [go_sem, Int.reduceToNat, ↓reduceIte, reduceCtorEq, Nat.reduceEqDiff, Nat.reduceAdd, Nat.reduceMul, Nat.reduceLT, Nat.reduceLeDiff, Nat.reduceBEq, Int.reduceBEq, Int.reduceBNe, String.reduceBEq, Int.reduceEq, Int.reduceLT, Int.reduceLE, Int.reduceGE, Int.reduceGT, mk_keep, keepL, List.mem_cons, List.not_mem_nil, Nat.reduceEqDiff, Nat.zero_ne_one, Nat.one_ne_zero, reduceCtorEq, or_false, false_or, or_true, true_or, or_self, eq_self, ↓reduceIte]
  · have f1 := ff (show ¬ ((a : Int) < l.length) by omega)
    have e1 : l.take a = l := List.take_of_length_le (by omega)
    have e2 : (hrows l).take l.length = hrows l := List.take_of_length_le (by omega)
    rw [e1]
    repeat' (first
     | (with_reducible first | refine s_seq ?_ | refine s_block ?_ | refine s_region fun kr hr => ?_)
     | (with_reducible refine s_text tOk [43, 1000, 1001, 1002, 1003] (by kernel_rfl) (by simp [HeapIn, namers, namerDst, namerOp, namedOp, namedFn, ownLoad, Blk.has, hasRows, hasL, CV.has, hasRows_up, hasM_up, hasRows_append, f1, hrl, e0, e2]; (try ((repeat' apply And.intro) <;> intros <;> omega))) fun kr hr => ?_)
     | (with_reducible first | refine s_op fun K' hk => ?_ | refine t_op fun K' hk => ?_ | (refine hk _ ?_; clear hk K') | (refine ht _ ?_; clear ht hf KT KF) | (refine hf _ ?_; clear ht hf KT KF) | ((first | refine s_nil ?_ | refine t_nil ?_); refine hr _ ?_; clear hr kr))
     | ((with_reducible refine n_seqK [0, 1, 2, 3, 4, 5, 6, 7, 9, 17, 21, 25, 31, 34, 40] [43] ?_); simp only [mk_keep, keepL, List.mem_cons, List.not_mem_nil, Nat.reduceEqDiff, Nat.zero_ne_one, Nat.one_ne_zero, reduceCtorEq, or_false, false_or, or_true, true_or, or_self, eq_self, ↓reduceIte])
     | (with_reducible first | refine s_cond fun KT KF ht hf => ?_ | refine s_skip ?_)
     | ((with_reducible refine s_long ?_); simp only [List.cons_append, List.nil_append])
     | (with_reducible first | refine s_exit ?_ | refine s_ret ?_ | refine e_seq ?_ | refine r_seq ?_ | refine n_block ?_ | refine e_block ?_ | refine r_block ?_ | refine e_loop ?_ | refine r_loop ?_ | refine e_round ?_ | refine r_round ?_ | refine s_round ?_ | refine f_block ?_ (by decide) | refine r_res ?_ | refine n_res ?_)
     | (simp only [hgb, go_sem, Int.reduceToNat, ↓reduceIte, reduceCtorEq, Nat.reduceEqDiff, Nat.reduceAdd, Nat.reduceMul, Nat.reduceLT, Nat.reduceLeDiff, Nat.reduceBEq, Int.reduceBEq, Int.reduceBNe, String.reduceBEq, Int.reduceEq, Int.reduceLT, Int.reduceLE, Int.reduceGE, Int.reduceGT, f1, hrl, e0, e2, callE, resSV, AV.flat, CV.flat, TV.flat]; clear hgb)
     | simp only [go_sem, Int.reduceToNat, ↓reduceIte, reduceCtorEq, Nat.reduceEqDiff, Nat.reduceAdd, Nat.reduceMul, Nat.reduceLT, Nat.reduceLeDiff, Nat.reduceBEq, Int.reduceBEq, Int.reduceBNe, String.reduceBEq, Int.reduceEq, Int.reduceLT, Int.reduceLE, Int.reduceGE, Int.reduceGT, f1, hrl, e0, e2, callE, resSV, AV.flat, CV.flat, TV.flat, hAll]
     | refine Or.inl ⟨_, ⟨fun _ _ => rfl, h9⟩, ?_⟩
     | refine ⟨_, ⟨fun _ _ => rfl, h9⟩, ?_⟩
     | refine Or.inl ⟨_, ⟨fun _ _ => rfl, h8⟩, ?_⟩
     | refine ⟨_, ⟨fun _ _ => rfl, h8⟩, ?_⟩
     | refine Or.inl ⟨_, ⟨fun _ _ => rfl, awake25_spec⟩, ?_⟩
     | refine ⟨_, ⟨fun _ _ => rfl, awake25_spec⟩, ?_⟩
     | (refine ite_guard (fun hg => ?_) (fun hg => ?_) <;> (try simp only [Bool.not_eq_true, Bool.not_eq_false, Decidable.not_not] at hg) <;> (first | have hgb : (_ : Bool) = _ := hg | have hgb := ff hg | have hgb := tt hg))
     | (refine ⟨fun hc => ht _ ?_, fun hc => hf _ ?_⟩ <;> clear ht hf KT KF)
     | fail)
theorem fuseJoins_spec (l : List Ht) (k : Int) (hk : k ≤ 9223372036854775807) (hl : l.length * 16 ≤ 140737488355328) : Spec Try.prog 12 [.v (.t (.sl 2 (hrows l))), .v (.t (.int .i64 k))] [] [.v (.t (.bool true))] [] := by
  by_cases h : k < 1
  · exact fuseJoins_none l k h hl
  · obtain ⟨n, rfl⟩ : ∃ n : Nat, k = n := ⟨k.toNat, by omega⟩
    exact fuseJoins_some l n (by omega) (by omega) hl
end Go.Proofs.Ytgmjgognpabmdaa.Fx
