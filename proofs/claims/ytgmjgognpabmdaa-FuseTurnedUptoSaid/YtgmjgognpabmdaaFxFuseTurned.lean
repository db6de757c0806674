/- The law FuseTurned. -/
import Derived.Test.YtgmjgognpabmdaaFxRankLaw
import Derived.Test.YtgmjgognpabmdaaFxAwake25
-- ren_map
namespace Go.Proofs.Ytgmjgognpabmdaa.Fx
open Go Go.RowKit
set_option maxRecDepth 100000
set_option linter.unusedSimpArgs false
set_option linter.unusedVariables false
theorem tot_rev (ls : List (List Ht)) : tot ls.reverse = tot ls := by
  unfold tot; rw [List.map_reverse, List.sum_reverse]
theorem tot_small {ls : List (List Ht)} (h1 : ls.length ≤ 1048576) (h2 : ∀ l ∈ ls, l.length ≤ 1048576) : tot ls * 16 ≤ 140737488355328 := by
  have key : ∀ ls : List (List Ht), (∀ l ∈ ls, l.length ≤ 1048576) → tot ls ≤ ls.length * 1048576 := by
    intro ls
    induction ls with
    | nil => intro _; simp [tot]
    | cons l ls ih =>
      intro h
      have := ih fun x hx => h x (by simp [hx])
      have := h l (by simp)
      simp only [tot, List.map_cons, List.sum_cons, List.length_cons] at *
      omega
  have := key ls h2
  omega
theorem fuseTurned_spec (ls : List (List Ht)) (hl : tot ls * 16 ≤ 140737488355328) (hn : ls.length * 24 ≤ 140737488355328) : Spec Try.prog 10 [.v (.t (.sl 1 (lists ls)))] [] [.v (.t (.bool true))] [] := by
  have h1 := rank_spec ls hl (by omega)
  have h2 := rank_spec ls.reverse (by rw [tot_rev]; exact hl) (by rw [List.length_reverse]; omega)
  rw [← rank_perm (List.reverse_perm ls).symm] at h2
  have hR : (hsort 2 (hits (es0.all ls ls.length).mm)).length ≤ 4611686018427387904 := by
    rw [hsort_len]
    have := (all_wf ls ls.length (Nat.le_refl _)).2
    rw [List.take_length] at this
    simp only [hits, List.length_map]; omega
  generalize hsort 2 (hits (es0.all ls ls.length).mm) = R at *
  have h3 := same_spec R R hR
  rw [decide_eq_true rfl] at h3
  have hll : (lists ls).length = ls.length := lists_len ls
  have w1 : IntKind.wrap .i64 ((ls.length : Int) - 1) = (ls.length : Int) - 1 := wI (by omega) (by omega)
  refine spec_by Try.func10 rfl mixed tOk evOk (n := 27) rfl (by simp) (by simp) ?_
  rw [initSt_mk, show Try.f10.results.toList = [.tmp 2] from rfl]
  simp only [initL, AV.sv, List.map_cons, List.map_nil, Nat.reduceAdd, Nat.zero_add]
  repeat' (first
   | (with_reducible first | refine s_seq ?_ | refine s_block ?_ | refine s_region fun kr hr => ?_)
   | (with_reducible refine s_text tOk [17, 18, 1000, 1001, 1002, 1003] (by kernel_rfl) (by simp [HeapIn, namers, namerDst, namerOp, namedOp, namedFn, ownLoad, Blk.has, hasRows, hasL, CV.has, hasRows_up, hasM_up, hasRows_append, hll, w1]; (try ((repeat' apply And.intro) <;> intros <;> omega))) fun kr hr => ?_)
   | (with_reducible first | refine s_op fun K' hk => ?_ | refine t_op fun K' hk => ?_ | (refine hk _ ?_; clear hk K') | (refine ht _ ?_; clear ht hf KT KF) | (refine hf _ ?_; clear ht hf KT KF) | ((first | refine s_nil ?_ | refine t_nil ?_); refine hr _ ?_; clear hr kr))
   | ((with_reducible refine n_seqK [0, 1, 2, 3, 4, 9, 17, 25] [17, 18] ?_); simp only [mk_keep, keepL, List.mem_cons, List.not_mem_nil, Nat.reduceEqDiff, Nat.zero_ne_one, Nat.one_ne_zero, reduceCtorEq, or_false, false_or, or_true, true_or, or_self, eq_self, ↓reduceIte])
   | (with_reducible first | refine s_cond fun KT KF ht hf => ?_ | refine s_skip ?_)
   | ((with_reducible refine s_long ?_); simp only [List.cons_append, List.nil_append])
   | (with_reducible first | refine s_exit ?_ | refine s_ret ?_ | refine e_seq ?_ | refine r_seq ?_ | refine n_block ?_ | refine e_block ?_ | refine r_block ?_ | refine e_loop ?_ | refine r_loop ?_ | refine e_round ?_ | refine r_round ?_ | refine s_round ?_ | refine f_block ?_ (by decide) | refine r_res ?_ | refine n_res ?_)
   | (simp only [hgb, go_sem, Int.reduceToNat, ↓reduceIte, reduceCtorEq, Nat.reduceEqDiff, Nat.reduceAdd, Nat.reduceMul, Nat.reduceLT, Nat.reduceLeDiff, Nat.reduceBEq, Int.reduceBEq, Int.reduceBNe, String.reduceBEq, Int.reduceEq, Int.reduceLT, Int.reduceLE, Int.reduceGE, Int.reduceGT, hll, w1]; clear hgb)
   | simp only [go_sem, Int.reduceToNat, ↓reduceIte, reduceCtorEq, Nat.reduceEqDiff, Nat.reduceAdd, Nat.reduceMul, Nat.reduceLT, Nat.reduceLeDiff, Nat.reduceBEq, Int.reduceBEq, Int.reduceBNe, String.reduceBEq, Int.reduceEq, Int.reduceLT, Int.reduceLE, Int.reduceGE, Int.reduceGT, hll, w1, hAll]
   | (refine ite_guard (fun hg => ?_) (fun hg => ?_) <;> (try simp only [Bool.not_eq_true, Bool.not_eq_false, Decidable.not_not] at hg) <;> (first | have hgb : (_ : Bool) = _ := hg | have hgb := ff hg | have hgb := tt hg))
   | (refine ⟨fun hc => ht _ ?_, fun hc => hf _ ?_⟩ <;> clear ht hf KT KF)
   | fail)
  refine w_loopG _ (gho_nilName (s := 3) (d := 18) (sz := 1) (by decide) ⟨1, rfl⟩ (by rw [fresh_t]; exact trivial; rfl)) ?_
  rw [mk_nilName]
  refine w_loop [0, 3, 4] [18] (σ := Nat) (fun k st => st = mk [(0, V (.sl 1 (lists ls))), (3, .c (.mr 18 0 k)), (4, I ((ls.length : Int) - 1 - k))] [(18, .cells 1 (up (lists (ls.reverse.take k))))] ∧ k ≤ ls.length) (fun k => ls.length - k) 0 ?_ ?_
  · refine ⟨?_, Nat.zero_le _⟩
    simp only [go_sem, Int.reduceToNat, ↓reduceIte, reduceCtorEq, Nat.reduceEqDiff, Nat.reduceAdd, Nat.reduceMul, Nat.reduceLT, Nat.reduceLeDiff, Nat.reduceBEq, Int.reduceBEq, Int.reduceBNe, String.reduceBEq, Int.reduceEq, Int.reduceLT, Int.reduceLE, Int.reduceGE, Int.reduceGT, mk_keep, keepL, List.mem_cons, List.not_mem_nil, Nat.reduceEqDiff, Nat.zero_ne_one, Nat.one_ne_zero, reduceCtorEq, or_false, false_or, or_true, true_or, or_self, eq_self, ↓reduceIte]
    simp [lists, up]
  rintro k st' ⟨rfl, hk⟩
  have hlk : (lists (ls.reverse.take k)).length = k := by rw [lists_len, List.length_take, List.length_reverse]; omega
  have htk : (up (lists (ls.reverse.take k))).take k = up (lists (ls.reverse.take k)) := List.take_of_length_le (by rw [up_length]; omega)
  by_cases hlt : k < ls.length
  · have hidx : (ls.length : Int) - 1 - k = ((ls.length - 1 - k : Nat) : Int) := by omega
    have f1 := tt (show ((ls.length - 1 - k : Nat) : Int) ≥ 0 by omega)
    have hg9 : ls.length - 1 - k < ls.length := by omega
    have f2 : (lists ls)[ls.length - 1 - k]? = some [.sl 2 (hrows ls[ls.length - 1 - k])] := by rw [lists_get, get_of_lt hg9]; rfl
    have f3 : IntKind.wrap .i64 (((ls.length - 1 - k : Nat) : Int) - 1) = (ls.length : Int) - 1 - (k + 1 : Nat) := by rw [wI (by omega) (by omega)]; omega
    have b3 := tt (show (k + 1) * 24 ≤ 140737488355328 by omega)
    have b4 := tt (show k ≤ 9223372036854775806 by omega)
    have hrev : ls.reverse.take (k + 1) = ls.reverse.take k ++ [ls[ls.length - 1 - k]] := by
      rw [List.take_succ_eq_append_getElem (by rw [List.length_reverse]; exact hlt), List.getElem_reverse]
    have hus : up (lists (ls.reverse.take k)) ++ [[.t (.sl 2 (hrows ls[ls.length - 1 - k]))]] = up (lists (ls.reverse.take (k + 1))) := by
      rw [hrev]; simp [lists, up]
    have hl2 : (lists (ls.reverse.take (k + 1))).length = k + 1 := by rw [lists_len, List.length_take, List.length_reverse]; omega
    rw [hidx]
    repeat' (first
     | (with_reducible first | refine s_seq ?_ | refine s_block ?_ | refine s_region fun kr hr => ?_)
     | (with_reducible refine s_text tOk [17, 18, 1000, 1001, 1002, 1003] (by kernel_rfl) (by simp [HeapIn, namers, namerDst, namerOp, namedOp, namedFn, ownLoad, Blk.has, hasRows, hasL, CV.has, hasRows_up, hasM_up, hasRows_append, f1, f2, f3, b3, b4, hll, hlk, htk, hus, hl2]; (try ((repeat' apply And.intro) <;> intros <;> omega))) fun kr hr => ?_)
     | (with_reducible first | refine s_op fun K' hk => ?_ | refine t_op fun K' hk => ?_ | (refine hk _ ?_; clear hk K') | (refine ht _ ?_; clear ht hf KT KF) | (refine hf _ ?_; clear ht hf KT KF) | ((first | refine s_nil ?_ | refine t_nil ?_); refine hr _ ?_; clear hr kr))
     | ((with_reducible refine n_seqK [0, 1, 2, 3, 4, 9, 17, 25] [17, 18] ?_); simp only [mk_keep, keepL, List.mem_cons, List.not_mem_nil, Nat.reduceEqDiff, Nat.zero_ne_one, Nat.one_ne_zero, reduceCtorEq, or_false, false_or, or_true, true_or, or_self, eq_self, ↓reduceIte])
     | (with_reducible first | refine s_cond fun KT KF ht hf => ?_ | refine s_skip ?_)
     | ((with_reducible refine s_long ?_); simp only [List.cons_append, List.nil_append])
     | (with_reducible first | refine s_exit ?_ | refine s_ret ?_ | refine e_seq ?_ | refine r_seq ?_ | refine n_block ?_ | refine e_block ?_ | refine r_block ?_ | refine e_loop ?_ | refine r_loop ?_ | refine e_round ?_ | refine r_round ?_ | refine s_round ?_ | refine f_block ?_ (by decide) | refine r_res ?_ | refine n_res ?_)
     | (simp only [hgb, go_sem, Int.reduceToNat, ↓reduceIte, reduceCtorEq, Nat.reduceEqDiff, Nat.reduceAdd, Nat.reduceMul, Nat.reduceLT, Nat.reduceLeDiff, Nat.reduceBEq, Int.reduceBEq, Int.reduceBNe, String.reduceBEq, Int.reduceEq, Int.reduceLT, Int.reduceLE, Int.reduceGE, Int.reduceGT, f1, f2, f3, b3, b4, hll, hlk, htk, hus, hl2]; clear hgb)
     | simp only [go_sem, Int.reduceToNat, ↓reduceIte, reduceCtorEq, Nat.reduceEqDiff, Nat.reduceAdd, Nat.reduceMul, Nat.reduceLT, Nat.reduceLeDiff, Nat.reduceBEq, Int.reduceBEq, Int.reduceBNe, String.reduceBEq, Int.reduceEq, Int.reduceLT, Int.reduceLE, Int.reduceGE, Int.reduceGT, f1, f2, f3, b3, b4, hll, hlk, htk, hus, hl2, hAll]
     | (refine ite_guard (fun hg => ?_) (fun hg => ?_) <;> (try simp only [Bool.not_eq_true, Bool.not_eq_false, Decidable.not_not] at hg) <;> (first | have hgb : (_ : Bool) = _ := hg | have hgb := ff hg | have hgb := tt hg))
     | (refine ⟨fun hc => ht _ ?_, fun hc => hf _ ?_⟩ <;> clear ht hf KT KF)
     | fail)
    refine n_loop (k + 1) [0, 3, 4] [18] ⟨?_, hlt⟩ (by omega)
    simp only [go_sem, Int.reduceToNat, ↓reduceIte, reduceCtorEq, Nat.reduceEqDiff, Nat.reduceAdd, Nat.reduceMul, Nat.reduceLT, Nat.reduceLeDiff, Nat.reduceBEq, Int.reduceBEq, Int.reduceBNe, String.reduceBEq, Int.reduceEq, Int.reduceLT, Int.reduceLE, Int.reduceGE, Int.reduceGT, mk_keep, keepL, List.mem_cons, List.not_mem_nil, Nat.reduceEqDiff, Nat.zero_ne_one, Nat.one_ne_zero, reduceCtorEq, or_false, false_or, or_true, true_or, or_self, eq_self, ↓reduceIte]
  · obtain rfl : k = ls.length := by omega
    have f1 := ff (show ¬ ((ls.length : Int) - 1 - ls.length) ≥ 0 by omega)
    have e1 : ls.reverse.take ls.length = ls.reverse := List.take_of_length_le (by rw [List.length_reverse]; exact Nat.le_refl _)
    rw [e1] at hlk htk ⊢
    have e2 : (lists ls.reverse).take ls.length = lists ls.reverse := List.take_of_length_le (by omega)
    repeat' (first
     | ((with_reducible_and_instances refine s_frz 18 rfl (viewRows_up _) ?_); simp only [del, mapV, SV.frz, CV.frz, hasA, AV.has, CV.has, List.drop_zero, List.map_cons, List.map_nil, Nat.zero_add, Nat.reduceEqDiff, Nat.reduceLeDiff, Nat.le_refl, ↓reduceIte, Bool.false_eq_true, f1, e2, hlk, hll])
     | (with_reducible first | refine s_seq ?_ | refine s_block ?_ | refine s_region fun kr hr => ?_)
     | (with_reducible refine s_text tOk [17, 18, 1000, 1001, 1002, 1003] (by kernel_rfl) (by simp [HeapIn, namers, namerDst, namerOp, namedOp, namedFn, ownLoad, Blk.has, hasRows, hasL, CV.has, hasRows_up, hasM_up, hasRows_append, f1, e2, hlk, hll]; (try ((repeat' apply And.intro) <;> intros <;> omega))) fun kr hr => ?_)
     | (with_reducible first | refine s_op fun K' hk => ?_ | refine t_op fun K' hk => ?_ | (refine hk _ ?_; clear hk K') | (refine ht _ ?_; clear ht hf KT KF) | (refine hf _ ?_; clear ht hf KT KF) | ((first | refine s_nil ?_ | refine t_nil ?_); refine hr _ ?_; clear hr kr))
     | ((with_reducible refine n_seqK [0, 1, 2, 3, 4, 9, 17, 25] [17, 18] ?_); simp only [mk_keep, keepL, List.mem_cons, List.not_mem_nil, Nat.reduceEqDiff, Nat.zero_ne_one, Nat.one_ne_zero, reduceCtorEq, or_false, false_or, or_true, true_or, or_self, eq_self, ↓reduceIte])
     | (with_reducible first | refine s_cond fun KT KF ht hf => ?_ | refine s_skip ?_)
     | ((with_reducible refine s_long ?_); simp only [List.cons_append, List.nil_append])
     | (with_reducible first | refine s_exit ?_ | refine s_ret ?_ | refine e_seq ?_ | refine r_seq ?_ | refine n_block ?_ | refine e_block ?_ | refine r_block ?_ | refine e_loop ?_ | refine r_loop ?_ | refine e_round ?_ | refine r_round ?_ | refine s_round ?_ | refine f_block ?_ (by decide) | refine r_res ?_ | refine n_res ?_)
     | (simp only [hgb, go_sem, Int.reduceToNat, ↓reduceIte, reduceCtorEq, Nat.reduceEqDiff, Nat.reduceAdd, Nat.reduceMul, Nat.reduceLT, Nat.reduceLeDiff, Nat.reduceBEq, Int.reduceBEq, Int.reduceBNe, String.reduceBEq, Int.reduceEq, Int.reduceLT, Int.reduceLE, Int.reduceGE, Int.reduceGT, f1, e2, hlk, hll, callE, resSV, AV.flat, CV.flat, TV.flat]; clear hgb)
     | simp only [go_sem, Int.reduceToNat, ↓reduceIte, reduceCtorEq, Nat.reduceEqDiff, Nat.reduceAdd, Nat.reduceMul, Nat.reduceLT, Nat.reduceLeDiff, Nat.reduceBEq, Int.reduceBEq, Int.reduceBNe, String.reduceBEq, Int.reduceEq, Int.reduceLT, Int.reduceLE, Int.reduceGE, Int.reduceGT, f1, e2, hlk, hll, callE, resSV, AV.flat, CV.flat, TV.flat, hAll]
     | refine Or.inl ⟨_, ⟨fun _ _ => rfl, h1⟩, ?_⟩
     | refine ⟨_, ⟨fun _ _ => rfl, h1⟩, ?_⟩
     | refine Or.inl ⟨_, ⟨fun _ _ => rfl, h2⟩, ?_⟩
     | refine ⟨_, ⟨fun _ _ => rfl, h2⟩, ?_⟩
     | refine Or.inl ⟨_, ⟨fun _ _ => rfl, h3⟩, ?_⟩
     | refine ⟨_, ⟨fun _ _ => rfl, h3⟩, ?_⟩
     | refine Or.inl ⟨_, ⟨fun _ _ => rfl, awake25_spec⟩, ?_⟩
     | refine ⟨_, ⟨fun _ _ => rfl, awake25_spec⟩, ?_⟩
     | (refine ite_guard (fun hg => ?_) (fun hg => ?_) <;> (try simp only [Bool.not_eq_true, Bool.not_eq_false, Decidable.not_not] at hg) <;> (first | have hgb : (_ : Bool) = _ := hg | have hgb := ff hg | have hgb := tt hg))
     | (refine ⟨fun hc => ht _ ?_, fun hc => hf _ ?_⟩ <;> clear ht hf KT KF)
     | fail)
end Go.Proofs.Ytgmjgognpabmdaa.Fx
