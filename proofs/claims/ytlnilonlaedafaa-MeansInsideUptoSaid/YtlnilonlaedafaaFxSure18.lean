/- What 18's law is sure of. -/
import Derived.Test.YtlnilonlaedafaaFxTrain
namespace Go.Proofs.Ytlnilonlaedafaa.Fx
open Go Go.RowKit
set_option maxRecDepth 100000
set_option linter.unusedSimpArgs false
set_option linter.unusedVariables false
theorem small {l : List (List Int)} (h : decide (l.length ≤ 100) && l.all (fun v => decide (v.length ≤ 100)) = true) : SizedAll l := by
  simp only [Bool.and_eq_true, decide_eq_true_eq, List.all_eq_true] at h
  exact ⟨by omega, fun v hv => by have := h.2 v hv; omega⟩
theorem vecs_lit (l : List (List Int)) : vecs l = .sl 1 (l.map fun v => [.sl 1 (v.map fun x => [.int .i64 x])]) := rfl
theorem vec_lit (v : List Int) : vec v = .sl 1 (v.map fun x => [.int .i64 x]) := rfl
theorem s_longA {E : Env} {T : TypeId → Option TI} {n : Nat} {ds : List (Option Nat)} {a b : List Oper} {K : St → Prop} {st : St} (h : wpS E T n ds (a ++ b) K st) : wpS E T n ds (a.append b) K st := h
set_option maxHeartbeats 4000000 in
theorem sure18_spec : Spec Try.prog 21 [] [] [.v (.t (.bool true))] [] := by
  have t1 := train_spec [[5]] 3 2 1 (small (by decide)) (by decide) (by decide) (by decide)
  rw [show train [[5]] 3 2 1 = [[5]] from by decide +kernel, show trainE [[5]] 3 = 0 from by decide +kernel] at t1
  have t2 := train_spec [] 3 2 1 (small (by decide)) (by decide) (by decide) (by decide)
  rw [show train [] 3 2 1 = [] from by decide +kernel, show trainE [] 3 = 170 from by decide +kernel] at t2
  have n1 := near_spec [2] [[0], [4], [4]] (by decide) (small (by decide))
  rw [show nearest [2] [[0], [4], [4]] = 0 from by decide +kernel] at n1
  have n2 := near_spec [3] [[0], [4], [4]] (by decide) (small (by decide))
  rw [show nearest [3] [[0], [4], [4]] = 1 from by decide +kernel] at n2
  have n3 := near_spec [3] [] (by decide) (small (by decide))
  rw [show nearest [3] [] = -1 from by decide +kernel] at n3
  have s1 := step_spec [[0], [1], [10]] [[0], [9], [50]] (small (by decide)) (small (by decide)) (by decide)
  rw [show stepOf [[0], [1], [10]] [[0], [9], [50]] = [[0], [10], [50]] from by decide +kernel] at s1
  have e1 := same18_spec [[0], [10], [50]] [[0], [10], [50]] (small (by decide))
  rw [show decide ([[0], [10], [50]] = ([[0], [10], [50]] : List (List Int))) = true from by decide] at e1
  have e2 := same18_spec [[5]] [[5]] (small (by decide))
  rw [show decide ([[5]] = ([[5]] : List (List Int))) = true from by decide] at e2
  have o1 := loss_spec [[1], [8]] [[0], [9], [50]] (small (by decide)) (small (by decide))
  rw [show loss [[1], [8]] [[0], [9], [50]] = 2 from by decide +kernel] at o1
  have d1 := start_spec [[1], [2]] 5 3 (small (by decide)) (by decide)
  obtain ⟨x, y, hxy⟩ : ∃ x y, start [[1], [2]] 5 3 = [x, y] := ⟨pick [[1], [2]] 3 0, pick [[1], [2]] 3 1, by rfl⟩
  rw [hxy] at d1
  simp only [vecs_lit, vec_lit, List.map_cons, List.map_nil] at t1 t2 n1 n2 n3 s1 e1 e2 o1 d1
  refine spec_by Try.func21 rfl mixed tOk evOk (n := 84) rfl (by simp) (by simp) ?_
  rw [initSt_mk, show Try.f21.results.toList = [.tmp 0] from rfl]
  simp only [initL, AV.sv, List.map_cons, List.map_nil, Nat.reduceAdd, Nat.zero_add]
  repeat' (first
   | ((with_reducible_and_instances refine s_fold 9 0 6 rfl rfl rfl rfl (by decide) ?_); simp only [ins, del, List.modify_succ_cons, List.modify_zero_cons, List.modifyHead_cons, List.set_cons_zero, lcell_cons, lcell_nil, Nat.reduceEqDiff, Nat.reduceLT, Nat.reduceLeDiff, ↓reduceIte])
   | ((with_reducible_and_instances refine s_fold 9 1 7 rfl rfl rfl rfl (by decide) ?_); simp only [ins, del, List.modify_succ_cons, List.modify_zero_cons, List.modifyHead_cons, List.set_cons_zero, lcell_cons, lcell_nil, Nat.reduceEqDiff, Nat.reduceLT, Nat.reduceLeDiff, ↓reduceIte])
   | ((with_reducible_and_instances refine s_fold 9 2 8 rfl rfl rfl rfl (by decide) ?_); simp only [ins, del, List.modify_succ_cons, List.modify_zero_cons, List.modifyHead_cons, List.set_cons_zero, lcell_cons, lcell_nil, Nat.reduceEqDiff, Nat.reduceLT, Nat.reduceLeDiff, ↓reduceIte])
   | ((with_reducible_and_instances refine s_fold 12 0 11 rfl rfl rfl rfl (by decide) ?_); simp only [ins, del, List.modify_succ_cons, List.modify_zero_cons, List.modifyHead_cons, List.set_cons_zero, lcell_cons, lcell_nil, Nat.reduceEqDiff, Nat.reduceLT, Nat.reduceLeDiff, ↓reduceIte])
   | ((with_reducible_and_instances refine s_fold 24 0 21 rfl rfl rfl rfl (by decide) ?_); simp only [ins, del, List.modify_succ_cons, List.modify_zero_cons, List.modifyHead_cons, List.set_cons_zero, lcell_cons, lcell_nil, Nat.reduceEqDiff, Nat.reduceLT, Nat.reduceLeDiff, ↓reduceIte])
   | ((with_reducible_and_instances refine s_fold 24 1 22 rfl rfl rfl rfl (by decide) ?_); simp only [ins, del, List.modify_succ_cons, List.modify_zero_cons, List.modifyHead_cons, List.set_cons_zero, lcell_cons, lcell_nil, Nat.reduceEqDiff, Nat.reduceLT, Nat.reduceLeDiff, ↓reduceIte])
   | ((with_reducible_and_instances refine s_fold 24 2 23 rfl rfl rfl rfl (by decide) ?_); simp only [ins, del, List.modify_succ_cons, List.modify_zero_cons, List.modifyHead_cons, List.set_cons_zero, lcell_cons, lcell_nil, Nat.reduceEqDiff, Nat.reduceLT, Nat.reduceLeDiff, ↓reduceIte])
   | ((with_reducible_and_instances refine s_fold 32 0 29 rfl rfl rfl rfl (by decide) ?_); simp only [ins, del, List.modify_succ_cons, List.modify_zero_cons, List.modifyHead_cons, List.set_cons_zero, lcell_cons, lcell_nil, Nat.reduceEqDiff, Nat.reduceLT, Nat.reduceLeDiff, ↓reduceIte])
   | ((with_reducible_and_instances refine s_fold 32 1 30 rfl rfl rfl rfl (by decide) ?_); simp only [ins, del, List.modify_succ_cons, List.modify_zero_cons, List.modifyHead_cons, List.set_cons_zero, lcell_cons, lcell_nil, Nat.reduceEqDiff, Nat.reduceLT, Nat.reduceLeDiff, ↓reduceIte])
   | ((with_reducible_and_instances refine s_fold 32 2 31 rfl rfl rfl rfl (by decide) ?_); simp only [ins, del, List.modify_succ_cons, List.modify_zero_cons, List.modifyHead_cons, List.set_cons_zero, lcell_cons, lcell_nil, Nat.reduceEqDiff, Nat.reduceLT, Nat.reduceLeDiff, ↓reduceIte])
   | ((with_reducible_and_instances refine s_fold 45 0 42 rfl rfl rfl rfl (by decide) ?_); simp only [ins, del, List.modify_succ_cons, List.modify_zero_cons, List.modifyHead_cons, List.set_cons_zero, lcell_cons, lcell_nil, Nat.reduceEqDiff, Nat.reduceLT, Nat.reduceLeDiff, ↓reduceIte])
   | ((with_reducible_and_instances refine s_fold 45 1 43 rfl rfl rfl rfl (by decide) ?_); simp only [ins, del, List.modify_succ_cons, List.modify_zero_cons, List.modifyHead_cons, List.set_cons_zero, lcell_cons, lcell_nil, Nat.reduceEqDiff, Nat.reduceLT, Nat.reduceLeDiff, ↓reduceIte])
   | ((with_reducible_and_instances refine s_fold 45 2 44 rfl rfl rfl rfl (by decide) ?_); simp only [ins, del, List.modify_succ_cons, List.modify_zero_cons, List.modifyHead_cons, List.set_cons_zero, lcell_cons, lcell_nil, Nat.reduceEqDiff, Nat.reduceLT, Nat.reduceLeDiff, ↓reduceIte])
   | ((with_reducible_and_instances refine s_fold 51 0 48 rfl rfl rfl rfl (by decide) ?_); simp only [ins, del, List.modify_succ_cons, List.modify_zero_cons, List.modifyHead_cons, List.set_cons_zero, lcell_cons, lcell_nil, Nat.reduceEqDiff, Nat.reduceLT, Nat.reduceLeDiff, ↓reduceIte])
   | ((with_reducible_and_instances refine s_fold 51 1 49 rfl rfl rfl rfl (by decide) ?_); simp only [ins, del, List.modify_succ_cons, List.modify_zero_cons, List.modifyHead_cons, List.set_cons_zero, lcell_cons, lcell_nil, Nat.reduceEqDiff, Nat.reduceLT, Nat.reduceLeDiff, ↓reduceIte])
   | ((with_reducible_and_instances refine s_fold 51 2 50 rfl rfl rfl rfl (by decide) ?_); simp only [ins, del, List.modify_succ_cons, List.modify_zero_cons, List.modifyHead_cons, List.set_cons_zero, lcell_cons, lcell_nil, Nat.reduceEqDiff, Nat.reduceLT, Nat.reduceLeDiff, ↓reduceIte])
   | ((with_reducible_and_instances refine s_fold 57 0 56 rfl rfl rfl rfl (by decide) ?_); simp only [ins, del, List.modify_succ_cons, List.modify_zero_cons, List.modifyHead_cons, List.set_cons_zero, lcell_cons, lcell_nil, Nat.reduceEqDiff, Nat.reduceLT, Nat.reduceLeDiff, ↓reduceIte])
   | ((with_reducible_and_instances refine s_fold 71 0 69 rfl rfl rfl rfl (by decide) ?_); simp only [ins, del, List.modify_succ_cons, List.modify_zero_cons, List.modifyHead_cons, List.set_cons_zero, lcell_cons, lcell_nil, Nat.reduceEqDiff, Nat.reduceLT, Nat.reduceLeDiff, ↓reduceIte])
   | ((with_reducible_and_instances refine s_fold 71 1 70 rfl rfl rfl rfl (by decide) ?_); simp only [ins, del, List.modify_succ_cons, List.modify_zero_cons, List.modifyHead_cons, List.set_cons_zero, lcell_cons, lcell_nil, Nat.reduceEqDiff, Nat.reduceLT, Nat.reduceLeDiff, ↓reduceIte])
   | ((with_reducible_and_instances refine s_fold 79 0 77 rfl rfl rfl rfl (by decide) ?_); simp only [ins, del, List.modify_succ_cons, List.modify_zero_cons, List.modifyHead_cons, List.set_cons_zero, lcell_cons, lcell_nil, Nat.reduceEqDiff, Nat.reduceLT, Nat.reduceLeDiff, ↓reduceIte])
   | ((with_reducible_and_instances refine s_fold 79 1 78 rfl rfl rfl rfl (by decide) ?_); simp only [ins, del, List.modify_succ_cons, List.modify_zero_cons, List.modifyHead_cons, List.set_cons_zero, lcell_cons, lcell_nil, Nat.reduceEqDiff, Nat.reduceLT, Nat.reduceLeDiff, ↓reduceIte])
   | ((with_reducible_and_instances refine s_frz 9 rfl rfl ?_); simp only [del, mapV, SV.frz, CV.frz, hasA, AV.has, CV.has, List.drop, List.take, List.length_cons, List.length_nil, List.map_cons, List.map_nil, Nat.reduceAdd, Nat.zero_add, Nat.reduceEqDiff, Nat.reduceLeDiff, Nat.le_refl, ↓reduceIte, Bool.false_eq_true])
   | ((with_reducible_and_instances refine s_frz 12 rfl rfl ?_); simp only [del, mapV, SV.frz, CV.frz, hasA, AV.has, CV.has, List.drop, List.take, List.length_cons, List.length_nil, List.map_cons, List.map_nil, Nat.reduceAdd, Nat.zero_add, Nat.reduceEqDiff, Nat.reduceLeDiff, Nat.le_refl, ↓reduceIte, Bool.false_eq_true])
   | ((with_reducible_and_instances refine s_frz 20 rfl rfl ?_); simp only [del, mapV, SV.frz, CV.frz, hasA, AV.has, CV.has, List.drop, List.take, List.length_cons, List.length_nil, List.map_cons, List.map_nil, Nat.reduceAdd, Nat.zero_add, Nat.reduceEqDiff, Nat.reduceLeDiff, Nat.le_refl, ↓reduceIte, Bool.false_eq_true])
   | ((with_reducible_and_instances refine s_frz 24 rfl rfl ?_); simp only [del, mapV, SV.frz, CV.frz, hasA, AV.has, CV.has, List.drop, List.take, List.length_cons, List.length_nil, List.map_cons, List.map_nil, Nat.reduceAdd, Nat.zero_add, Nat.reduceEqDiff, Nat.reduceLeDiff, Nat.le_refl, ↓reduceIte, Bool.false_eq_true])
   | ((with_reducible_and_instances refine s_frz 28 rfl rfl ?_); simp only [del, mapV, SV.frz, CV.frz, hasA, AV.has, CV.has, List.drop, List.take, List.length_cons, List.length_nil, List.map_cons, List.map_nil, Nat.reduceAdd, Nat.zero_add, Nat.reduceEqDiff, Nat.reduceLeDiff, Nat.le_refl, ↓reduceIte, Bool.false_eq_true])
   | ((with_reducible_and_instances refine s_frz 32 rfl rfl ?_); simp only [del, mapV, SV.frz, CV.frz, hasA, AV.has, CV.has, List.drop, List.take, List.length_cons, List.length_nil, List.map_cons, List.map_nil, Nat.reduceAdd, Nat.zero_add, Nat.reduceEqDiff, Nat.reduceLeDiff, Nat.le_refl, ↓reduceIte, Bool.false_eq_true])
   | ((with_reducible_and_instances refine s_frz 37 rfl rfl ?_); simp only [del, mapV, SV.frz, CV.frz, hasA, AV.has, CV.has, List.drop, List.take, List.length_cons, List.length_nil, List.map_cons, List.map_nil, Nat.reduceAdd, Nat.zero_add, Nat.reduceEqDiff, Nat.reduceLeDiff, Nat.le_refl, ↓reduceIte, Bool.false_eq_true])
   | ((with_reducible_and_instances refine s_frz 45 rfl rfl ?_); simp only [del, mapV, SV.frz, CV.frz, hasA, AV.has, CV.has, List.drop, List.take, List.length_cons, List.length_nil, List.map_cons, List.map_nil, Nat.reduceAdd, Nat.zero_add, Nat.reduceEqDiff, Nat.reduceLeDiff, Nat.le_refl, ↓reduceIte, Bool.false_eq_true])
   | ((with_reducible_and_instances refine s_frz 51 rfl rfl ?_); simp only [del, mapV, SV.frz, CV.frz, hasA, AV.has, CV.has, List.drop, List.take, List.length_cons, List.length_nil, List.map_cons, List.map_nil, Nat.reduceAdd, Nat.zero_add, Nat.reduceEqDiff, Nat.reduceLeDiff, Nat.le_refl, ↓reduceIte, Bool.false_eq_true])
   | ((with_reducible_and_instances refine s_frz 57 rfl rfl ?_); simp only [del, mapV, SV.frz, CV.frz, hasA, AV.has, CV.has, List.drop, List.take, List.length_cons, List.length_nil, List.map_cons, List.map_nil, Nat.reduceAdd, Nat.zero_add, Nat.reduceEqDiff, Nat.reduceLeDiff, Nat.le_refl, ↓reduceIte, Bool.false_eq_true])
   | ((with_reducible_and_instances refine s_frz 71 rfl rfl ?_); simp only [del, mapV, SV.frz, CV.frz, hasA, AV.has, CV.has, List.drop, List.take, List.length_cons, List.length_nil, List.map_cons, List.map_nil, Nat.reduceAdd, Nat.zero_add, Nat.reduceEqDiff, Nat.reduceLeDiff, Nat.le_refl, ↓reduceIte, Bool.false_eq_true])
   | ((with_reducible_and_instances refine s_frz 79 rfl rfl ?_); simp only [del, mapV, SV.frz, CV.frz, hasA, AV.has, CV.has, List.drop, List.take, List.length_cons, List.length_nil, List.map_cons, List.map_nil, Nat.reduceAdd, Nat.zero_add, Nat.reduceEqDiff, Nat.reduceLeDiff, Nat.le_refl, ↓reduceIte, Bool.false_eq_true])
   | ((with_reducible refine s_longA ?_); simp only [List.cons_append, List.nil_append])
   | (with_reducible first | refine s_seq ?_ | refine s_block ?_ | refine s_region fun kr hr => ?_)
   | (with_reducible refine s_text tOk [6, 7, 8, 9, 11, 12, 20, 21, 22, 23, 24, 28, 29, 30, 31, 32, 37, 42, 43, 44, 45, 48, 49, 50, 51, 56, 57, 69, 70, 71, 77, 78, 79, 1000, 1001, 1002, 1003] (by kernel_rfl) (by simp [HeapIn, namers, namerDst, namerOp, namedOp, namedFn, ownLoad, Blk.has, hasRows, hasL, CV.has, hasRows_up, hasRows_append]; (try ((repeat' apply And.intro) <;> intros <;> omega))) fun kr hr => ?_)
   | (with_reducible first | refine s_op fun K' hk => ?_ | refine t_op fun K' hk => ?_ | (refine hk _ ?_; clear hk K') | (refine ht _ ?_; clear ht hf KT KF) | (refine hf _ ?_; clear ht hf KT KF) | ((first | refine s_nil ?_ | refine t_nil ?_); refine hr _ ?_; clear hr kr))
   | ((with_reducible refine n_seqK [0, 1, 2, 3, 4, 5, 8, 10, 14, 15, 17, 19, 22, 23, 32, 50] [6, 7, 8, 9, 11, 12, 20, 21, 22, 23, 24, 28, 29, 30, 31, 32, 37, 42, 43, 44, 45, 48, 49, 50, 51, 56, 57, 69, 70, 71, 77, 78, 79] ?_); simp only [mk_keep, keepL, List.mem_cons, List.not_mem_nil, Nat.reduceEqDiff, Nat.zero_ne_one, Nat.one_ne_zero, reduceCtorEq, or_false, false_or, or_true, true_or, or_self, eq_self, ↓reduceIte])
   | (with_reducible first | refine s_cond fun KT KF ht hf => ?_ | refine s_skip ?_)
   | ((with_reducible refine s_long ?_); simp only [List.cons_append, List.nil_append])
   | (with_reducible first | refine s_exit ?_ | refine s_ret ?_ | refine e_seq ?_ | refine r_seq ?_ | refine n_block ?_ | refine e_block ?_ | refine r_block ?_ | refine e_loop ?_ | refine r_loop ?_ | refine e_round ?_ | refine r_round ?_ | refine s_round ?_ | refine f_block ?_ (by decide) | refine r_res ?_ | refine n_res ?_)
   | (simp only [hgb, go_sem, Int.reduceToNat, ↓reduceIte, reduceCtorEq, Nat.reduceEqDiff, Nat.reduceAdd, Nat.reduceMul, Nat.reduceLT, Nat.reduceLeDiff, Nat.reduceBEq, Int.reduceBEq, Int.reduceBNe, String.reduceBEq, Int.reduceEq, Int.reduceLT, Int.reduceLE, Int.reduceGE, Int.reduceGT, callE, resSV, AV.flat, CV.flat, TV.flat]; clear hgb)
   | simp only [go_sem, Int.reduceToNat, ↓reduceIte, reduceCtorEq, Nat.reduceEqDiff, Nat.reduceAdd, Nat.reduceMul, Nat.reduceLT, Nat.reduceLeDiff, Nat.reduceBEq, Int.reduceBEq, Int.reduceBNe, String.reduceBEq, Int.reduceEq, Int.reduceLT, Int.reduceLE, Int.reduceGE, Int.reduceGT, callE, resSV, AV.flat, CV.flat, TV.flat, hAll]
   | refine Or.inl ⟨_, ⟨fun _ _ => rfl, t1⟩, ?_⟩
   | refine ⟨_, ⟨fun _ _ => rfl, t1⟩, ?_⟩
   | refine Or.inl ⟨_, ⟨fun _ _ => rfl, t2⟩, ?_⟩
   | refine ⟨_, ⟨fun _ _ => rfl, t2⟩, ?_⟩
   | refine Or.inl ⟨_, ⟨fun _ _ => rfl, n1⟩, ?_⟩
   | refine ⟨_, ⟨fun _ _ => rfl, n1⟩, ?_⟩
   | refine Or.inl ⟨_, ⟨fun _ _ => rfl, n2⟩, ?_⟩
   | refine ⟨_, ⟨fun _ _ => rfl, n2⟩, ?_⟩
   | refine Or.inl ⟨_, ⟨fun _ _ => rfl, n3⟩, ?_⟩
   | refine ⟨_, ⟨fun _ _ => rfl, n3⟩, ?_⟩
   | refine Or.inl ⟨_, ⟨fun _ _ => rfl, s1⟩, ?_⟩
   | refine ⟨_, ⟨fun _ _ => rfl, s1⟩, ?_⟩
   | refine Or.inl ⟨_, ⟨fun _ _ => rfl, e1⟩, ?_⟩
   | refine ⟨_, ⟨fun _ _ => rfl, e1⟩, ?_⟩
   | refine Or.inl ⟨_, ⟨fun _ _ => rfl, e2⟩, ?_⟩
   | refine ⟨_, ⟨fun _ _ => rfl, e2⟩, ?_⟩
   | refine Or.inl ⟨_, ⟨fun _ _ => rfl, o1⟩, ?_⟩
   | refine ⟨_, ⟨fun _ _ => rfl, o1⟩, ?_⟩
   | refine Or.inl ⟨_, ⟨fun _ _ => rfl, d1⟩, ?_⟩
   | refine ⟨_, ⟨fun _ _ => rfl, d1⟩, ?_⟩
   | (refine ite_guard (fun hg => ?_) (fun hg => ?_) <;> (try simp only [Bool.not_eq_true, Bool.not_eq_false, Decidable.not_not] at hg) <;> (first | have hgb : (_ : Bool) = _ := hg | have hgb := ff hg | have hgb := tt hg))
   | (refine ⟨fun hc => ht _ ?_, fun hc => hf _ ?_⟩ <;> clear ht hf KT KF)
   | fail)
  all_goals rfl
end Go.Proofs.Ytlnilonlaedafaa.Fx
