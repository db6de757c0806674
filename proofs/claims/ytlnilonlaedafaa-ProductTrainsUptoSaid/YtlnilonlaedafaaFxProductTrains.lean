/- The law ProductTrains. -/
import Derived.Test.YtlnilonlaedafaaFxProdTrain2
namespace Go.Proofs.Ytlnilonlaedafaa.Fx
open Go Go.RowKit
set_option maxRecDepth 100000
set_option linter.unusedSimpArgs false
set_option linter.unusedVariables false
set_option maxHeartbeats 4000000 in
theorem productTrains_spec (l : List (List Int)) (p k r seed : Int) (hl : SizedAll l) (hb : l.length + l.length ≤ 5864062014634) (hr : -9223372036854775808 ≤ r ∧ r ≤ 9223372036854775807) :
    Spec Try.prog 12 [.v (.t (vecs l)), .agg [.t (.int .i64 p), .t (.int .i64 k), .t (.int .i64 r)], .v (.t (.int .u64 seed))] [] [.v (.t (.bool true))] [] := by
  obtain ⟨m, hm⟩ : ∃ m, (if (64 : Int) < r then 64 else r) = m := ⟨_, rfl⟩
  obtain ⟨q, e, h1, h2, h3⟩ := ptrain_both l p k m seed hl hb (by rw [← hm]; split <;> omega)
  rw [vecs_eq] at h1 h2
  generalize prows q = qr at *
  refine spec_by Try.func12 rfl mixed tOk evOk (n := 48) rfl (by simp) (by simp) ?_
  rw [initSt_mk, show Try.f12.results.toList = [.tmp 6] from rfl]
  simp only [initL, AV.sv, List.map_cons, List.map_nil, Nat.reduceAdd, Nat.zero_add, vecs_eq]
  repeat' (first
   | (with_reducible first | refine s_seq ?_ | refine s_block ?_ | refine s_region fun kr hr => ?_)
   | (with_reducible refine s_text tOk [4, 8, 10, 1000, 1001, 1002, 1003] (by kernel_rfl) (by simp [HeapIn, namers, namerDst, namerOp, namedOp, namedFn, ownLoad, Blk.has, hasRows, hasL, CV.has, hasRows_up, hasM_up, hasRows_append, hm]; (try ((repeat' apply And.intro) <;> intros <;> omega))) fun kr hr => ?_)
   | (with_reducible first | refine s_op fun K' hk => ?_ | refine t_op fun K' hk => ?_ | (refine hk _ ?_; clear hk K') | (refine ht _ ?_; clear ht hf KT KF) | (refine hf _ ?_; clear ht hf KT KF) | ((first | refine s_nil ?_ | refine t_nil ?_); refine hr _ ?_; clear hr kr))
   | ((with_reducible refine n_seqK [0, 1, 2, 3, 4, 5, 6, 7, 8, 9, 10, 11, 22, 32, 33, 39, 40, 45] [4, 8, 10] ?_); simp only [mk_keep, keepL, List.mem_cons, List.not_mem_nil, Nat.reduceEqDiff, Nat.zero_ne_one, Nat.one_ne_zero, reduceCtorEq, or_false, false_or, or_true, true_or, or_self, eq_self, ↓reduceIte])
   | (with_reducible first | refine s_cond fun KT KF ht hf => ?_ | refine s_skip ?_)
   | ((with_reducible refine s_long ?_); simp only [List.cons_append, List.nil_append])
   | (with_reducible first | refine s_exit ?_ | refine s_ret ?_ | refine e_seq ?_ | refine r_seq ?_ | refine n_block ?_ | refine e_block ?_ | refine r_block ?_ | refine e_loop ?_ | refine r_loop ?_ | refine e_round ?_ | refine r_round ?_ | refine s_round ?_ | refine f_block ?_ (by decide) | refine r_res ?_ | refine n_res ?_)
   | simp only [go_sem, Int.reduceToNat, ↓reduceIte, reduceCtorEq, Nat.reduceEqDiff, Nat.reduceAdd, Nat.reduceMul, Nat.reduceLT, Nat.reduceLeDiff, Nat.reduceBEq, Int.reduceBEq, Int.reduceBNe, String.reduceBEq, Int.reduceEq, Int.reduceLT, Int.reduceLE, Int.reduceGE, Int.reduceGT, hm, callE, resSV, AV.flat, CV.flat, TV.flat, hAll]
   | refine Or.inl ⟨_, ⟨fun _ _ => rfl, h1⟩, ?_⟩
   | refine ⟨_, ⟨fun _ _ => rfl, h1⟩, ?_⟩
   | refine Or.inl ⟨_, ⟨fun _ _ => rfl, h2⟩, ?_⟩
   | refine ⟨_, ⟨fun _ _ => rfl, h2⟩, ?_⟩
   | refine Or.inl ⟨_, ⟨fun _ _ => rfl, h3⟩, ?_⟩
   | refine ⟨_, ⟨fun _ _ => rfl, h3⟩, ?_⟩
   | refine Or.inl ⟨_, ⟨fun _ _ => rfl, awake19_spec⟩, ?_⟩
   | refine ⟨_, ⟨fun _ _ => rfl, awake19_spec⟩, ?_⟩
   | fail)
end Go.Proofs.Ytlnilonlaedafaa.Fx
