/- A hit weighed. -/
import Derived.Test.YtgmjgognpabmdaaFxRank
import Derived.Test.YtgmjgognpabmdaaFxMul
-- ren_map
namespace Go.Proofs.Ytgmjgognpabmdaa.Fx
open Go Go.RowKit
set_option maxRecDepth 100000
set_option linter.unusedSimpArgs false
set_option linter.unusedVariables false
/-- A sum, and whether it is an int. -/
def addF (a b : Int) : Int × Bool := (IntKind.wrap .i64 (a + b), decide (IntKind.wrap .i64 (a + b) < a) == decide (b < 0))
theorem fadd_spec (a b : Int) : Spec Try.prog 57 [.v (.t (.int .i64 a)), .v (.t (.int .i64 b))] [] [.v (.t (.int .i64 (addF a b).1)), .v (.t (.bool (addF a b).2))] [] := by
  unfold addF
  refine spec_by Try.func57 rfl mixed tOk evOk (n := 17) rfl (by simp) (by simp) ?_
  rw [initSt_mk, show Try.f57.results.toList = [.tmp 4, .tmp 5] from rfl]
  simp only [initL, AV.sv, List.map_cons, List.map_nil, Nat.reduceAdd, Nat.zero_add]
  repeat' (first
   | (with_reducible first | refine s_seq ?_ | refine s_block ?_ | refine s_region fun kr hr => ?_)
   | (with_reducible refine s_text tOk [1000, 1001, 1002, 1003] (by kernel_rfl) (by simp [HeapIn, namers, namerDst, namerOp, namedOp, namedFn, ownLoad, Blk.has, hasRows, hasL, CV.has, hasRows_up, hasM_up, hasRows_append]; (try ((repeat' apply And.intro) <;> intros <;> omega))) fun kr hr => ?_)
   | (with_reducible first | refine s_op fun K' hk => ?_ | refine t_op fun K' hk => ?_ | (refine hk _ ?_; clear hk K') | (refine ht _ ?_; clear ht hf KT KF) | (refine hf _ ?_; clear ht hf KT KF) | ((first | refine s_nil ?_ | refine t_nil ?_); refine hr _ ?_; clear hr kr))
   | ((with_reducible refine n_seqK [0, 1, 2, 3, 4, 5, 6] [] ?_); simp only [mk_keep, keepL, List.mem_cons, List.not_mem_nil, Nat.reduceEqDiff, Nat.zero_ne_one, Nat.one_ne_zero, reduceCtorEq, or_false, false_or, or_true, true_or, or_self, eq_self, ↓reduceIte])
   | (with_reducible first | refine s_cond fun KT KF ht hf => ?_ | refine s_skip ?_)
   | ((with_reducible refine s_long ?_); simp only [List.cons_append, List.nil_append])
   | (with_reducible first | refine s_exit ?_ | refine s_ret ?_ | refine e_seq ?_ | refine r_seq ?_ | refine n_block ?_ | refine e_block ?_ | refine r_block ?_ | refine e_loop ?_ | refine r_loop ?_ | refine e_round ?_ | refine r_round ?_ | refine s_round ?_ | refine f_block ?_ (by decide) | refine r_res ?_ | refine n_res ?_)
   | (simp only [hgb, go_sem, Int.reduceToNat, ↓reduceIte, reduceCtorEq, Nat.reduceEqDiff, Nat.reduceAdd, Nat.reduceMul, Nat.reduceLT, Nat.reduceLeDiff, Nat.reduceBEq, Int.reduceBEq, Int.reduceBNe, String.reduceBEq, Int.reduceEq, Int.reduceLT, Int.reduceLE, Int.reduceGE, Int.reduceGT]; clear hgb)
   | simp only [go_sem, Int.reduceToNat, ↓reduceIte, reduceCtorEq, Nat.reduceEqDiff, Nat.reduceAdd, Nat.reduceMul, Nat.reduceLT, Nat.reduceLeDiff, Nat.reduceBEq, Int.reduceBEq, Int.reduceBNe, String.reduceBEq, Int.reduceEq, Int.reduceLT, Int.reduceLE, Int.reduceGE, Int.reduceGT, hAll]
   | (refine ite_guard (fun hg => ?_) (fun hg => ?_) <;> (try simp only [Bool.not_eq_true, Bool.not_eq_false, Decidable.not_not] at hg) <;> (first | have hgb : (_ : Bool) = _ := hg | have hgb := ff hg | have hgb := tt hg))
   | (refine ⟨fun hc => ht _ ?_, fun hc => hf _ ?_⟩ <;> clear ht hf KT KF)
   | fail)
/-- A score weighed, as it is added. -/
def wNum (mt n : Int) : Int := if mt = 1 then IntKind.wrap .i64 (0 - n) else n
def wOver (mt n : Int) (ov : Bool) : Bool := if mt = 1 then ov || (decide (n = IntKind.wrap .i64 (0 - n)) && !decide (n = 0)) else ov
set_option maxHeartbeats 2000000 in
theorem weigh2_spec (p : Int) (z : Ht) (ws ms : List Int) (i : Nat) (hi : i < ws.length ∧ i < ms.length) (ov : Bool) (c : Nat) (m : IM) (hw : In64 ws[i]) (hz : In64 z.2) :
    Spec Try.prog 55 [.v (.t (.int .i64 p)), .agg (hcell z), .v (.mp 1000 0 0), .v (.mp 1001 0 0), .v (.mp 1002 0 0), .v (.mp 1003 0 0), .v (.mp 1004 0 0)]
    [(1000, .cells 1 [[.t (vec ws)]]), (1001, .cells 1 [[.t (.int .i64 i)]]), (1002, .cells 1 [[.t (vec ms)]]), (1003, .cells 1 [[.t (.bool ov)]]), (1004, .cells 1 [[.mm 1005]]), (1005, .map c (upII m))] []
    [(1000, .cells 1 [[.t (vec ws)]]), (1001, .cells 1 [[.t (.int .i64 i)]]), (1002, .cells 1 [[.t (vec ms)]]), (1003, .cells 1 [[.t (.bool (wOver ms[i] (mulOf ws[i] z.2).1 ov || !decide ((mulOf ws[i] z.2).2 = 0) || !(addF (mval 0 m z.1) (wNum ms[i] (mulOf ws[i] z.2).1)).2))]]), (1004, .cells 1 [[.mm 1005]]), (1005, .map (mclk c m z.1) (upII (mset c m z.1 (addF (mval 0 m z.1) (wNum ms[i] (mulOf ws[i] z.2).1)).1)))] := by
  obtain ⟨z1, z2⟩ := z
  have f1 : (ints ws)[i]? = some [.int .i64 ws[i]] := by rw [ints_get, get_of_lt hi.1]; rfl
  have f2 : (ints ms)[i]? = some [.int .i64 ms[i]] := by rw [ints_get, get_of_lt hi.2]; rfl
  have hmu := mul_spec ws[i] z2 hw hz
  simp only at hz hmu ⊢
  generalize (mulOf ws[i] z2).1 = n at hmu ⊢
  generalize (mulOf ws[i] z2).2 = e at hmu ⊢
  generalize ms[i] = mt at f2 ⊢
  obtain ⟨x, hx⟩ : ∃ x, wNum mt n = x := ⟨_, rfl⟩
  obtain ⟨ov1, hov⟩ : ∃ o, wOver mt n ov = o := ⟨_, rfl⟩
  rw [hx, hov]
  obtain ⟨y, hy⟩ : ∃ y, IntKind.wrap .i64 (0 - n) = y := ⟨_, rfl⟩
  unfold wNum at hx
  unfold wOver at hov
  rw [hy] at hx hov
  have had := fadd_spec (mval 0 m z1) x
  have hmv : mset c m z1 (addF (mval 0 m z1) x).1 = mset c m z1 (addF (mval 0 m z1) x).1 := rfl
  generalize hsu : (addF (mval 0 m z1) x).1 = s at had ⊢
  generalize hok : (addF (mval 0 m z1) x).2 = ok at had ⊢
  clear hmv
  obtain ⟨J27, hJ⟩ : ∃ J : St → Prop, J = fun st => st = mk [(3, .c (.mp 1001 0 0)), (4, .c (.mp 1002 0 0)), (5, .c (.mp 1003 0 0)), (6, .c (.mp 1004 0 0)), (8, .c (.mp 8 0 0)), (9, I x), (10, I e)] [(8, .cells 2 [[.t (.int .i64 z1), .t (.int .i64 z2)]]), (1000, .cells 1 [[.t (.sl 1 (ints ws))]]), (1001, .cells 1 [[.t (.int .i64 i)]]), (1002, .cells 1 [[.t (.sl 1 (ints ms))]]), (1003, .cells 1 [[.t (.bool ov1)]]), (1004, .cells 1 [[.mm 1005]]), (1005, .map c (upII m))] := ⟨_, rfl⟩
  refine spec_by Try.func55 rfl mixed tOk evOk (n := 63) rfl (by simp) (by simp) ?_
  rw [initSt_mk, show Try.f55.results.toList = [] from rfl]
  simp only [initL, AV.sv, List.map_cons, List.map_nil, Nat.reduceAdd, Nat.zero_add, hcell, vec]
  repeat' (first
   | with_reducible refine s_draw (id := 1) ?_
   | ((with_reducible refine a_seg tOk [8, 1000, 1001, 1002, 1003, 1004, 1005] 12 0 6 (by decide) (by kernel_rfl) (by simp [HeapIn, namers, namerDst, namerOp, namedOp, namedFn, ownLoad, Blk.has, hasRows, hasL, CV.has, hasRows_up, hasM_up, hasRows_append, f1, f2, hcell, hy]; (try ((repeat' apply And.intro) <;> intros <;> omega))) fun kr hr => ?_); simp only [List.drop_succ_cons, List.drop_zero, List.take_succ_cons, List.take_zero, List.map_cons, List.map_nil, List.cons_append, List.nil_append, Nat.reduceSub])
   | ((with_reducible refine a_seg tOk [8, 1000, 1001, 1002, 1003, 1004, 1005] 12 7 12 (by decide) (by kernel_rfl) (by simp [HeapIn, namers, namerDst, namerOp, namedOp, namedFn, ownLoad, Blk.has, hasRows, hasL, CV.has, hasRows_up, hasM_up, hasRows_append, f1, f2, hcell, hy]; (try ((repeat' apply And.intro) <;> intros <;> omega))) fun kr hr => ?_); simp only [List.drop_succ_cons, List.drop_zero, List.take_succ_cons, List.take_zero, List.map_cons, List.map_nil, List.cons_append, List.nil_append, Nat.reduceSub])
   | ((with_reducible refine a_one 12 6 (by decide) (by kernel_rfl) fun kr hr => ?_); simp only [List.drop_succ_cons, List.drop_zero, List.take_succ_cons, List.take_zero, List.map_cons, List.map_nil, List.cons_append, List.nil_append, Nat.reduceSub])
   | with_reducible refine a_end 12 (by decide) ?_
   | (with_reducible refine hr _ ?_; clear hr kr)
   | with_reducible refine s_seqJ (x := .seq _ (.cond (.tmp 27) _ _)) J27 ?_ ?_
   | (with_reducible first | refine e_join ?_ | refine r_join ?_)
   | (with_reducible first | refine s_seq ?_ | refine s_block ?_ | refine s_region fun kr hr => ?_)
   | (with_reducible refine s_text tOk [8, 1000, 1001, 1002, 1003, 1004, 1005] (by kernel_rfl) (by simp [HeapIn, namers, namerDst, namerOp, namedOp, namedFn, ownLoad, Blk.has, hasRows, hasL, CV.has, hasRows_up, hasM_up, hasRows_append, f1, f2, hcell, hy]; (try ((repeat' apply And.intro) <;> intros <;> omega))) fun kr hr => ?_)
   | (with_reducible first | refine s_op fun K' hk => ?_ | refine t_op fun K' hk => ?_ | (refine hk _ ?_; clear hk K') | (refine ht _ ?_; clear ht hf KT KF) | (refine hf _ ?_; clear ht hf KT KF) | ((first | refine s_nil ?_ | refine t_nil ?_); refine hr _ ?_; clear hr kr))
   | ((with_reducible refine n_seqK [0, 1, 2, 3, 4, 5, 6, 7, 8, 9, 10, 11, 12, 23, 27, 48, 49, 56, 57] [8, 1000, 1001, 1002, 1003, 1004, 1005] ?_); simp only [mk_keep, keepL, List.mem_cons, List.not_mem_nil, Nat.reduceEqDiff, Nat.zero_ne_one, Nat.one_ne_zero, reduceCtorEq, or_false, false_or, or_true, true_or, or_self, eq_self, ↓reduceIte])
   | (with_reducible first | refine s_cond fun KT KF ht hf => ?_ | refine s_skip ?_)
   | ((with_reducible refine s_long ?_); simp only [List.cons_append, List.nil_append])
   | (with_reducible first | refine s_exit ?_ | refine s_ret ?_ | refine e_seq ?_ | refine r_seq ?_ | refine n_block ?_ | refine e_block ?_ | refine r_block ?_ | refine e_loop ?_ | refine r_loop ?_ | refine e_round ?_ | refine r_round ?_ | refine s_round ?_ | refine f_block ?_ (by decide) | refine r_res ?_ | refine n_res ?_)
   | (simp only [hgb, go_sem, Int.reduceToNat, ↓reduceIte, reduceCtorEq, Nat.reduceEqDiff, Nat.reduceAdd, Nat.reduceMul, Nat.reduceLT, Nat.reduceLeDiff, Nat.reduceBEq, Int.reduceBEq, Int.reduceBNe, String.reduceBEq, Int.reduceEq, Int.reduceLT, Int.reduceLE, Int.reduceGE, Int.reduceGT, f1, f2, hcell, hy, callE, resSV, AV.flat, CV.flat, TV.flat]; clear hgb)
   | simp only [go_sem, Int.reduceToNat, ↓reduceIte, reduceCtorEq, Nat.reduceEqDiff, Nat.reduceAdd, Nat.reduceMul, Nat.reduceLT, Nat.reduceLeDiff, Nat.reduceBEq, Int.reduceBEq, Int.reduceBNe, String.reduceBEq, Int.reduceEq, Int.reduceLT, Int.reduceLE, Int.reduceGE, Int.reduceGT, f1, f2, hcell, hy, callE, resSV, AV.flat, CV.flat, TV.flat, hAll]
   | refine Or.inl ⟨_, ⟨fun _ _ => rfl, hmu⟩, ?_⟩
   | refine ⟨_, ⟨fun _ _ => rfl, hmu⟩, ?_⟩
   | (refine ite_guard (fun hg => ?_) (fun hg => ?_) <;> (try simp only [Bool.not_eq_true, Bool.not_eq_false, Decidable.not_not] at hg) <;> (first | have hgb : (_ : Bool) = _ := hg | have hgb := ff hg | have hgb := tt hg))
   | (refine ⟨fun hc => ht _ ?_, fun hc => hf _ ?_⟩ <;> clear ht hf KT KF)
   | fail)
  case refine_2 =>
    intro st hst
    rw [hJ] at hst
    subst hst
    clear hx hov hy hJ
    cases hf : pfind z1 m with
    | none =>
      have hv : mval 0 m z1 = 0 := by simp [mval, hf]
      rw [hv] at had
      repeat' (first
       | (with_reducible first | refine s_seq ?_ | refine s_block ?_ | refine s_region fun kr hr => ?_)
       | (with_reducible refine s_text tOk [8, 1000, 1001, 1002, 1003, 1004, 1005] (by kernel_rfl) (by simp [HeapIn, namers, namerDst, namerOp, namedOp, namedFn, ownLoad, Blk.has, hasRows, hasL, CV.has, hasRows_up, hasM_up, hasRows_append, hf, mset, mclk, Option.isSome]; (try ((repeat' apply And.intro) <;> intros <;> omega))) fun kr hr => ?_)
       | (with_reducible first | refine s_op fun K' hk => ?_ | refine t_op fun K' hk => ?_ | (refine hk _ ?_; clear hk K') | (refine ht _ ?_; clear ht hf KT KF) | (refine hf _ ?_; clear ht hf KT KF) | ((first | refine s_nil ?_ | refine t_nil ?_); refine hr _ ?_; clear hr kr))
       | ((with_reducible refine n_seqK [0, 1, 2, 3, 4, 5, 6, 7, 8, 9, 10, 11, 12, 23, 27, 48, 49, 56, 57] [8, 1000, 1001, 1002, 1003, 1004, 1005] ?_); simp only [mk_keep, keepL, List.mem_cons, List.not_mem_nil, Nat.reduceEqDiff, Nat.zero_ne_one, Nat.one_ne_zero, reduceCtorEq, or_false, false_or, or_true, true_or, or_self, eq_self, ↓reduceIte])
       | (with_reducible first | refine s_cond fun KT KF ht hf => ?_ | refine s_skip ?_)
       | ((with_reducible refine s_long ?_); simp only [List.cons_append, List.nil_append])
       | (with_reducible first | refine s_exit ?_ | refine s_ret ?_ | refine e_seq ?_ | refine r_seq ?_ | refine n_block ?_ | refine e_block ?_ | refine r_block ?_ | refine e_loop ?_ | refine r_loop ?_ | refine e_round ?_ | refine r_round ?_ | refine s_round ?_ | refine f_block ?_ (by decide) | refine r_res ?_ | refine n_res ?_)
       | (simp only [hgb, go_sem, Int.reduceToNat, ↓reduceIte, reduceCtorEq, Nat.reduceEqDiff, Nat.reduceAdd, Nat.reduceMul, Nat.reduceLT, Nat.reduceLeDiff, Nat.reduceBEq, Int.reduceBEq, Int.reduceBNe, String.reduceBEq, Int.reduceEq, Int.reduceLT, Int.reduceLE, Int.reduceGE, Int.reduceGT, hf, mset, mclk, Option.isSome, callE, resSV, AV.flat, CV.flat, TV.flat]; clear hgb)
       | simp only [go_sem, Int.reduceToNat, ↓reduceIte, reduceCtorEq, Nat.reduceEqDiff, Nat.reduceAdd, Nat.reduceMul, Nat.reduceLT, Nat.reduceLeDiff, Nat.reduceBEq, Int.reduceBEq, Int.reduceBNe, String.reduceBEq, Int.reduceEq, Int.reduceLT, Int.reduceLE, Int.reduceGE, Int.reduceGT, hf, mset, mclk, Option.isSome, callE, resSV, AV.flat, CV.flat, TV.flat, hAll]
       | refine Or.inl ⟨_, ⟨fun _ _ => rfl, had⟩, ?_⟩
       | refine ⟨_, ⟨fun _ _ => rfl, had⟩, ?_⟩
       | (refine ite_guard (fun hg => ?_) (fun hg => ?_) <;> (try simp only [Bool.not_eq_true, Bool.not_eq_false, Decidable.not_not] at hg) <;> (first | have hgb : (_ : Bool) = _ := hg | have hgb := ff hg | have hgb := tt hg))
       | (refine ⟨fun hc => ht _ ?_, fun hc => hf _ ?_⟩ <;> clear ht hf KT KF)
       | fail)
      all_goals (simp_all; done)
    | some iv =>
      obtain ⟨j, v⟩ := iv
      have hv : mval 0 m z1 = v := by simp [mval, hf]
      rw [hv] at had
      repeat' (first
       | (with_reducible first | refine s_seq ?_ | refine s_block ?_ | refine s_region fun kr hr => ?_)
       | (with_reducible refine s_text tOk [8, 1000, 1001, 1002, 1003, 1004, 1005] (by kernel_rfl) (by simp [HeapIn, namers, namerDst, namerOp, namedOp, namedFn, ownLoad, Blk.has, hasRows, hasL, CV.has, hasRows_up, hasM_up, hasRows_append, hf, mset, mclk, Option.isSome]; (try ((repeat' apply And.intro) <;> intros <;> omega))) fun kr hr => ?_)
       | (with_reducible first | refine s_op fun K' hk => ?_ | refine t_op fun K' hk => ?_ | (refine hk _ ?_; clear hk K') | (refine ht _ ?_; clear ht hf KT KF) | (refine hf _ ?_; clear ht hf KT KF) | ((first | refine s_nil ?_ | refine t_nil ?_); refine hr _ ?_; clear hr kr))
       | ((with_reducible refine n_seqK [0, 1, 2, 3, 4, 5, 6, 7, 8, 9, 10, 11, 12, 23, 27, 48, 49, 56, 57] [8, 1000, 1001, 1002, 1003, 1004, 1005] ?_); simp only [mk_keep, keepL, List.mem_cons, List.not_mem_nil, Nat.reduceEqDiff, Nat.zero_ne_one, Nat.one_ne_zero, reduceCtorEq, or_false, false_or, or_true, true_or, or_self, eq_self, ↓reduceIte])
       | (with_reducible first | refine s_cond fun KT KF ht hf => ?_ | refine s_skip ?_)
       | ((with_reducible refine s_long ?_); simp only [List.cons_append, List.nil_append])
       | (with_reducible first | refine s_exit ?_ | refine s_ret ?_ | refine e_seq ?_ | refine r_seq ?_ | refine n_block ?_ | refine e_block ?_ | refine r_block ?_ | refine e_loop ?_ | refine r_loop ?_ | refine e_round ?_ | refine r_round ?_ | refine s_round ?_ | refine f_block ?_ (by decide) | refine r_res ?_ | refine n_res ?_)
       | (simp only [hgb, go_sem, Int.reduceToNat, ↓reduceIte, reduceCtorEq, Nat.reduceEqDiff, Nat.reduceAdd, Nat.reduceMul, Nat.reduceLT, Nat.reduceLeDiff, Nat.reduceBEq, Int.reduceBEq, Int.reduceBNe, String.reduceBEq, Int.reduceEq, Int.reduceLT, Int.reduceLE, Int.reduceGE, Int.reduceGT, hf, mset, mclk, Option.isSome, callE, resSV, AV.flat, CV.flat, TV.flat]; clear hgb)
       | simp only [go_sem, Int.reduceToNat, ↓reduceIte, reduceCtorEq, Nat.reduceEqDiff, Nat.reduceAdd, Nat.reduceMul, Nat.reduceLT, Nat.reduceLeDiff, Nat.reduceBEq, Int.reduceBEq, Int.reduceBNe, String.reduceBEq, Int.reduceEq, Int.reduceLT, Int.reduceLE, Int.reduceGE, Int.reduceGT, hf, mset, mclk, Option.isSome, callE, resSV, AV.flat, CV.flat, TV.flat, hAll]
       | refine Or.inl ⟨_, ⟨fun _ _ => rfl, had⟩, ?_⟩
       | refine ⟨_, ⟨fun _ _ => rfl, had⟩, ?_⟩
       | (refine ite_guard (fun hg => ?_) (fun hg => ?_) <;> (try simp only [Bool.not_eq_true, Bool.not_eq_false, Decidable.not_not] at hg) <;> (first | have hgb : (_ : Bool) = _ := hg | have hgb := ff hg | have hgb := tt hg))
       | (refine ⟨fun hc => ht _ ?_, fun hc => hf _ ?_⟩ <;> clear ht hf KT KF)
       | fail)
      all_goals (simp_all; done)
  all_goals
    refine n_join [3, 4, 5, 6, 8, 9, 10] [8, 1000, 1001, 1002, 1003, 1004, 1005] ?_
    rw [hJ]
    simp only [go_sem, Int.reduceToNat, ↓reduceIte, reduceCtorEq, Nat.reduceEqDiff, Nat.reduceAdd, Nat.reduceMul, Nat.reduceLT, Nat.reduceLeDiff, Nat.reduceBEq, Int.reduceBEq, Int.reduceBNe, String.reduceBEq, Int.reduceEq, Int.reduceLT, Int.reduceLE, Int.reduceGE, Int.reduceGT, mk_keep, keepL, List.mem_cons, List.not_mem_nil, Nat.reduceEqDiff, Nat.zero_ne_one, Nat.one_ne_zero, reduceCtorEq, or_false, false_or, or_true, true_or, or_self, eq_self, ↓reduceIte]
    clear hJ hy had hsu hok f1 f2 hmu
    subst hx hov
    simp_all
end Go.Proofs.Ytgmjgognpabmdaa.Fx
