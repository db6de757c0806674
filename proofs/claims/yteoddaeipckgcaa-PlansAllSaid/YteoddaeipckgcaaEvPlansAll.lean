import Derived.Test.YteoddaeipckgcaaEvEnumRef
import Derived.Test.YteoddaeipckgcaaEvSame
namespace Go.Proofs.Yteoddaeipckgcaa.Ev
open Go Go.RowKit Go.Proofs.Yteoddaeipckgcaa.Q
set_option maxRecDepth 100000
set_option linter.unusedSimpArgs false
set_option linter.unusedVariables false
theorem root_ex : ∀ m : Nat, ∃ s : Int, IsRoot m s
  | 0 => ⟨0, by omega, by omega, by omega⟩
  | m + 1 => by
    obtain ⟨s, h0, h1, h2⟩ := root_ex m
    by_cases h : (s + 1) * (s + 1) ≤ ((m + 1 : Nat) : Int)
    · refine ⟨s + 1, by omega, h, ?_⟩
      have : (s + 1 + 1) * (s + 1 + 1) = (s + 1) * (s + 1) + 2 * (s + 1) + 1 := by
        rw [Int.add_mul, Int.mul_add, Int.mul_add]; omega
      omega
    · exact ⟨s, h0, by omega, by omega⟩
theorem Root.ex (n : Int) : ∃ s, Root n s := by
  by_cases h : n < 1
  · exact ⟨0, .inl ⟨h, rfl⟩⟩
  · obtain ⟨s, hs⟩ := root_ex n.toNat
    rw [Int.toNat_of_nonneg (by omega)] at hs
    exact ⟨s, .inr ⟨by omega, hs⟩⟩
/-- What both make of any facts. -/
theorem enum_both (c ps dm : Int) (l2 cn : Bool) : ∃ R : List (List TV), (∀ r ∈ R, IsPlan r) ∧ R.length ≤ 7 ∧
    Spec Try.prog 11 [.agg [.int .i64 c, .int .i64 ps, .bool l2, .bool cn, .int .i64 dm]] [.v (.sl 6 R)] ∧ Spec Try.prog 12 [.agg [.int .i64 c, .int .i64 ps, .bool l2, .bool cn, .int .i64 dm]] [.v (.sl 6 R)] := by
  generalize hn : (if (4503599627370496 : Int) < (if (0 : Int) > c then 0 else c) then 4503599627370496 else (if (0 : Int) > c then 0 else c)) = n
  generalize hp : (if n < (if (0 : Int) > ps then 0 else ps) then n else (if (0 : Int) > ps then 0 else ps)) = p
  generalize hd : (if (64 : Int) < (if (1 : Int) > dm then 1 else dm) then 64 else (if (1 : Int) > dm then 1 else dm)) = d
  obtain ⟨s, hs⟩ := Root.ex n
  generalize hr : (if (1 : Int) > s then 1 else s) = r
  have hn1 : 0 ≤ n ∧ n ≤ 4503599627370496 := by rw [← hn]; split <;> split at * <;> omega
  have hs1 : 0 ≤ s ∧ s ≤ 3037000499 := by
    rcases hs with ⟨_, rfl⟩ | ⟨_, h⟩
    · omega
    · exact ⟨h.1, h.le_most (by omega)⟩
  have hr1 : 1 ≤ r ∧ r ≤ 3037000499 := by rw [← hr]; split <;> omega
  have hr0 : (r = 0) = False := eq_false (by omega)
  have hr2 : (wr (2 * r) = 0) = False := eq_false (by rw [show wr (2 * r) = 2 * r from wI (by omega) (by omega)]; omega)
  have en' : (if (if (4503599627370496 : Int) < c then 4503599627370496 else c) > 0 then (if (4503599627370496 : Int) < c then 4503599627370496 else c) else 0) = n := by rw [← hn]; (repeat' split) <;> omega
  have ep' : (if (if n < ps then n else ps) > 0 then (if n < ps then n else ps) else 0) = p := by rw [← hp]; (repeat' split) <;> omega
  have ed' : (if (if (64 : Int) < dm then 64 else dm) > 1 then (if (64 : Int) < dm then 64 else dm) else 1) = d := by rw [← hd]; (repeat' split) <;> omega
  have er' : (if s > (1 : Int) then s else 1) = r := by rw [← hr]; (repeat' split) <;> omega
  exact ⟨pre n p d r l2 cn 7, pre_plan _ _ _ _ _ _ 7, pre_le _ _ _ _ _ _ 7, enum_spec c ps dm n p d s r l2 cn hn hp hd hr hn1.2 hs hr0 hr2, enumRef_spec c ps dm n p d s r l2 cn en' ep' ed' er' hn1.2 hs hr0 hr2⟩
theorem plansAll_spec (hsure : Spec Try.prog 13 [] [.v (.bool true)]) (c ps dm : Int) (l2 cn : Bool) : Spec Try.prog 3 [.agg [.int .i64 c, .int .i64 ps, .bool l2, .bool cn, .int .i64 dm]] [.v (.bool true)] := by
  obtain ⟨R, h1, h2, h3, h4⟩ := enum_both c ps dm l2 cn
  refine spec_of (h := ⟨11, fun _ => 0⟩) Try.func3 rfl mixed tOk (envOf_cons (fun _ _ => rfl) h3 (envOf_cons (fun _ _ => rfl) h4 (envOf_cons (fun _ _ => rfl) (same_spec R h1 (by omega)) (envOf_cons (fun _ _ => rfl) hsure (envOf_nil _))))) rfl (by simp) ?_
  rw [initSt_mk, show Try.f3.results.toList = [.tmp 2] from rfl]
  simp only [initL, AV.sv, List.map_cons, List.map_nil]
  repeat' (first
   | with_reducible refine s_seq ?_
   | with_reducible refine s_block ?_
   | with_reducible refine s_region fun kr hr => ?_
   | with_reducible refine s_text (by kernel_rfl) fun kr hr => ?_
   | ((with_reducible refine s_op fun K' hk => ?_); simp only [false_implies, true_implies, List.mem_cons, List.not_mem_nil, or_true, true_or, or_self, eq_self, Nat.zero_ne_one, ↓noRef_t, noRefL, Bool.true_or, Bool.or_true, Bool.and_true, Bool.and_self, guardD, wpOp, quiet, quietCall, rd, mk_slots, mk_heap, ofL, hL, SV.drop, CV.tv, rety, cst, cells, nameK, putK, mk_put, mk_upd, mk_name, mk_dropSlot, St.dropO, ins, mapV, SV.kill, SV.refs, binS, intOp, shiftOp, strOp, unS, layParts, placeOf, lay, eqCells, eqTV, TK.isAgg, Blk.set, resOf, resOne, argOf, argsOf, anyMr, isMr, callK, appendK, ownOf, listOf, chunk, AV.sv, Bool.or_self, Bool.false_or, Bool.or_false, List.cons_append, List.nil_append, List.append_nil, List.length_cons, List.length_nil, List.take, List.drop, List.getElem?_cons_zero, List.getElem?_cons_succ, List.map_cons, List.map_nil, List.set_cons_zero, List.replicate, List.flatten_cons, List.flatten_nil, Option.getD_some, Option.some.injEq, ↓reduceIte, reduceCtorEq, Nat.reduceEqDiff, Nat.reduceAdd, Nat.reduceMul, Nat.reduceLT, Nat.reduceLeDiff, Nat.reduceBEq, and_true, true_and, and_self, if_true, if_false, and_false, false_and, or_false, false_or, Bool.false_eq_true, beq_self_eq_true, Bool.not_true, Bool.not_false, Bool.true_beq, Bool.false_beq, beq_true, beq_false, Int.reduceBEq, Int.reduceBNe, Int.reduceEq, Int.reduceLT, Int.reduceLE, Int.reduceGE, Int.reduceGT, decide_true, decide_false, T_3, ty3, T_4, ty4, T_23, ty23, T_25, ty25, T_30, ty30, if_pos]; (try (first | (with_reducible refine hk _ ?_; clear hk K') | ((first | refine ⟨_, env0, ?_⟩ | refine ⟨_, (env1 env0), ?_⟩ | refine ⟨_, (env1 (env1 env0)), ?_⟩ | refine ⟨_, (env1 (env1 (env1 env0))), ?_⟩); simp only [resSV, AV.sv, mk_put, ins, Nat.reduceEqDiff, Nat.reduceLT, Nat.reduceLeDiff, reduceCtorEq, ↓reduceIte, List.map_cons, List.map_nil]; with_reducible refine hk _ ?_; clear hk K'))))
   | ((with_reducible refine s_nil ?_); with_reducible refine hr _ ?_; clear hr kr)
   | with_reducible refine n_seq ?_
   | ((with_reducible refine s_cond fun KT KF ht hf => ?_); simp only [false_implies, true_implies, List.mem_cons, List.not_mem_nil, or_true, true_or, or_self, eq_self, Nat.zero_ne_one, ↓noRef_t, noRefL, Bool.true_or, Bool.or_true, Bool.and_true, Bool.and_self, guardD, wpOp, quiet, quietCall, rd, mk_slots, mk_heap, ofL, hL, SV.drop, CV.tv, rety, cst, cells, nameK, putK, mk_put, mk_upd, mk_name, mk_dropSlot, St.dropO, ins, mapV, SV.kill, SV.refs, binS, intOp, shiftOp, strOp, unS, layParts, placeOf, lay, eqCells, eqTV, TK.isAgg, Blk.set, resOf, resOne, argOf, argsOf, anyMr, isMr, callK, appendK, ownOf, listOf, chunk, AV.sv, Bool.or_self, Bool.false_or, Bool.or_false, List.cons_append, List.nil_append, List.append_nil, List.length_cons, List.length_nil, List.take, List.drop, List.getElem?_cons_zero, List.getElem?_cons_succ, List.map_cons, List.map_nil, List.set_cons_zero, List.replicate, List.flatten_cons, List.flatten_nil, Option.getD_some, Option.some.injEq, ↓reduceIte, reduceCtorEq, Nat.reduceEqDiff, Nat.reduceAdd, Nat.reduceMul, Nat.reduceLT, Nat.reduceLeDiff, Nat.reduceBEq, and_true, true_and, and_self, if_true, if_false, and_false, false_and, or_false, false_or, Bool.false_eq_true, beq_self_eq_true, Bool.not_true, Bool.not_false, Bool.true_beq, Bool.false_beq, beq_true, beq_false, Int.reduceBEq, Int.reduceBNe, Int.reduceEq, Int.reduceLT, Int.reduceLE, Int.reduceGE, Int.reduceGT, decide_true, decide_false, T_3, ty3, T_4, ty4, T_23, ty23, T_25, ty25, T_30, ty30, if_pos]; (try (first | (with_reducible refine ht _ ?_; clear ht hf KT KF) | (with_reducible refine hf _ ?_; clear ht hf KT KF))))
   | with_reducible refine s_skip ?_
   | with_reducible refine s_exit ?_
   | with_reducible refine s_ret ?_
   | with_reducible refine e_seq ?_
   | with_reducible refine r_seq ?_
   | with_reducible refine n_block ?_
   | with_reducible refine e_block ?_
   | with_reducible refine r_block ?_
   | with_reducible refine e_loop ?_
   | with_reducible refine r_loop ?_
   | with_reducible refine e_round ?_
   | with_reducible refine r_round ?_
   | ((with_reducible refine n_round ?_); rw [mk_keep]; simp only [keepL, List.mem_cons, List.not_mem_nil, Nat.reduceEqDiff, Nat.zero_ne_one, Nat.one_ne_zero, reduceCtorEq, or_false, false_or, or_true, true_or, or_self, ↓reduceIte])
   | with_reducible refine s_round ?_
   | with_reducible refine f_block ?_ (by decide)
   | ((with_reducible refine r_res ?_); simp only [false_implies, true_implies, List.mem_cons, List.not_mem_nil, or_true, true_or, or_self, eq_self, Nat.zero_ne_one, ↓noRef_t, noRefL, Bool.true_or, Bool.or_true, Bool.and_true, Bool.and_self, guardD, wpOp, quiet, quietCall, rd, mk_slots, mk_heap, ofL, hL, SV.drop, CV.tv, rety, cst, cells, nameK, putK, mk_put, mk_upd, mk_name, mk_dropSlot, St.dropO, ins, mapV, SV.kill, SV.refs, binS, intOp, shiftOp, strOp, unS, layParts, placeOf, lay, eqCells, eqTV, TK.isAgg, Blk.set, resOf, resOne, argOf, argsOf, anyMr, isMr, callK, appendK, ownOf, listOf, chunk, AV.sv, Bool.or_self, Bool.false_or, Bool.or_false, List.cons_append, List.nil_append, List.append_nil, List.length_cons, List.length_nil, List.take, List.drop, List.getElem?_cons_zero, List.getElem?_cons_succ, List.map_cons, List.map_nil, List.set_cons_zero, List.replicate, List.flatten_cons, List.flatten_nil, Option.getD_some, Option.some.injEq, ↓reduceIte, reduceCtorEq, Nat.reduceEqDiff, Nat.reduceAdd, Nat.reduceMul, Nat.reduceLT, Nat.reduceLeDiff, Nat.reduceBEq, and_true, true_and, and_self, if_true, if_false, and_false, false_and, or_false, false_or, Bool.false_eq_true, beq_self_eq_true, Bool.not_true, Bool.not_false, Bool.true_beq, Bool.false_beq, beq_true, beq_false, Int.reduceBEq, Int.reduceBNe, Int.reduceEq, Int.reduceLT, Int.reduceLE, Int.reduceGE, Int.reduceGT, decide_true, decide_false, T_3, ty3, T_4, ty4, T_23, ty23, T_25, ty25, T_30, ty30, if_pos])
   | ((with_reducible refine n_res ?_); simp only [false_implies, true_implies, List.mem_cons, List.not_mem_nil, or_true, true_or, or_self, eq_self, Nat.zero_ne_one, ↓noRef_t, noRefL, Bool.true_or, Bool.or_true, Bool.and_true, Bool.and_self, guardD, wpOp, quiet, quietCall, rd, mk_slots, mk_heap, ofL, hL, SV.drop, CV.tv, rety, cst, cells, nameK, putK, mk_put, mk_upd, mk_name, mk_dropSlot, St.dropO, ins, mapV, SV.kill, SV.refs, binS, intOp, shiftOp, strOp, unS, layParts, placeOf, lay, eqCells, eqTV, TK.isAgg, Blk.set, resOf, resOne, argOf, argsOf, anyMr, isMr, callK, appendK, ownOf, listOf, chunk, AV.sv, Bool.or_self, Bool.false_or, Bool.or_false, List.cons_append, List.nil_append, List.append_nil, List.length_cons, List.length_nil, List.take, List.drop, List.getElem?_cons_zero, List.getElem?_cons_succ, List.map_cons, List.map_nil, List.set_cons_zero, List.replicate, List.flatten_cons, List.flatten_nil, Option.getD_some, Option.some.injEq, ↓reduceIte, reduceCtorEq, Nat.reduceEqDiff, Nat.reduceAdd, Nat.reduceMul, Nat.reduceLT, Nat.reduceLeDiff, Nat.reduceBEq, and_true, true_and, and_self, if_true, if_false, and_false, false_and, or_false, false_or, Bool.false_eq_true, beq_self_eq_true, Bool.not_true, Bool.not_false, Bool.true_beq, Bool.false_beq, beq_true, beq_false, Int.reduceBEq, Int.reduceBNe, Int.reduceEq, Int.reduceLT, Int.reduceLE, Int.reduceGE, Int.reduceGT, decide_true, decide_false, T_3, ty3, T_4, ty4, T_23, ty23, T_25, ty25, T_30, ty30, if_pos]))
end Go.Proofs.Yteoddaeipckgcaa.Ev
