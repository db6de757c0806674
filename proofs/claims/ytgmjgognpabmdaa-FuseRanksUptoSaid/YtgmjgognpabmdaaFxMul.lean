/- The product of two numbers, or the error. -/
import Derived.Test.YtgmjgognpabmdaaFxU
import Derived.Test.YtgmjgognpabmdaaFxCall
import Derived.Laws.BitsLemmas
namespace Go.Proofs.Ytgmjgognpabmdaa.Fx
open Go Go.RowKit
set_option maxRecDepth 100000
set_option linter.unusedSimpArgs false
set_option linter.unusedVariables false
theorem wu64 (a : Int) : IntKind.wrap .u64 a = a % 18446744073709551616 := by simp [IntKind.wrap, IntKind.bits, IntKind.signed]
theorem wi64 (a : Int) : IntKind.wrap .i64 a = (a + 9223372036854775808) % 18446744073709551616 - 9223372036854775808 := IntKind.wrap_i64 a
theorem ires2 {k l : IntKind} {b c d e : Int} (h : b = c) (h' : d = e) : [AV.v (.t (.int k b)), AV.v (.t (.int l d))] = [AV.v (.t (.int k c)), AV.v (.t (.int l e))] := by rw [h, h']
theorem size_spec (a : Int) (ha : -9223372036854775808 ≤ a ∧ a ≤ 9223372036854775807) : Spec Try.prog 68 [.v (.t (.int .i64 a))] [] [.v (.t (.int .u64 (a.natAbs : Nat)))] [] := by
  refine spec_by Try.func68 rfl mixed tOk evOk (n := 10) rfl (by simp) (by simp) ?_
  rw [initSt_mk, show Try.f68.results.toList = [.tmp 2] from rfl]
  simp only [initL, AV.sv, List.map_cons, List.map_nil, Nat.reduceAdd, Nat.zero_add]
  repeat' (first
   | (with_reducible first | refine s_seq ?_ | refine s_block ?_ | refine s_region fun kr hr => ?_)
   | (with_reducible refine s_text tOk [1000, 1001, 1002, 1003] (by kernel_rfl) (by simp [HeapIn, namers, namerDst, namerOp, namedOp, namedFn, ownLoad, Blk.has, hasRows, hasL, CV.has, hasRows_up, hasM_up, hasRows_append]; (try ((repeat' apply And.intro) <;> intros <;> omega))) fun kr hr => ?_)
   | (with_reducible first | refine s_op fun K' hk => ?_ | refine t_op fun K' hk => ?_ | (refine hk _ ?_; clear hk K') | (refine ht _ ?_; clear ht hf KT KF) | (refine hf _ ?_; clear ht hf KT KF) | ((first | refine s_nil ?_ | refine t_nil ?_); refine hr _ ?_; clear hr kr))
   | ((with_reducible refine n_seqK [0, 1, 2, 3, 4] [] ?_); simp only [mk_keep, keepL, List.mem_cons, List.not_mem_nil, Nat.reduceEqDiff, Nat.zero_ne_one, Nat.one_ne_zero, reduceCtorEq, or_false, false_or, or_true, true_or, or_self, eq_self, ↓reduceIte])
   | (with_reducible first | refine s_cond fun KT KF ht hf => ?_ | refine s_skip ?_)
   | ((with_reducible refine s_long ?_); simp only [List.cons_append, List.nil_append])
   | (with_reducible first | refine s_exit ?_ | refine s_ret ?_ | refine e_seq ?_ | refine r_seq ?_ | refine n_block ?_ | refine e_block ?_ | refine r_block ?_ | refine e_loop ?_ | refine r_loop ?_ | refine e_round ?_ | refine r_round ?_ | refine s_round ?_ | refine f_block ?_ (by decide) | refine r_res ?_ | refine n_res ?_)
   | (simp only [hgb, go_sem, Int.reduceToNat, ↓reduceIte, reduceCtorEq, Nat.reduceEqDiff, Nat.reduceAdd, Nat.reduceMul, Nat.reduceLT, Nat.reduceLeDiff, Nat.reduceBEq, Int.reduceBEq, Int.reduceBNe, String.reduceBEq, Int.reduceEq, Int.reduceLT, Int.reduceLE, Int.reduceGE, Int.reduceGT]; clear hgb)
   | simp only [go_sem, Int.reduceToNat, ↓reduceIte, reduceCtorEq, Nat.reduceEqDiff, Nat.reduceAdd, Nat.reduceMul, Nat.reduceLT, Nat.reduceLeDiff, Nat.reduceBEq, Int.reduceBEq, Int.reduceBNe, String.reduceBEq, Int.reduceEq, Int.reduceLT, Int.reduceLE, Int.reduceGE, Int.reduceGT, hAll]
   | (refine ite_guard (fun hg => ?_) (fun hg => ?_) <;> (try simp only [Bool.not_eq_true, Bool.not_eq_false, Decidable.not_not] at hg) <;> (first | have hgb : (_ : Bool) = _ := hg | have hgb := ff hg | have hgb := tt hg))
   | (refine ⟨fun hc => ht _ ?_, fun hc => hf _ ?_⟩ <;> clear ht hf KT KF)
   | fail)
  all_goals (refine ires ?_; simp only [wu64]; omega)
theorem lowA (a : Nat) (h : a < 18446744073709551616) : IntKind.wrap .u64 ((BitVec.ofInt 64 (a : Int) &&& BitVec.ofInt 64 4294967295).toNat : Nat) = ((a % 4294967296 : Nat) : Int) := by
  have e1 : (BitVec.ofInt 64 (a : Int)).toNat = a := by
    rw [BitVec.toNat_ofInt]; omega
  have e2 : (BitVec.ofInt 64 4294967295).toNat = 2 ^ 32 - 1 := by decide
  rw [BitVec.toNat_and, e1, e2, Nat.and_two_pow_sub_one_eq_mod, wu64]
  omega
theorem shrA (n : Nat) : ((n : Int)).fdiv (2 ^ min 32 64) = ((n / 4294967296 : Nat) : Int) := by
  rw [Int.fdiv_eq_ediv_of_nonneg _ (by decide)]
  have : (2 : Int) ^ min 32 64 = 4294967296 := by decide
  rw [this]; omega
theorem mul_small (x y : Nat) (hx : x < 4294967296) (hy : y < 4294967296) : x * y ≤ 18446744065119617025 := Nat.mul_le_mul (by omega : x ≤ 4294967295) (by omega : y ≤ 4294967295)
theorem halves (P Q R S : Nat) :
    (P + (Q + S / 4294967296) / 4294967296 + ((Q + S / 4294967296) % 4294967296 + R) / 4294967296) = (P * 18446744073709551616 + (Q + R) * 4294967296 + S) / 18446744073709551616 := by omega
theorem wnU (x : Nat) (h : x < 18446744073709551616) : IntKind.u64.wrap (x : Int) = (x : Int) := by rw [wu64]; omega
theorem mul64_spec (a b : Nat) (ha : a < 18446744073709551616) (hb : b < 18446744073709551616) : Spec Try.prog 67 [.v (.t (.int .u64 a)), .v (.t (.int .u64 b))] [] [.v (.t (.int .u64 (a * b / 18446744073709551616 : Nat))), .v (.t (.int .u64 (a * b % 18446744073709551616 : Nat)))] [] := by
  refine spec_by Try.func67 rfl mixed tOk evOk (n := 51) rfl (by simp) (by simp) ?_
  rw [initSt_mk, show Try.f67.results.toList = [.tmp 4, .tmp 5] from rfl]
  simp only [initL, AV.sv, List.map_cons, List.map_nil, Nat.reduceAdd, Nat.zero_add]
  repeat' (first
   | (with_reducible first | refine s_seq ?_ | refine s_block ?_ | refine s_region fun kr hr => ?_)
   | (with_reducible refine s_text tOk [1000, 1001, 1002, 1003] (by kernel_rfl) (by simp [HeapIn, namers, namerDst, namerOp, namedOp, namedFn, ownLoad, Blk.has, hasRows, hasL, CV.has, hasRows_up, hasM_up, hasRows_append]; (try ((repeat' apply And.intro) <;> intros <;> omega))) fun kr hr => ?_)
   | (with_reducible first | refine s_op fun K' hk => ?_ | refine t_op fun K' hk => ?_ | (refine hk _ ?_; clear hk K') | (refine ht _ ?_; clear ht hf KT KF) | (refine hf _ ?_; clear ht hf KT KF) | ((first | refine s_nil ?_ | refine t_nil ?_); refine hr _ ?_; clear hr kr))
   | ((with_reducible refine n_seqK [0, 1, 2, 3, 4, 5, 6, 7, 8, 9, 10, 11, 12, 13, 32] [] ?_); simp only [mk_keep, keepL, List.mem_cons, List.not_mem_nil, Nat.reduceEqDiff, Nat.zero_ne_one, Nat.one_ne_zero, reduceCtorEq, or_false, false_or, or_true, true_or, or_self, eq_self, ↓reduceIte])
   | (with_reducible first | refine s_cond fun KT KF ht hf => ?_ | refine s_skip ?_)
   | ((with_reducible refine s_long ?_); simp only [List.cons_append, List.nil_append])
   | (with_reducible first | refine s_exit ?_ | refine s_ret ?_ | refine e_seq ?_ | refine r_seq ?_ | refine n_block ?_ | refine e_block ?_ | refine r_block ?_ | refine e_loop ?_ | refine r_loop ?_ | refine e_round ?_ | refine r_round ?_ | refine s_round ?_ | refine f_block ?_ (by decide) | refine r_res ?_ | refine n_res ?_)
   | (simp only [hgb, go_sem, Int.reduceToNat, ↓reduceIte, reduceCtorEq, Nat.reduceEqDiff, Nat.reduceAdd, Nat.reduceMul, Nat.reduceLT, Nat.reduceLeDiff, Nat.reduceBEq, Int.reduceBEq, Int.reduceBNe, String.reduceBEq, Int.reduceEq, Int.reduceLT, Int.reduceLE, Int.reduceGE, Int.reduceGT]; clear hgb)
   | simp only [go_sem, Int.reduceToNat, ↓reduceIte, reduceCtorEq, Nat.reduceEqDiff, Nat.reduceAdd, Nat.reduceMul, Nat.reduceLT, Nat.reduceLeDiff, Nat.reduceBEq, Int.reduceBEq, Int.reduceBNe, String.reduceBEq, Int.reduceEq, Int.reduceLT, Int.reduceLE, Int.reduceGE, Int.reduceGT, hAll]
   | (refine ite_guard (fun hg => ?_) (fun hg => ?_) <;> (try simp only [Bool.not_eq_true, Bool.not_eq_false, Decidable.not_not] at hg) <;> (first | have hgb : (_ : Bool) = _ := hg | have hgb := ff hg | have hgb := tt hg))
   | (refine ⟨fun hc => ht _ ?_, fun hc => hf _ ?_⟩ <;> clear ht hf KT KF)
   | fail)
  erw [lowA a ha, lowA b hb]
  simp only [shrA]
  have hP := mul_small (a / 4294967296) (b / 4294967296) (by omega) (by omega)
  have hQ := mul_small (a / 4294967296) (b % 4294967296) (by omega) (by omega)
  have hR := mul_small (a % 4294967296) (b / 4294967296) (by omega) (by omega)
  have hS := mul_small (a % 4294967296) (b % 4294967296) (by omega) (by omega)
  have hab : a * b = (a / 4294967296) * (b / 4294967296) * 18446744073709551616 + ((a / 4294967296) * (b % 4294967296) + (a % 4294967296) * (b / 4294967296)) * 4294967296 + (a % 4294967296) * (b % 4294967296) := by
    have h1 : a = 4294967296 * (a / 4294967296) + a % 4294967296 := by omega
    have h2 : b = 4294967296 * (b / 4294967296) + b % 4294967296 := by omega
    generalize a / 4294967296 = x at *
    generalize a % 4294967296 = y at *
    generalize b / 4294967296 = u at *
    generalize b % 4294967296 = v at *
    subst h1 h2
    rw [Nat.add_mul, Nat.mul_add, Nat.mul_add]
    have e1 : 4294967296 * x * (4294967296 * u) = x * u * 18446744073709551616 := by
      rw [Nat.mul_assoc, Nat.mul_left_comm x, ← Nat.mul_assoc, Nat.mul_comm]
    have e2 : 4294967296 * x * v = x * v * 4294967296 := by rw [Nat.mul_assoc, Nat.mul_comm]
    have e3 : y * (4294967296 * u) = y * u * 4294967296 := by rw [Nat.mul_left_comm, Nat.mul_comm]
    rw [e1, e2, e3]
    omega
  simp only [← Int.natCast_mul]
  have hlo : IntKind.u64.wrap ((a * b : Nat) : Int) = ((a * b % 18446744073709551616 : Nat) : Int) := by rw [wu64]; omega
  rw [hlo, hab]
  have hh := halves (a / 4294967296 * (b / 4294967296)) (a / 4294967296 * (b % 4294967296)) (a % 4294967296 * (b / 4294967296)) (a % 4294967296 * (b % 4294967296))
  generalize (a / 4294967296) * (b / 4294967296) = P at *
  generalize (a / 4294967296) * (b % 4294967296) = Q at *
  generalize (a % 4294967296) * (b / 4294967296) = R at *
  generalize (a % 4294967296) * (b % 4294967296) = S at *
  rw [← hh]
  simp only [wnU S (by omega), wnU P (by omega), wnU Q (by omega), wnU R (by omega), shrA, ← Int.natCast_add, wnU (Q + S / 4294967296) (by omega)]
  erw [lowA (Q + S / 4294967296) (by omega)]
  simp only [← Int.natCast_add]
  simp only [wnU (P + (Q + S / 4294967296) / 4294967296) (by omega), wnU ((Q + S / 4294967296) % 4294967296 + R) (by omega), shrA, ← Int.natCast_add]
  simp only [wnU (P + (Q + S / 4294967296) / 4294967296 + ((Q + S / 4294967296) % 4294967296 + R) / 4294967296) (by omega)]
/-- What both tell: the product, if it is an int. -/
def mulOf (a b : Int) : Int × Int := if -9223372036854775808 ≤ a * b ∧ a * b ≤ 9223372036854775807 then (a * b, 0) else (0, 10)
theorem mulOf_comm (a b : Int) : mulOf a b = mulOf b a := by unfold mulOf; rw [Int.mul_comm]
abbrev In64 (a : Int) : Prop := -9223372036854775808 ≤ a ∧ a ≤ 9223372036854775807
theorem mul_z1 (b : Int) : Spec Try.prog 56 [.v (.t (.int .i64 0)), .v (.t (.int .i64 b))] [] [.v (.t (.int .i64 0)), .v (.t (.int .i64 0))] [] := by
  refine spec_by Try.func56 rfl mixed tOk evOk (n := 50) rfl (by simp) (by simp) ?_
  rw [initSt_mk, show Try.f56.results.toList = [.tmp 4, .tmp 5] from rfl]
  simp only [initL, AV.sv, List.map_cons, List.map_nil, Nat.reduceAdd, Nat.zero_add]
  repeat' (first
   | (with_reducible first | refine s_seq ?_ | refine s_block ?_ | refine s_region fun kr hr => ?_)
   | (with_reducible refine s_text tOk [1000, 1001, 1002, 1003] (by kernel_rfl) (by simp [HeapIn, namers, namerDst, namerOp, namedOp, namedFn, ownLoad, Blk.has, hasRows, hasL, CV.has, hasRows_up, hasM_up, hasRows_append]; (try ((repeat' apply And.intro) <;> intros <;> omega))) fun kr hr => ?_)
   | (with_reducible first | refine s_op fun K' hk => ?_ | refine t_op fun K' hk => ?_ | (refine hk _ ?_; clear hk K') | (refine ht _ ?_; clear ht hf KT KF) | (refine hf _ ?_; clear ht hf KT KF) | ((first | refine s_nil ?_ | refine t_nil ?_); refine hr _ ?_; clear hr kr))
   | ((with_reducible refine n_seqK [0, 1, 2, 3, 4, 5, 6, 7, 8, 10, 14, 28, 43] [] ?_); simp only [mk_keep, keepL, List.mem_cons, List.not_mem_nil, Nat.reduceEqDiff, Nat.zero_ne_one, Nat.one_ne_zero, reduceCtorEq, or_false, false_or, or_true, true_or, or_self, eq_self, ↓reduceIte])
   | (with_reducible first | refine s_cond fun KT KF ht hf => ?_ | refine s_skip ?_)
   | ((with_reducible refine s_long ?_); simp only [List.cons_append, List.nil_append])
   | (with_reducible first | refine s_exit ?_ | refine s_ret ?_ | refine e_seq ?_ | refine r_seq ?_ | refine n_block ?_ | refine e_block ?_ | refine r_block ?_ | refine e_loop ?_ | refine r_loop ?_ | refine e_round ?_ | refine r_round ?_ | refine s_round ?_ | refine f_block ?_ (by decide) | refine r_res ?_ | refine n_res ?_)
   | (simp only [hgb, go_sem, Int.reduceToNat, ↓reduceIte, reduceCtorEq, Nat.reduceEqDiff, Nat.reduceAdd, Nat.reduceMul, Nat.reduceLT, Nat.reduceLeDiff, Nat.reduceBEq, Int.reduceBEq, Int.reduceBNe, String.reduceBEq, Int.reduceEq, Int.reduceLT, Int.reduceLE, Int.reduceGE, Int.reduceGT]; clear hgb)
   | simp only [go_sem, Int.reduceToNat, ↓reduceIte, reduceCtorEq, Nat.reduceEqDiff, Nat.reduceAdd, Nat.reduceMul, Nat.reduceLT, Nat.reduceLeDiff, Nat.reduceBEq, Int.reduceBEq, Int.reduceBNe, String.reduceBEq, Int.reduceEq, Int.reduceLT, Int.reduceLE, Int.reduceGE, Int.reduceGT, hAll]
   | (refine ite_guard (fun hg => ?_) (fun hg => ?_) <;> (try simp only [Bool.not_eq_true, Bool.not_eq_false, Decidable.not_not] at hg) <;> (first | have hgb : (_ : Bool) = _ := hg | have hgb := ff hg | have hgb := tt hg))
   | (refine ⟨fun hc => ht _ ?_, fun hc => hf _ ?_⟩ <;> clear ht hf KT KF)
   | fail)
theorem mul_z2 (a : Int) (h0 : ¬ a = 0) : Spec Try.prog 56 [.v (.t (.int .i64 a)), .v (.t (.int .i64 0))] [] [.v (.t (.int .i64 0)), .v (.t (.int .i64 0))] [] := by
  have f0 := ff h0
  refine spec_by Try.func56 rfl mixed tOk evOk (n := 50) rfl (by simp) (by simp) ?_
  rw [initSt_mk, show Try.f56.results.toList = [.tmp 4, .tmp 5] from rfl]
  simp only [initL, AV.sv, List.map_cons, List.map_nil, Nat.reduceAdd, Nat.zero_add]
  repeat' (first
   | (with_reducible first | refine s_seq ?_ | refine s_block ?_ | refine s_region fun kr hr => ?_)
   | (with_reducible refine s_text tOk [1000, 1001, 1002, 1003] (by kernel_rfl) (by simp [HeapIn, namers, namerDst, namerOp, namedOp, namedFn, ownLoad, Blk.has, hasRows, hasL, CV.has, hasRows_up, hasM_up, hasRows_append, f0]; (try ((repeat' apply And.intro) <;> intros <;> omega))) fun kr hr => ?_)
   | (with_reducible first | refine s_op fun K' hk => ?_ | refine t_op fun K' hk => ?_ | (refine hk _ ?_; clear hk K') | (refine ht _ ?_; clear ht hf KT KF) | (refine hf _ ?_; clear ht hf KT KF) | ((first | refine s_nil ?_ | refine t_nil ?_); refine hr _ ?_; clear hr kr))
   | ((with_reducible refine n_seqK [0, 1, 2, 3, 4, 5, 6, 7, 8, 10, 14, 28, 43] [] ?_); simp only [mk_keep, keepL, List.mem_cons, List.not_mem_nil, Nat.reduceEqDiff, Nat.zero_ne_one, Nat.one_ne_zero, reduceCtorEq, or_false, false_or, or_true, true_or, or_self, eq_self, ↓reduceIte])
   | (with_reducible first | refine s_cond fun KT KF ht hf => ?_ | refine s_skip ?_)
   | ((with_reducible refine s_long ?_); simp only [List.cons_append, List.nil_append])
   | (with_reducible first | refine s_exit ?_ | refine s_ret ?_ | refine e_seq ?_ | refine r_seq ?_ | refine n_block ?_ | refine e_block ?_ | refine r_block ?_ | refine e_loop ?_ | refine r_loop ?_ | refine e_round ?_ | refine r_round ?_ | refine s_round ?_ | refine f_block ?_ (by decide) | refine r_res ?_ | refine n_res ?_)
   | (simp only [hgb, go_sem, Int.reduceToNat, ↓reduceIte, reduceCtorEq, Nat.reduceEqDiff, Nat.reduceAdd, Nat.reduceMul, Nat.reduceLT, Nat.reduceLeDiff, Nat.reduceBEq, Int.reduceBEq, Int.reduceBNe, String.reduceBEq, Int.reduceEq, Int.reduceLT, Int.reduceLE, Int.reduceGE, Int.reduceGT, f0]; clear hgb)
   | simp only [go_sem, Int.reduceToNat, ↓reduceIte, reduceCtorEq, Nat.reduceEqDiff, Nat.reduceAdd, Nat.reduceMul, Nat.reduceLT, Nat.reduceLeDiff, Nat.reduceBEq, Int.reduceBEq, Int.reduceBNe, String.reduceBEq, Int.reduceEq, Int.reduceLT, Int.reduceLE, Int.reduceGE, Int.reduceGT, f0, hAll]
   | (refine ite_guard (fun hg => ?_) (fun hg => ?_) <;> (try simp only [Bool.not_eq_true, Bool.not_eq_false, Decidable.not_not] at hg) <;> (first | have hgb : (_ : Bool) = _ := hg | have hgb := ff hg | have hgb := tt hg))
   | (refine ⟨fun hc => ht _ ?_, fun hc => hf _ ?_⟩ <;> clear ht hf KT KF)
   | fail)
theorem mul_nz (a b p : Int) (ha : In64 a) (hb : In64 b) (h0 : ¬ a = 0) (h1 : ¬ b = 0) (h64 : Spec Try.prog 67 [.v (.t (.int .u64 a.natAbs)), .v (.t (.int .u64 b.natAbs))] [] [.v (.t (.int .u64 (p.natAbs / 18446744073709551616 : Nat))), .v (.t (.int .u64 (p.natAbs % 18446744073709551616 : Nat)))] []) (hs : (a < 0 ∧ b < 0 ∧ 0 < p) ∨ (a < 0 ∧ 0 < b ∧ p < 0) ∨ (0 < a ∧ b < 0 ∧ p < 0) ∨ (0 < a ∧ 0 < b ∧ 0 < p)) (hne : p ≠ 0) :
    Spec Try.prog 56 [.v (.t (.int .i64 a)), .v (.t (.int .i64 b))] [] [.v (.t (.int .i64 (if -9223372036854775808 ≤ p ∧ p ≤ 9223372036854775807 then p else 0))), .v (.t (.int .i64 (if -9223372036854775808 ≤ p ∧ p ≤ 9223372036854775807 then 0 else 10)))] [] := by
  have f0 := ff h0
  have f1 := ff h1
  refine spec_by Try.func56 rfl mixed tOk evOk (n := 50) rfl (by simp) (by simp) ?_
  rw [initSt_mk, show Try.f56.results.toList = [.tmp 4, .tmp 5] from rfl]
  simp only [initL, AV.sv, List.map_cons, List.map_nil, Nat.reduceAdd, Nat.zero_add]
  repeat' (first
   | (with_reducible first | refine s_seq ?_ | refine s_block ?_ | refine s_region fun kr hr => ?_)
   | (with_reducible refine s_text tOk [1000, 1001, 1002, 1003] (by kernel_rfl) (by simp [HeapIn, namers, namerDst, namerOp, namedOp, namedFn, ownLoad, Blk.has, hasRows, hasL, CV.has, hasRows_up, hasM_up, hasRows_append, f0, f1]; (try ((repeat' apply And.intro) <;> intros <;> omega))) fun kr hr => ?_)
   | (with_reducible first | refine s_op fun K' hk => ?_ | refine t_op fun K' hk => ?_ | (refine hk _ ?_; clear hk K') | (refine ht _ ?_; clear ht hf KT KF) | (refine hf _ ?_; clear ht hf KT KF) | ((first | refine s_nil ?_ | refine t_nil ?_); refine hr _ ?_; clear hr kr))
   | ((with_reducible refine n_seqK [0, 1, 2, 3, 4, 5, 6, 7, 8, 10, 14, 28, 43] [] ?_); simp only [mk_keep, keepL, List.mem_cons, List.not_mem_nil, Nat.reduceEqDiff, Nat.zero_ne_one, Nat.one_ne_zero, reduceCtorEq, or_false, false_or, or_true, true_or, or_self, eq_self, ↓reduceIte])
   | (with_reducible first | refine s_cond fun KT KF ht hf => ?_ | refine s_skip ?_)
   | ((with_reducible refine s_long ?_); simp only [List.cons_append, List.nil_append])
   | (with_reducible first | refine s_exit ?_ | refine s_ret ?_ | refine e_seq ?_ | refine r_seq ?_ | refine n_block ?_ | refine e_block ?_ | refine r_block ?_ | refine e_loop ?_ | refine r_loop ?_ | refine e_round ?_ | refine r_round ?_ | refine s_round ?_ | refine f_block ?_ (by decide) | refine r_res ?_ | refine n_res ?_)
   | (simp only [hgb, go_sem, Int.reduceToNat, ↓reduceIte, reduceCtorEq, Nat.reduceEqDiff, Nat.reduceAdd, Nat.reduceMul, Nat.reduceLT, Nat.reduceLeDiff, Nat.reduceBEq, Int.reduceBEq, Int.reduceBNe, String.reduceBEq, Int.reduceEq, Int.reduceLT, Int.reduceLE, Int.reduceGE, Int.reduceGT, f0, f1, callE, resSV, AV.flat, CV.flat, TV.flat]; clear hgb)
   | simp only [go_sem, Int.reduceToNat, ↓reduceIte, reduceCtorEq, Nat.reduceEqDiff, Nat.reduceAdd, Nat.reduceMul, Nat.reduceLT, Nat.reduceLeDiff, Nat.reduceBEq, Int.reduceBEq, Int.reduceBNe, String.reduceBEq, Int.reduceEq, Int.reduceLT, Int.reduceLE, Int.reduceGE, Int.reduceGT, f0, f1, callE, resSV, AV.flat, CV.flat, TV.flat, hAll]
   | refine Or.inl ⟨_, ⟨fun _ _ => rfl, size_spec a ha⟩, ?_⟩
   | refine ⟨_, ⟨fun _ _ => rfl, size_spec a ha⟩, ?_⟩
   | refine Or.inl ⟨_, ⟨fun _ _ => rfl, size_spec b hb⟩, ?_⟩
   | refine ⟨_, ⟨fun _ _ => rfl, size_spec b hb⟩, ?_⟩
   | refine Or.inl ⟨_, ⟨fun _ _ => rfl, h64⟩, ?_⟩
   | refine ⟨_, ⟨fun _ _ => rfl, h64⟩, ?_⟩
   | (refine ite_guard (fun hg => ?_) (fun hg => ?_) <;> (try simp only [Bool.not_eq_true, Bool.not_eq_false, Decidable.not_not] at hg) <;> (first | have hgb : (_ : Bool) = _ := hg | have hgb := ff hg | have hgb := tt hg))
   | (refine ⟨fun hc => ht _ ?_, fun hc => hf _ ?_⟩ <;> clear ht hf KT KF)
   | fail)
  all_goals
    clear h64
    try contradiction
  all_goals
    try rw [decide_eq_decide] at hc
    refine ires2 ?_ ?_ <;> (try simp only [wu64, wi64]) <;> split <;> omega
theorem mul_spec (a b : Int) (ha : In64 a) (hb : In64 b) : Spec Try.prog 56 [.v (.t (.int .i64 a)), .v (.t (.int .i64 b))] [] [.v (.t (.int .i64 (mulOf a b).1)), .v (.t (.int .i64 (mulOf a b).2))] [] := by
  have h64 := mul64_spec a.natAbs b.natAbs (by omega) (by omega)
  have hab : a.natAbs * b.natAbs = (a * b).natAbs := (Int.natAbs_mul a b).symm
  rw [hab] at h64
  by_cases h0 : a = 0
  · subst h0
    have hz : mulOf 0 b = (0, 0) := by simp [mulOf]
    rw [hz]
    exact mul_z1 b
  by_cases h1 : b = 0
  · subst h1
    have hz : mulOf a 0 = (0, 0) := by simp [mulOf]
    rw [hz]
    exact mul_z2 a h0
  have hs : (a < 0 ∧ b < 0 ∧ 0 < a * b) ∨ (a < 0 ∧ 0 < b ∧ a * b < 0) ∨ (0 < a ∧ b < 0 ∧ a * b < 0) ∨ (0 < a ∧ 0 < b ∧ 0 < a * b) := by
    rcases Int.lt_or_gt_of_ne h0 with h | h <;> rcases Int.lt_or_gt_of_ne h1 with h' | h'
    · exact .inl ⟨h, h', Int.mul_pos_of_neg_of_neg h h'⟩
    · exact .inr (.inl ⟨h, h', Int.mul_neg_of_neg_of_pos h h'⟩)
    · exact .inr (.inr (.inl ⟨h, h', Int.mul_neg_of_pos_of_neg h h'⟩))
    · exact .inr (.inr (.inr ⟨h, h', Int.mul_pos h h'⟩))
  have := mul_nz a b (a * b) ha hb h0 h1 h64 hs (Int.mul_ne_zero h0 h1)
  have e1 : (mulOf a b).1 = if -9223372036854775808 ≤ a * b ∧ a * b ≤ 9223372036854775807 then a * b else 0 := by unfold mulOf; split <;> rfl
  have e2 : (mulOf a b).2 = if -9223372036854775808 ≤ a * b ∧ a * b ≤ 9223372036854775807 then 0 else 10 := by unfold mulOf; split <;> rfl
  rw [e1, e2]
  exact this
theorem mulOf_in (a b : Int) : In64 (mulOf a b).1 := by unfold mulOf; split <;> simp only [In64] <;> omega
end Go.Proofs.Ytgmjgognpabmdaa.Fx
