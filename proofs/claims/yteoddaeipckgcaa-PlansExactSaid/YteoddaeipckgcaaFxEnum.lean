/- The plans of a search. -/
import Derived.Test.YteoddaeipckgcaaFxPlan
import Derived.Test.YteoddaeipckgcaaFxRen
namespace Go.Proofs.Yteoddaeipckgcaa.Fx
open Go Go.RowKit
set_option maxRecDepth 100000
set_option linter.unusedSimpArgs false
set_option linter.unusedVariables false
/-- The plans, kind by kind: n points, p pass, d components, r lists. -/
def part (n p d r : Int) (l2 cn : Bool) : Nat → List Pl
  | 0 => [(1, 0, 0, 0, true, n + p * d)]
  | 1 => [(2, 0, n, 0, true, n + p * d + p)]
  | 2 => if p > 64 then [(2, 0, 64, 0, false, n + p * d / 4 + 64 * d)] else []
  | 3 => [(4, r, 0, 0, true, n + r * d + p * d)]
  | 4 => if r > 4 then [(4, 4, 0, 0, false, n + r * d + 4 * p * d / r)] else []
  | 5 => if r > 4 ∧ p > 64 ∧ l2 = true then [(3, 4, 64, 0, false, n + r * d + p * d / (2 * r) + 64 * d)] else []
  | 6 => if cn = true ∧ p = n ∧ n > 128 then [(5, 0, 0, 128, false, 1024 * d)] else []
  | _ => []
def pre (n p d r : Int) (l2 cn : Bool) : Nat → List Pl
  | 0 => []
  | k + 1 => pre n p d r l2 cn k ++ part n p d r l2 cn k
theorem part_le (n p d r : Int) (l2 cn : Bool) (k : Nat) : (part n p d r l2 cn k).length ≤ 1 := by
  unfold part; split <;> (try split) <;> simp
theorem pre_le (n p d r : Int) (l2 cn : Bool) : ∀ k, (pre n p d r l2 cn k).length ≤ k
  | 0 => Nat.le_refl _
  | k + 1 => by
    have := pre_le n p d r l2 cn k; have := part_le n p d r l2 cn k
    simp only [pre, List.length_append]; omega
theorem prows_snoc (l : List Pl) (z : Pl) : up (prows l) ++ [pcells z] = up (prows (l ++ [z])) := by simp [up, prows, pcells]
/-- What the numbers of a search are. -/
structure Good (n p d r : Int) : Prop where
  hn : 0 ≤ n ∧ n ≤ 4503599627370496
  hp : 0 ≤ p ∧ p ≤ n
  hd : 1 ≤ d ∧ d ≤ 64
  hr : 1 ≤ r ∧ r ≤ 4503599627370496
  pd : 0 ≤ p * d ∧ p * d ≤ 288230376151711744
  rd : 0 ≤ r * d ∧ r * d ≤ 288230376151711744
  pd4 : 0 ≤ 4 * p * d ∧ 4 * p * d ≤ 1152921504606846976
theorem Good.mk' {n p d r : Int} (hn : 0 ≤ n ∧ n ≤ 4503599627370496) (hp : 0 ≤ p ∧ p ≤ n) (hd : 1 ≤ d ∧ d ≤ 64) (hr : 1 ≤ r ∧ r ≤ 4503599627370496) : Good n p d r := by
  have h1 : p * d ≤ 4503599627370496 * 64 := Int.mul_le_mul (by omega) hd.2 (by omega) (by omega)
  have h2 : r * d ≤ 4503599627370496 * 64 := Int.mul_le_mul hr.2 hd.2 (by omega) (by omega)
  have h3 : 0 ≤ p * d := Int.mul_nonneg hp.1 (by omega)
  have h4 : 0 ≤ r * d := Int.mul_nonneg (by omega) (by omega)
  have h5 : 4 * p * d = 4 * (p * d) := Int.mul_assoc _ _ _
  exact ⟨hn, hp, hd, hr, by omega, by omega, by omega⟩
set_option maxHeartbeats 8000000 in
theorem enum_spec (c ps dm n p d s r : Int) (l2 cn : Bool) (en : (if (4503599627370496 : Int) < (if (0 : Int) > c then 0 else c) then 4503599627370496 else (if (0 : Int) > c then 0 else c)) = n) (ep : (if n < (if (0 : Int) > ps then 0 else ps) then n else (if (0 : Int) > ps then 0 else ps)) = p)
    (ed : (if (64 : Int) < (if (1 : Int) > dm then 1 else dm) then 64 else (if (1 : Int) > dm then 1 else dm)) = d) (er : (if (1 : Int) > s then 1 else s) = r) (hs : Root n s) (hg0 : Good n p d r) :
    Spec Try.prog 11 [.agg [.t (.int .i64 c), .t (.int .i64 ps), .t (.bool l2), .t (.bool cn), .t (.int .i64 dm)]] [] [.v (.t (.sl 6 (prows (pre n p d r l2 cn 7))))] [] := by
  obtain ⟨⟨n0, n1⟩, ⟨p0, p1⟩, ⟨d0, d1⟩, ⟨r0, r1⟩, ⟨pd0, pd1⟩, ⟨rd0, rd1⟩, ⟨pe0, pe1⟩⟩ := hg0
  have hsq := isqrt_spec n s (by omega) hs
  have w1 : IntKind.wrap .i64 (p * d) = p * d := wI (by omega) (by omega)
  have w2 : IntKind.wrap .i64 (n + p * d) = n + p * d := wI (by omega) (by omega)
  have w3 : IntKind.wrap .i64 (n + p * d + p) = n + p * d + p := wI (by omega) (by omega)
  have w4 : IntKind.wrap .i64 (Int.tdiv (p * d) 4) = p * d / 4 := by rw [Int.tdiv_eq_ediv_of_nonneg pd0]; exact wI (by omega) (by omega)
  have w5 : IntKind.wrap .i64 (n + p * d / 4) = n + p * d / 4 := wI (by omega) (by omega)
  have w6 : IntKind.wrap .i64 (64 * d) = 64 * d := wI (by omega) (by omega)
  have w7 : IntKind.wrap .i64 (n + p * d / 4 + 64 * d) = n + p * d / 4 + 64 * d := wI (by omega) (by omega)
  have w8 : IntKind.wrap .i64 (r * d) = r * d := wI (by omega) (by omega)
  have w9 : IntKind.wrap .i64 (n + r * d) = n + r * d := wI (by omega) (by omega)
  have w10 : IntKind.wrap .i64 (n + r * d + p * d) = n + r * d + p * d := wI (by omega) (by omega)
  have w11 : IntKind.wrap .i64 (4 * p) = 4 * p := wI (by omega) (by omega)
  have w12 : IntKind.wrap .i64 (4 * p * d) = 4 * p * d := wI (by omega) (by omega)
  have v1 : 0 ≤ 4 * p * d / r ∧ 4 * p * d / r ≤ 4 * p * d := ⟨Int.ediv_nonneg pe0 (by omega), Int.ediv_le_self _ pe0⟩
  have w13 : IntKind.wrap .i64 (Int.tdiv (4 * p * d) r) = 4 * p * d / r := by rw [Int.tdiv_eq_ediv_of_nonneg pe0]; exact wI (by omega) (by omega)
  have w14 : IntKind.wrap .i64 (n + r * d + 4 * p * d / r) = n + r * d + 4 * p * d / r := wI (by omega) (by omega)
  have w15 : IntKind.wrap .i64 (2 * r) = 2 * r := wI (by omega) (by omega)
  have v2 : 0 ≤ p * d / (2 * r) ∧ p * d / (2 * r) ≤ p * d := ⟨Int.ediv_nonneg pd0 (by omega), Int.ediv_le_self _ pd0⟩
  have w16 : IntKind.wrap .i64 (Int.tdiv (p * d) (2 * r)) = p * d / (2 * r) := by rw [Int.tdiv_eq_ediv_of_nonneg pd0]; exact wI (by omega) (by omega)
  have w17 : IntKind.wrap .i64 (n + r * d + p * d / (2 * r)) = n + r * d + p * d / (2 * r) := wI (by omega) (by omega)
  have w18 : IntKind.wrap .i64 (n + r * d + p * d / (2 * r) + 64 * d) = n + r * d + p * d / (2 * r) + 64 * d := wI (by omega) (by omega)
  have w19 : IntKind.wrap .i64 (1024 * d) = 1024 * d := wI (by omega) (by omega)
  have z1 := ff (show ¬ r = 0 by omega)
  have z2 := ff (show ¬ 2 * r = 0 by omega)
  refine spec_by Try.func11 rfl mixed tOk evOk (n := 159) rfl (by simp) (by simp) ?_
  rw [initSt_mk, show Try.f11.results.toList = [.tmp 2] from rfl]
  simp only [initL, AV.sv, List.map_cons, List.map_nil, Nat.reduceAdd, Nat.zero_add]
  repeat' (first
   | (with_reducible first | refine s_seq ?_ | refine s_block ?_ | refine s_region fun kr hr => ?_)
   | (with_reducible refine s_text tOk [1, 39, 40, 53, 54, 70, 71, 86, 87, 106, 107, 137, 138, 156, 157, 1000, 1001, 1002, 1003] (by kernel_rfl) (by simp [HeapIn, namers, namerDst, namerOp, Blk.has, hasRows, hasL, CV.has, hasRows_up, hasRows_append, en, ep, ed, er]) fun kr hr => ?_)
   | (with_reducible first | refine s_op fun K' hk => ?_ | refine t_op fun K' hk => ?_ | (refine hk _ ?_; clear hk K') | (refine ht _ ?_; clear ht hf KT KF) | (refine hf _ ?_; clear ht hf KT KF) | ((first | refine s_nil ?_ | refine t_nil ?_); refine hr _ ?_; clear hr kr))
   | ((with_reducible refine n_seqK [0, 1, 2, 3, 4, 5, 6, 7, 8, 23, 25, 26, 28, 29, 30, 41, 55, 58, 64, 72, 88, 91, 108, 119, 128, 139, 151] [1, 39, 40, 53, 54, 70, 71, 86, 87, 106, 107, 137, 138, 156, 157] ?_); simp only [mk_keep, keepL, List.mem_cons, List.not_mem_nil, Nat.reduceEqDiff, Nat.zero_ne_one, Nat.one_ne_zero, reduceCtorEq, or_false, false_or, or_true, true_or, or_self, eq_self, ↓reduceIte])
   | (with_reducible first | refine s_cond fun KT KF ht hf => ?_ | refine s_skip ?_)
   | ((with_reducible refine s_long ?_); simp only [List.cons_append, List.nil_append])
   | (with_reducible first | refine s_exit ?_ | refine s_ret ?_ | refine e_seq ?_ | refine r_seq ?_ | refine n_block ?_ | refine e_block ?_ | refine r_block ?_ | refine e_loop ?_ | refine r_loop ?_ | refine e_round ?_ | refine r_round ?_ | refine s_round ?_ | refine f_block ?_ (by decide) | refine r_res ?_ | refine n_res ?_)
   | simp only [go_sem, Int.reduceToNat, ↓reduceIte, reduceCtorEq, Nat.reduceEqDiff, Nat.reduceAdd, Nat.reduceMul, Nat.reduceLT, Nat.reduceLeDiff, Nat.reduceBEq, Int.reduceBEq, Int.reduceBNe, Int.reduceEq, Int.reduceLT, Int.reduceLE, Int.reduceGE, Int.reduceGT, en, ep, ed, er, callE, resSV, AV.flat, CV.flat, TV.flat, hAll]
   | refine Or.inl ⟨_, ⟨fun _ _ => rfl, hsq⟩, ?_⟩
   | refine ⟨_, ⟨fun _ _ => rfl, hsq⟩, ?_⟩
   | fail)
  refine w_loopG _ (gho_nilName (s := 7) (d := 40) (sz := 6) (by decide) ⟨6, rfl⟩ (by rw [fresh_t]; exact trivial; rfl)) ?_
  rw [mk_nilName]
  refine w_loop [1, 2, 3, 4, 5, 6, 7, 8] [1, 40] (σ := Nat) (fun i st => st = mk [(1, .c (.mp 1 0 0)), (2, .c (.own 6 [])), (3, I n), (4, I p), (5, I d), (6, I r), (7, .c (.mr 40 0 (pre n p d r l2 cn i).length)), (8, I i)] [(1, .cells 5 [[.t (.int .i64 c), .t (.int .i64 ps), .t (.bool l2), .t (.bool cn), .t (.int .i64 dm)]]), (40, .cells 6 (up (prows (pre n p d r l2 cn i))))] ∧ i ≤ 7) (fun i => 7 - i) 0 ?_ ?_
  · simp only [go_sem, Int.reduceToNat, ↓reduceIte, reduceCtorEq, Nat.reduceEqDiff, Nat.reduceAdd, Nat.reduceMul, Nat.reduceLT, Nat.reduceLeDiff, Nat.reduceBEq, Int.reduceBEq, Int.reduceBNe, Int.reduceEq, Int.reduceLT, Int.reduceLE, Int.reduceGE, Int.reduceGT, mk_keep, keepL, List.mem_cons, List.not_mem_nil, Nat.reduceEqDiff, Nat.zero_ne_one, Nat.one_ne_zero, reduceCtorEq, or_false, false_or, or_true, true_or, or_self, eq_self, ↓reduceIte]
    rfl
  · rintro i st' ⟨rfl, hi⟩
    have hl := pre_le n p d r l2 cn i
    have ht : (prows (pre n p d r l2 cn i)).take (pre n p d r l2 cn i).length = prows (pre n p d r l2 cn i) := List.take_of_length_le (by rw [prows_len]; omega)
    have b1 := tt (show ((pre n p d r l2 cn i).length + 1) * 48 ≤ 140737488355328 by omega)
    have b2 := tt (show (pre n p d r l2 cn i).length ≤ 9223372036854775806 by omega)
    have h8 : i = 0 ∨ i = 1 ∨ i = 2 ∨ i = 3 ∨ i = 4 ∨ i = 5 ∨ i = 6 ∨ i = 7 := by omega
    rcases h8 with rfl | rfl | rfl | rfl | rfl | rfl | rfl | rfl
    · have hq : pre n p d r l2 cn 1 = pre n p d r l2 cn 0 ++ [(1, 0, 0, 0, true, n + p * d)] := rfl
      have hz := prows_snoc (pre n p d r l2 cn 0) (1, 0, 0, 0, true, n + p * d)
      rw [pcells_eq, ← hq] at hz
      have hlen : (pre n p d r l2 cn 1).length = (pre n p d r l2 cn 0).length + 1 := by rw [hq]; simp
      repeat' (first
       | (with_reducible first | refine s_seq ?_ | refine s_block ?_ | refine s_region fun kr hr => ?_)
       | (with_reducible refine s_text tOk [1, 39, 40, 53, 54, 70, 71, 86, 87, 106, 107, 137, 138, 156, 157, 1000, 1001, 1002, 1003] (by kernel_rfl) (by simp [HeapIn, namers, namerDst, namerOp, Blk.has, hasRows, hasL, CV.has, hasRows_up, hasRows_append, hz, ht, b1, b2, hlen, prows_len, w1, w2, w3, w4, w5, w6, w7, w8, w9, w10, w11, w12, w13, w14, w15, w16, w17, w18, w19, z1, z2]) fun kr hr => ?_)
       | (with_reducible first | refine s_op fun K' hk => ?_ | refine t_op fun K' hk => ?_ | (refine hk _ ?_; clear hk K') | (refine ht _ ?_; clear ht hf KT KF) | (refine hf _ ?_; clear ht hf KT KF) | ((first | refine s_nil ?_ | refine t_nil ?_); refine hr _ ?_; clear hr kr))
       | ((with_reducible refine n_seqK [0, 1, 2, 3, 4, 5, 6, 7, 8, 23, 25, 26, 28, 29, 30, 41, 55, 58, 64, 72, 88, 91, 108, 119, 128, 139, 151] [1, 39, 40, 53, 54, 70, 71, 86, 87, 106, 107, 137, 138, 156, 157] ?_); simp only [mk_keep, keepL, List.mem_cons, List.not_mem_nil, Nat.reduceEqDiff, Nat.zero_ne_one, Nat.one_ne_zero, reduceCtorEq, or_false, false_or, or_true, true_or, or_self, eq_self, ↓reduceIte])
       | (with_reducible first | refine s_cond fun KT KF ht hf => ?_ | refine s_skip ?_)
       | ((with_reducible refine s_long ?_); simp only [List.cons_append, List.nil_append])
       | (with_reducible first | refine s_exit ?_ | refine s_ret ?_ | refine e_seq ?_ | refine r_seq ?_ | refine n_block ?_ | refine e_block ?_ | refine r_block ?_ | refine e_loop ?_ | refine r_loop ?_ | refine e_round ?_ | refine r_round ?_ | refine s_round ?_ | refine f_block ?_ (by decide) | refine r_res ?_ | refine n_res ?_)
       | (simp only [hgb, go_sem, Int.reduceToNat, ↓reduceIte, reduceCtorEq, Nat.reduceEqDiff, Nat.reduceAdd, Nat.reduceMul, Nat.reduceLT, Nat.reduceLeDiff, Nat.reduceBEq, Int.reduceBEq, Int.reduceBNe, Int.reduceEq, Int.reduceLT, Int.reduceLE, Int.reduceGE, Int.reduceGT, hz, ht, b1, b2, hlen, prows_len, w1, w2, w3, w4, w5, w6, w7, w8, w9, w10, w11, w12, w13, w14, w15, w16, w17, w18, w19, z1, z2]; clear hgb)
       | simp only [go_sem, Int.reduceToNat, ↓reduceIte, reduceCtorEq, Nat.reduceEqDiff, Nat.reduceAdd, Nat.reduceMul, Nat.reduceLT, Nat.reduceLeDiff, Nat.reduceBEq, Int.reduceBEq, Int.reduceBNe, Int.reduceEq, Int.reduceLT, Int.reduceLE, Int.reduceGE, Int.reduceGT, hz, ht, b1, b2, hlen, prows_len, w1, w2, w3, w4, w5, w6, w7, w8, w9, w10, w11, w12, w13, w14, w15, w16, w17, w18, w19, z1, z2, hAll]
       | (refine ite_guard (fun hg => ?_) (fun hg => ?_) <;> (try simp only [Bool.not_eq_true, Bool.not_eq_false, Decidable.not_not] at hg) <;> (first | have hgb : (_ : Bool) = _ := hg | have hgb := ff hg | have hgb := tt hg))
       | (refine ⟨fun hc => ht _ ?_, fun hc => hf _ ?_⟩ <;> clear ht hf KT KF)
       | fail)
      refine n_loop 1 [1, 2, 3, 4, 5, 6, 7, 8] [1, 40] ⟨?_, by omega⟩ (by omega)
      simp only [go_sem, Int.reduceToNat, ↓reduceIte, reduceCtorEq, Nat.reduceEqDiff, Nat.reduceAdd, Nat.reduceMul, Nat.reduceLT, Nat.reduceLeDiff, Nat.reduceBEq, Int.reduceBEq, Int.reduceBNe, Int.reduceEq, Int.reduceLT, Int.reduceLE, Int.reduceGE, Int.reduceGT, mk_keep, keepL, List.mem_cons, List.not_mem_nil, Nat.reduceEqDiff, Nat.zero_ne_one, Nat.one_ne_zero, reduceCtorEq, or_false, false_or, or_true, true_or, or_self, eq_self, ↓reduceIte, hlen, ← hz, (show IntKind.wrap .i64 (0 + 1) = 1 by decide)]
    · have hq : pre n p d r l2 cn 2 = pre n p d r l2 cn 1 ++ [(2, 0, n, 0, true, n + p * d + p)] := rfl
      have hz := prows_snoc (pre n p d r l2 cn 1) (2, 0, n, 0, true, n + p * d + p)
      rw [pcells_eq, ← hq] at hz
      have hlen : (pre n p d r l2 cn 2).length = (pre n p d r l2 cn 1).length + 1 := by rw [hq]; simp
      repeat' (first
       | (with_reducible first | refine s_seq ?_ | refine s_block ?_ | refine s_region fun kr hr => ?_)
       | (with_reducible refine s_text tOk [1, 39, 40, 53, 54, 70, 71, 86, 87, 106, 107, 137, 138, 156, 157, 1000, 1001, 1002, 1003] (by kernel_rfl) (by simp [HeapIn, namers, namerDst, namerOp, Blk.has, hasRows, hasL, CV.has, hasRows_up, hasRows_append, hz, ht, b1, b2, hlen, prows_len, w1, w2, w3, w4, w5, w6, w7, w8, w9, w10, w11, w12, w13, w14, w15, w16, w17, w18, w19, z1, z2]) fun kr hr => ?_)
       | (with_reducible first | refine s_op fun K' hk => ?_ | refine t_op fun K' hk => ?_ | (refine hk _ ?_; clear hk K') | (refine ht _ ?_; clear ht hf KT KF) | (refine hf _ ?_; clear ht hf KT KF) | ((first | refine s_nil ?_ | refine t_nil ?_); refine hr _ ?_; clear hr kr))
       | ((with_reducible refine n_seqK [0, 1, 2, 3, 4, 5, 6, 7, 8, 23, 25, 26, 28, 29, 30, 41, 55, 58, 64, 72, 88, 91, 108, 119, 128, 139, 151] [1, 39, 40, 53, 54, 70, 71, 86, 87, 106, 107, 137, 138, 156, 157] ?_); simp only [mk_keep, keepL, List.mem_cons, List.not_mem_nil, Nat.reduceEqDiff, Nat.zero_ne_one, Nat.one_ne_zero, reduceCtorEq, or_false, false_or, or_true, true_or, or_self, eq_self, ↓reduceIte])
       | (with_reducible first | refine s_cond fun KT KF ht hf => ?_ | refine s_skip ?_)
       | ((with_reducible refine s_long ?_); simp only [List.cons_append, List.nil_append])
       | (with_reducible first | refine s_exit ?_ | refine s_ret ?_ | refine e_seq ?_ | refine r_seq ?_ | refine n_block ?_ | refine e_block ?_ | refine r_block ?_ | refine e_loop ?_ | refine r_loop ?_ | refine e_round ?_ | refine r_round ?_ | refine s_round ?_ | refine f_block ?_ (by decide) | refine r_res ?_ | refine n_res ?_)
       | (simp only [hgb, go_sem, Int.reduceToNat, ↓reduceIte, reduceCtorEq, Nat.reduceEqDiff, Nat.reduceAdd, Nat.reduceMul, Nat.reduceLT, Nat.reduceLeDiff, Nat.reduceBEq, Int.reduceBEq, Int.reduceBNe, Int.reduceEq, Int.reduceLT, Int.reduceLE, Int.reduceGE, Int.reduceGT, hz, ht, b1, b2, hlen, prows_len, w1, w2, w3, w4, w5, w6, w7, w8, w9, w10, w11, w12, w13, w14, w15, w16, w17, w18, w19, z1, z2]; clear hgb)
       | simp only [go_sem, Int.reduceToNat, ↓reduceIte, reduceCtorEq, Nat.reduceEqDiff, Nat.reduceAdd, Nat.reduceMul, Nat.reduceLT, Nat.reduceLeDiff, Nat.reduceBEq, Int.reduceBEq, Int.reduceBNe, Int.reduceEq, Int.reduceLT, Int.reduceLE, Int.reduceGE, Int.reduceGT, hz, ht, b1, b2, hlen, prows_len, w1, w2, w3, w4, w5, w6, w7, w8, w9, w10, w11, w12, w13, w14, w15, w16, w17, w18, w19, z1, z2, hAll]
       | (refine ite_guard (fun hg => ?_) (fun hg => ?_) <;> (try simp only [Bool.not_eq_true, Bool.not_eq_false, Decidable.not_not] at hg) <;> (first | have hgb : (_ : Bool) = _ := hg | have hgb := ff hg | have hgb := tt hg))
       | (refine ⟨fun hc => ht _ ?_, fun hc => hf _ ?_⟩ <;> clear ht hf KT KF)
       | fail)
      refine n_loopG _ (gho_ren (a := 54) (b := 40) (by decide) (by decide)) ?_
      rw [mk_ren]
      refine n_loop 2 [1, 2, 3, 4, 5, 6, 7, 8] [1, 40] ⟨?_, by omega⟩ (by omega)
      simp only [mapV, SV.ren, CV.ren, renL, renL_map, List.map_cons, List.map_nil, renS, sw, Nat.reduceEqDiff, ↓reduceIte, Blk.ren, renRows_up, renRows, ins, Nat.reduceLT]
      simp only [go_sem, Int.reduceToNat, ↓reduceIte, reduceCtorEq, Nat.reduceEqDiff, Nat.reduceAdd, Nat.reduceMul, Nat.reduceLT, Nat.reduceLeDiff, Nat.reduceBEq, Int.reduceBEq, Int.reduceBNe, Int.reduceEq, Int.reduceLT, Int.reduceLE, Int.reduceGE, Int.reduceGT, mk_keep, keepL, List.mem_cons, List.not_mem_nil, Nat.reduceEqDiff, Nat.zero_ne_one, Nat.one_ne_zero, reduceCtorEq, or_false, false_or, or_true, true_or, or_self, eq_self, ↓reduceIte, hlen, ← hz, (show IntKind.wrap .i64 (1 + 1) = 2 by decide)]
    · by_cases hcc : p > 64
      · have g1 := tt hcc
        have hq : pre n p d r l2 cn 3 = pre n p d r l2 cn 2 ++ [(2, 0, 64, 0, false, n + p * d / 4 + 64 * d)] := by show pre n p d r l2 cn 2 ++ part n p d r l2 cn 2 = _; simp only [part]; rw [if_pos hcc]
        have hz := prows_snoc (pre n p d r l2 cn 2) (2, 0, 64, 0, false, n + p * d / 4 + 64 * d)
        rw [pcells_eq, ← hq] at hz
        have hlen : (pre n p d r l2 cn 3).length = (pre n p d r l2 cn 2).length + 1 := by rw [hq]; simp
        repeat' (first
         | (with_reducible first | refine s_seq ?_ | refine s_block ?_ | refine s_region fun kr hr => ?_)
         | (with_reducible refine s_text tOk [1, 39, 40, 53, 54, 70, 71, 86, 87, 106, 107, 137, 138, 156, 157, 1000, 1001, 1002, 1003] (by kernel_rfl) (by simp [HeapIn, namers, namerDst, namerOp, Blk.has, hasRows, hasL, CV.has, hasRows_up, hasRows_append, hz, ht, b1, b2, hlen, prows_len, w1, w2, w3, w4, w5, w6, w7, w8, w9, w10, w11, w12, w13, w14, w15, w16, w17, w18, w19, z1, z2, g1]) fun kr hr => ?_)
         | (with_reducible first | refine s_op fun K' hk => ?_ | refine t_op fun K' hk => ?_ | (refine hk _ ?_; clear hk K') | (refine ht _ ?_; clear ht hf KT KF) | (refine hf _ ?_; clear ht hf KT KF) | ((first | refine s_nil ?_ | refine t_nil ?_); refine hr _ ?_; clear hr kr))
         | ((with_reducible refine n_seqK [0, 1, 2, 3, 4, 5, 6, 7, 8, 23, 25, 26, 28, 29, 30, 41, 55, 58, 64, 72, 88, 91, 108, 119, 128, 139, 151] [1, 39, 40, 53, 54, 70, 71, 86, 87, 106, 107, 137, 138, 156, 157] ?_); simp only [mk_keep, keepL, List.mem_cons, List.not_mem_nil, Nat.reduceEqDiff, Nat.zero_ne_one, Nat.one_ne_zero, reduceCtorEq, or_false, false_or, or_true, true_or, or_self, eq_self, ↓reduceIte])
         | (with_reducible first | refine s_cond fun KT KF ht hf => ?_ | refine s_skip ?_)
         | ((with_reducible refine s_long ?_); simp only [List.cons_append, List.nil_append])
         | (with_reducible first | refine s_exit ?_ | refine s_ret ?_ | refine e_seq ?_ | refine r_seq ?_ | refine n_block ?_ | refine e_block ?_ | refine r_block ?_ | refine e_loop ?_ | refine r_loop ?_ | refine e_round ?_ | refine r_round ?_ | refine s_round ?_ | refine f_block ?_ (by decide) | refine r_res ?_ | refine n_res ?_)
         | (simp only [hgb, go_sem, Int.reduceToNat, ↓reduceIte, reduceCtorEq, Nat.reduceEqDiff, Nat.reduceAdd, Nat.reduceMul, Nat.reduceLT, Nat.reduceLeDiff, Nat.reduceBEq, Int.reduceBEq, Int.reduceBNe, Int.reduceEq, Int.reduceLT, Int.reduceLE, Int.reduceGE, Int.reduceGT, hz, ht, b1, b2, hlen, prows_len, w1, w2, w3, w4, w5, w6, w7, w8, w9, w10, w11, w12, w13, w14, w15, w16, w17, w18, w19, z1, z2, g1]; clear hgb)
         | simp only [go_sem, Int.reduceToNat, ↓reduceIte, reduceCtorEq, Nat.reduceEqDiff, Nat.reduceAdd, Nat.reduceMul, Nat.reduceLT, Nat.reduceLeDiff, Nat.reduceBEq, Int.reduceBEq, Int.reduceBNe, Int.reduceEq, Int.reduceLT, Int.reduceLE, Int.reduceGE, Int.reduceGT, hz, ht, b1, b2, hlen, prows_len, w1, w2, w3, w4, w5, w6, w7, w8, w9, w10, w11, w12, w13, w14, w15, w16, w17, w18, w19, z1, z2, g1, hAll]
         | (refine ite_guard (fun hg => ?_) (fun hg => ?_) <;> (try simp only [Bool.not_eq_true, Bool.not_eq_false, Decidable.not_not] at hg) <;> (first | have hgb : (_ : Bool) = _ := hg | have hgb := ff hg | have hgb := tt hg))
         | (refine ⟨fun hc => ht _ ?_, fun hc => hf _ ?_⟩ <;> clear ht hf KT KF)
         | fail)
        refine n_loopG _ (gho_ren (a := 71) (b := 40) (by decide) (by decide)) ?_
        rw [mk_ren]
        refine n_loop 3 [1, 2, 3, 4, 5, 6, 7, 8] [1, 40] ⟨?_, by omega⟩ (by omega)
        simp only [mapV, SV.ren, CV.ren, renL, renL_map, List.map_cons, List.map_nil, renS, sw, Nat.reduceEqDiff, ↓reduceIte, Blk.ren, renRows_up, renRows, ins, Nat.reduceLT]
        simp only [go_sem, Int.reduceToNat, ↓reduceIte, reduceCtorEq, Nat.reduceEqDiff, Nat.reduceAdd, Nat.reduceMul, Nat.reduceLT, Nat.reduceLeDiff, Nat.reduceBEq, Int.reduceBEq, Int.reduceBNe, Int.reduceEq, Int.reduceLT, Int.reduceLE, Int.reduceGE, Int.reduceGT, mk_keep, keepL, List.mem_cons, List.not_mem_nil, Nat.reduceEqDiff, Nat.zero_ne_one, Nat.one_ne_zero, reduceCtorEq, or_false, false_or, or_true, true_or, or_self, eq_self, ↓reduceIte, hlen, ← hz, (show IntKind.wrap .i64 (2 + 1) = 3 by decide)]
      · have g1 := ff hcc
        have hq : pre n p d r l2 cn 3 = pre n p d r l2 cn 2 := by show pre n p d r l2 cn 2 ++ part n p d r l2 cn 2 = _; simp only [part]; rw [if_neg hcc, List.append_nil]
        repeat' (first
         | (with_reducible first | refine s_seq ?_ | refine s_block ?_ | refine s_region fun kr hr => ?_)
         | (with_reducible refine s_text tOk [1, 39, 40, 53, 54, 70, 71, 86, 87, 106, 107, 137, 138, 156, 157, 1000, 1001, 1002, 1003] (by kernel_rfl) (by simp [HeapIn, namers, namerDst, namerOp, Blk.has, hasRows, hasL, CV.has, hasRows_up, hasRows_append, ht, b1, b2, prows_len, w1, w2, w3, w4, w5, w6, w7, w8, w9, w10, w11, w12, w13, w14, w15, w16, w17, w18, w19, z1, z2, g1]) fun kr hr => ?_)
         | (with_reducible first | refine s_op fun K' hk => ?_ | refine t_op fun K' hk => ?_ | (refine hk _ ?_; clear hk K') | (refine ht _ ?_; clear ht hf KT KF) | (refine hf _ ?_; clear ht hf KT KF) | ((first | refine s_nil ?_ | refine t_nil ?_); refine hr _ ?_; clear hr kr))
         | ((with_reducible refine n_seqK [0, 1, 2, 3, 4, 5, 6, 7, 8, 23, 25, 26, 28, 29, 30, 41, 55, 58, 64, 72, 88, 91, 108, 119, 128, 139, 151] [1, 39, 40, 53, 54, 70, 71, 86, 87, 106, 107, 137, 138, 156, 157] ?_); simp only [mk_keep, keepL, List.mem_cons, List.not_mem_nil, Nat.reduceEqDiff, Nat.zero_ne_one, Nat.one_ne_zero, reduceCtorEq, or_false, false_or, or_true, true_or, or_self, eq_self, ↓reduceIte])
         | (with_reducible first | refine s_cond fun KT KF ht hf => ?_ | refine s_skip ?_)
         | ((with_reducible refine s_long ?_); simp only [List.cons_append, List.nil_append])
         | (with_reducible first | refine s_exit ?_ | refine s_ret ?_ | refine e_seq ?_ | refine r_seq ?_ | refine n_block ?_ | refine e_block ?_ | refine r_block ?_ | refine e_loop ?_ | refine r_loop ?_ | refine e_round ?_ | refine r_round ?_ | refine s_round ?_ | refine f_block ?_ (by decide) | refine r_res ?_ | refine n_res ?_)
         | (simp only [hgb, go_sem, Int.reduceToNat, ↓reduceIte, reduceCtorEq, Nat.reduceEqDiff, Nat.reduceAdd, Nat.reduceMul, Nat.reduceLT, Nat.reduceLeDiff, Nat.reduceBEq, Int.reduceBEq, Int.reduceBNe, Int.reduceEq, Int.reduceLT, Int.reduceLE, Int.reduceGE, Int.reduceGT, ht, b1, b2, prows_len, w1, w2, w3, w4, w5, w6, w7, w8, w9, w10, w11, w12, w13, w14, w15, w16, w17, w18, w19, z1, z2, g1]; clear hgb)
         | simp only [go_sem, Int.reduceToNat, ↓reduceIte, reduceCtorEq, Nat.reduceEqDiff, Nat.reduceAdd, Nat.reduceMul, Nat.reduceLT, Nat.reduceLeDiff, Nat.reduceBEq, Int.reduceBEq, Int.reduceBNe, Int.reduceEq, Int.reduceLT, Int.reduceLE, Int.reduceGE, Int.reduceGT, ht, b1, b2, prows_len, w1, w2, w3, w4, w5, w6, w7, w8, w9, w10, w11, w12, w13, w14, w15, w16, w17, w18, w19, z1, z2, g1, hAll]
         | (refine ite_guard (fun hg => ?_) (fun hg => ?_) <;> (try simp only [Bool.not_eq_true, Bool.not_eq_false, Decidable.not_not] at hg) <;> (first | have hgb : (_ : Bool) = _ := hg | have hgb := ff hg | have hgb := tt hg))
         | (refine ⟨fun hc => ht _ ?_, fun hc => hf _ ?_⟩ <;> clear ht hf KT KF)
         | fail)
        all_goals (refine n_loop 3 [1, 2, 3, 4, 5, 6, 7, 8] [1, 40] ⟨?_, by omega⟩ (by omega); simp only [go_sem, Int.reduceToNat, ↓reduceIte, reduceCtorEq, Nat.reduceEqDiff, Nat.reduceAdd, Nat.reduceMul, Nat.reduceLT, Nat.reduceLeDiff, Nat.reduceBEq, Int.reduceBEq, Int.reduceBNe, Int.reduceEq, Int.reduceLT, Int.reduceLE, Int.reduceGE, Int.reduceGT, mk_keep, keepL, List.mem_cons, List.not_mem_nil, Nat.reduceEqDiff, Nat.zero_ne_one, Nat.one_ne_zero, reduceCtorEq, or_false, false_or, or_true, true_or, or_self, eq_self, ↓reduceIte, hq, (show IntKind.wrap .i64 (2 + 1) = 3 by decide)])
    · have hq : pre n p d r l2 cn 4 = pre n p d r l2 cn 3 ++ [(4, r, 0, 0, true, n + r * d + p * d)] := rfl
      have hz := prows_snoc (pre n p d r l2 cn 3) (4, r, 0, 0, true, n + r * d + p * d)
      rw [pcells_eq, ← hq] at hz
      have hlen : (pre n p d r l2 cn 4).length = (pre n p d r l2 cn 3).length + 1 := by rw [hq]; simp
      repeat' (first
       | (with_reducible first | refine s_seq ?_ | refine s_block ?_ | refine s_region fun kr hr => ?_)
       | (with_reducible refine s_text tOk [1, 39, 40, 53, 54, 70, 71, 86, 87, 106, 107, 137, 138, 156, 157, 1000, 1001, 1002, 1003] (by kernel_rfl) (by simp [HeapIn, namers, namerDst, namerOp, Blk.has, hasRows, hasL, CV.has, hasRows_up, hasRows_append, hz, ht, b1, b2, hlen, prows_len, w1, w2, w3, w4, w5, w6, w7, w8, w9, w10, w11, w12, w13, w14, w15, w16, w17, w18, w19, z1, z2]) fun kr hr => ?_)
       | (with_reducible first | refine s_op fun K' hk => ?_ | refine t_op fun K' hk => ?_ | (refine hk _ ?_; clear hk K') | (refine ht _ ?_; clear ht hf KT KF) | (refine hf _ ?_; clear ht hf KT KF) | ((first | refine s_nil ?_ | refine t_nil ?_); refine hr _ ?_; clear hr kr))
       | ((with_reducible refine n_seqK [0, 1, 2, 3, 4, 5, 6, 7, 8, 23, 25, 26, 28, 29, 30, 41, 55, 58, 64, 72, 88, 91, 108, 119, 128, 139, 151] [1, 39, 40, 53, 54, 70, 71, 86, 87, 106, 107, 137, 138, 156, 157] ?_); simp only [mk_keep, keepL, List.mem_cons, List.not_mem_nil, Nat.reduceEqDiff, Nat.zero_ne_one, Nat.one_ne_zero, reduceCtorEq, or_false, false_or, or_true, true_or, or_self, eq_self, ↓reduceIte])
       | (with_reducible first | refine s_cond fun KT KF ht hf => ?_ | refine s_skip ?_)
       | ((with_reducible refine s_long ?_); simp only [List.cons_append, List.nil_append])
       | (with_reducible first | refine s_exit ?_ | refine s_ret ?_ | refine e_seq ?_ | refine r_seq ?_ | refine n_block ?_ | refine e_block ?_ | refine r_block ?_ | refine e_loop ?_ | refine r_loop ?_ | refine e_round ?_ | refine r_round ?_ | refine s_round ?_ | refine f_block ?_ (by decide) | refine r_res ?_ | refine n_res ?_)
       | (simp only [hgb, go_sem, Int.reduceToNat, ↓reduceIte, reduceCtorEq, Nat.reduceEqDiff, Nat.reduceAdd, Nat.reduceMul, Nat.reduceLT, Nat.reduceLeDiff, Nat.reduceBEq, Int.reduceBEq, Int.reduceBNe, Int.reduceEq, Int.reduceLT, Int.reduceLE, Int.reduceGE, Int.reduceGT, hz, ht, b1, b2, hlen, prows_len, w1, w2, w3, w4, w5, w6, w7, w8, w9, w10, w11, w12, w13, w14, w15, w16, w17, w18, w19, z1, z2]; clear hgb)
       | simp only [go_sem, Int.reduceToNat, ↓reduceIte, reduceCtorEq, Nat.reduceEqDiff, Nat.reduceAdd, Nat.reduceMul, Nat.reduceLT, Nat.reduceLeDiff, Nat.reduceBEq, Int.reduceBEq, Int.reduceBNe, Int.reduceEq, Int.reduceLT, Int.reduceLE, Int.reduceGE, Int.reduceGT, hz, ht, b1, b2, hlen, prows_len, w1, w2, w3, w4, w5, w6, w7, w8, w9, w10, w11, w12, w13, w14, w15, w16, w17, w18, w19, z1, z2, hAll]
       | (refine ite_guard (fun hg => ?_) (fun hg => ?_) <;> (try simp only [Bool.not_eq_true, Bool.not_eq_false, Decidable.not_not] at hg) <;> (first | have hgb : (_ : Bool) = _ := hg | have hgb := ff hg | have hgb := tt hg))
       | (refine ⟨fun hc => ht _ ?_, fun hc => hf _ ?_⟩ <;> clear ht hf KT KF)
       | fail)
      refine n_loopG _ (gho_ren (a := 87) (b := 40) (by decide) (by decide)) ?_
      rw [mk_ren]
      refine n_loop 4 [1, 2, 3, 4, 5, 6, 7, 8] [1, 40] ⟨?_, by omega⟩ (by omega)
      simp only [mapV, SV.ren, CV.ren, renL, renL_map, List.map_cons, List.map_nil, renS, sw, Nat.reduceEqDiff, ↓reduceIte, Blk.ren, renRows_up, renRows, ins, Nat.reduceLT]
      simp only [go_sem, Int.reduceToNat, ↓reduceIte, reduceCtorEq, Nat.reduceEqDiff, Nat.reduceAdd, Nat.reduceMul, Nat.reduceLT, Nat.reduceLeDiff, Nat.reduceBEq, Int.reduceBEq, Int.reduceBNe, Int.reduceEq, Int.reduceLT, Int.reduceLE, Int.reduceGE, Int.reduceGT, mk_keep, keepL, List.mem_cons, List.not_mem_nil, Nat.reduceEqDiff, Nat.zero_ne_one, Nat.one_ne_zero, reduceCtorEq, or_false, false_or, or_true, true_or, or_self, eq_self, ↓reduceIte, hlen, ← hz, (show IntKind.wrap .i64 (3 + 1) = 4 by decide)]
    · by_cases hcc : r > 4
      · have g1 := tt hcc
        have hq : pre n p d r l2 cn 5 = pre n p d r l2 cn 4 ++ [(4, 4, 0, 0, false, n + r * d + 4 * p * d / r)] := by show pre n p d r l2 cn 4 ++ part n p d r l2 cn 4 = _; simp only [part]; rw [if_pos hcc]
        have hz := prows_snoc (pre n p d r l2 cn 4) (4, 4, 0, 0, false, n + r * d + 4 * p * d / r)
        rw [pcells_eq, ← hq] at hz
        have hlen : (pre n p d r l2 cn 5).length = (pre n p d r l2 cn 4).length + 1 := by rw [hq]; simp
        repeat' (first
         | (with_reducible first | refine s_seq ?_ | refine s_block ?_ | refine s_region fun kr hr => ?_)
         | (with_reducible refine s_text tOk [1, 39, 40, 53, 54, 70, 71, 86, 87, 106, 107, 137, 138, 156, 157, 1000, 1001, 1002, 1003] (by kernel_rfl) (by simp [HeapIn, namers, namerDst, namerOp, Blk.has, hasRows, hasL, CV.has, hasRows_up, hasRows_append, hz, ht, b1, b2, hlen, prows_len, w1, w2, w3, w4, w5, w6, w7, w8, w9, w10, w11, w12, w13, w14, w15, w16, w17, w18, w19, z1, z2, g1]) fun kr hr => ?_)
         | (with_reducible first | refine s_op fun K' hk => ?_ | refine t_op fun K' hk => ?_ | (refine hk _ ?_; clear hk K') | (refine ht _ ?_; clear ht hf KT KF) | (refine hf _ ?_; clear ht hf KT KF) | ((first | refine s_nil ?_ | refine t_nil ?_); refine hr _ ?_; clear hr kr))
         | ((with_reducible refine n_seqK [0, 1, 2, 3, 4, 5, 6, 7, 8, 23, 25, 26, 28, 29, 30, 41, 55, 58, 64, 72, 88, 91, 108, 119, 128, 139, 151] [1, 39, 40, 53, 54, 70, 71, 86, 87, 106, 107, 137, 138, 156, 157] ?_); simp only [mk_keep, keepL, List.mem_cons, List.not_mem_nil, Nat.reduceEqDiff, Nat.zero_ne_one, Nat.one_ne_zero, reduceCtorEq, or_false, false_or, or_true, true_or, or_self, eq_self, ↓reduceIte])
         | (with_reducible first | refine s_cond fun KT KF ht hf => ?_ | refine s_skip ?_)
         | ((with_reducible refine s_long ?_); simp only [List.cons_append, List.nil_append])
         | (with_reducible first | refine s_exit ?_ | refine s_ret ?_ | refine e_seq ?_ | refine r_seq ?_ | refine n_block ?_ | refine e_block ?_ | refine r_block ?_ | refine e_loop ?_ | refine r_loop ?_ | refine e_round ?_ | refine r_round ?_ | refine s_round ?_ | refine f_block ?_ (by decide) | refine r_res ?_ | refine n_res ?_)
         | (simp only [hgb, go_sem, Int.reduceToNat, ↓reduceIte, reduceCtorEq, Nat.reduceEqDiff, Nat.reduceAdd, Nat.reduceMul, Nat.reduceLT, Nat.reduceLeDiff, Nat.reduceBEq, Int.reduceBEq, Int.reduceBNe, Int.reduceEq, Int.reduceLT, Int.reduceLE, Int.reduceGE, Int.reduceGT, hz, ht, b1, b2, hlen, prows_len, w1, w2, w3, w4, w5, w6, w7, w8, w9, w10, w11, w12, w13, w14, w15, w16, w17, w18, w19, z1, z2, g1]; clear hgb)
         | simp only [go_sem, Int.reduceToNat, ↓reduceIte, reduceCtorEq, Nat.reduceEqDiff, Nat.reduceAdd, Nat.reduceMul, Nat.reduceLT, Nat.reduceLeDiff, Nat.reduceBEq, Int.reduceBEq, Int.reduceBNe, Int.reduceEq, Int.reduceLT, Int.reduceLE, Int.reduceGE, Int.reduceGT, hz, ht, b1, b2, hlen, prows_len, w1, w2, w3, w4, w5, w6, w7, w8, w9, w10, w11, w12, w13, w14, w15, w16, w17, w18, w19, z1, z2, g1, hAll]
         | (refine ite_guard (fun hg => ?_) (fun hg => ?_) <;> (try simp only [Bool.not_eq_true, Bool.not_eq_false, Decidable.not_not] at hg) <;> (first | have hgb : (_ : Bool) = _ := hg | have hgb := ff hg | have hgb := tt hg))
         | (refine ⟨fun hc => ht _ ?_, fun hc => hf _ ?_⟩ <;> clear ht hf KT KF)
         | fail)
        refine n_loopG _ (gho_ren (a := 107) (b := 40) (by decide) (by decide)) ?_
        rw [mk_ren]
        refine n_loop 5 [1, 2, 3, 4, 5, 6, 7, 8] [1, 40] ⟨?_, by omega⟩ (by omega)
        simp only [mapV, SV.ren, CV.ren, renL, renL_map, List.map_cons, List.map_nil, renS, sw, Nat.reduceEqDiff, ↓reduceIte, Blk.ren, renRows_up, renRows, ins, Nat.reduceLT]
        simp only [go_sem, Int.reduceToNat, ↓reduceIte, reduceCtorEq, Nat.reduceEqDiff, Nat.reduceAdd, Nat.reduceMul, Nat.reduceLT, Nat.reduceLeDiff, Nat.reduceBEq, Int.reduceBEq, Int.reduceBNe, Int.reduceEq, Int.reduceLT, Int.reduceLE, Int.reduceGE, Int.reduceGT, mk_keep, keepL, List.mem_cons, List.not_mem_nil, Nat.reduceEqDiff, Nat.zero_ne_one, Nat.one_ne_zero, reduceCtorEq, or_false, false_or, or_true, true_or, or_self, eq_self, ↓reduceIte, hlen, ← hz, (show IntKind.wrap .i64 (4 + 1) = 5 by decide)]
      · have g1 := ff hcc
        have hq : pre n p d r l2 cn 5 = pre n p d r l2 cn 4 := by show pre n p d r l2 cn 4 ++ part n p d r l2 cn 4 = _; simp only [part]; rw [if_neg hcc, List.append_nil]
        repeat' (first
         | (with_reducible first | refine s_seq ?_ | refine s_block ?_ | refine s_region fun kr hr => ?_)
         | (with_reducible refine s_text tOk [1, 39, 40, 53, 54, 70, 71, 86, 87, 106, 107, 137, 138, 156, 157, 1000, 1001, 1002, 1003] (by kernel_rfl) (by simp [HeapIn, namers, namerDst, namerOp, Blk.has, hasRows, hasL, CV.has, hasRows_up, hasRows_append, ht, b1, b2, prows_len, w1, w2, w3, w4, w5, w6, w7, w8, w9, w10, w11, w12, w13, w14, w15, w16, w17, w18, w19, z1, z2, g1]) fun kr hr => ?_)
         | (with_reducible first | refine s_op fun K' hk => ?_ | refine t_op fun K' hk => ?_ | (refine hk _ ?_; clear hk K') | (refine ht _ ?_; clear ht hf KT KF) | (refine hf _ ?_; clear ht hf KT KF) | ((first | refine s_nil ?_ | refine t_nil ?_); refine hr _ ?_; clear hr kr))
         | ((with_reducible refine n_seqK [0, 1, 2, 3, 4, 5, 6, 7, 8, 23, 25, 26, 28, 29, 30, 41, 55, 58, 64, 72, 88, 91, 108, 119, 128, 139, 151] [1, 39, 40, 53, 54, 70, 71, 86, 87, 106, 107, 137, 138, 156, 157] ?_); simp only [mk_keep, keepL, List.mem_cons, List.not_mem_nil, Nat.reduceEqDiff, Nat.zero_ne_one, Nat.one_ne_zero, reduceCtorEq, or_false, false_or, or_true, true_or, or_self, eq_self, ↓reduceIte])
         | (with_reducible first | refine s_cond fun KT KF ht hf => ?_ | refine s_skip ?_)
         | ((with_reducible refine s_long ?_); simp only [List.cons_append, List.nil_append])
         | (with_reducible first | refine s_exit ?_ | refine s_ret ?_ | refine e_seq ?_ | refine r_seq ?_ | refine n_block ?_ | refine e_block ?_ | refine r_block ?_ | refine e_loop ?_ | refine r_loop ?_ | refine e_round ?_ | refine r_round ?_ | refine s_round ?_ | refine f_block ?_ (by decide) | refine r_res ?_ | refine n_res ?_)
         | (simp only [hgb, go_sem, Int.reduceToNat, ↓reduceIte, reduceCtorEq, Nat.reduceEqDiff, Nat.reduceAdd, Nat.reduceMul, Nat.reduceLT, Nat.reduceLeDiff, Nat.reduceBEq, Int.reduceBEq, Int.reduceBNe, Int.reduceEq, Int.reduceLT, Int.reduceLE, Int.reduceGE, Int.reduceGT, ht, b1, b2, prows_len, w1, w2, w3, w4, w5, w6, w7, w8, w9, w10, w11, w12, w13, w14, w15, w16, w17, w18, w19, z1, z2, g1]; clear hgb)
         | simp only [go_sem, Int.reduceToNat, ↓reduceIte, reduceCtorEq, Nat.reduceEqDiff, Nat.reduceAdd, Nat.reduceMul, Nat.reduceLT, Nat.reduceLeDiff, Nat.reduceBEq, Int.reduceBEq, Int.reduceBNe, Int.reduceEq, Int.reduceLT, Int.reduceLE, Int.reduceGE, Int.reduceGT, ht, b1, b2, prows_len, w1, w2, w3, w4, w5, w6, w7, w8, w9, w10, w11, w12, w13, w14, w15, w16, w17, w18, w19, z1, z2, g1, hAll]
         | (refine ite_guard (fun hg => ?_) (fun hg => ?_) <;> (try simp only [Bool.not_eq_true, Bool.not_eq_false, Decidable.not_not] at hg) <;> (first | have hgb : (_ : Bool) = _ := hg | have hgb := ff hg | have hgb := tt hg))
         | (refine ⟨fun hc => ht _ ?_, fun hc => hf _ ?_⟩ <;> clear ht hf KT KF)
         | fail)
        all_goals (refine n_loop 5 [1, 2, 3, 4, 5, 6, 7, 8] [1, 40] ⟨?_, by omega⟩ (by omega); simp only [go_sem, Int.reduceToNat, ↓reduceIte, reduceCtorEq, Nat.reduceEqDiff, Nat.reduceAdd, Nat.reduceMul, Nat.reduceLT, Nat.reduceLeDiff, Nat.reduceBEq, Int.reduceBEq, Int.reduceBNe, Int.reduceEq, Int.reduceLT, Int.reduceLE, Int.reduceGE, Int.reduceGT, mk_keep, keepL, List.mem_cons, List.not_mem_nil, Nat.reduceEqDiff, Nat.zero_ne_one, Nat.one_ne_zero, reduceCtorEq, or_false, false_or, or_true, true_or, or_self, eq_self, ↓reduceIte, hq, (show IntKind.wrap .i64 (4 + 1) = 5 by decide)])
    · by_cases c1 : r > 4
      · have g1 := tt c1
        by_cases c2 : p > 64
        · have g2 := tt c2
          cases l2 with
          | true =>
            have hq : pre n p d r true cn 6 = pre n p d r true cn 5 ++ [(3, 4, 64, 0, false, n + r * d + p * d / (2 * r) + 64 * d)] := by show pre n p d r true cn 5 ++ part n p d r true cn 5 = _; simp only [part]; rw [if_pos ⟨c1, c2, trivial⟩]
            have hz := prows_snoc (pre n p d r true cn 5) (3, 4, 64, 0, false, n + r * d + p * d / (2 * r) + 64 * d)
            rw [pcells_eq, ← hq] at hz
            have hlen : (pre n p d r true cn 6).length = (pre n p d r true cn 5).length + 1 := by rw [hq]; simp
            repeat' (first
             | (with_reducible first | refine s_seq ?_ | refine s_block ?_ | refine s_region fun kr hr => ?_)
             | (with_reducible refine s_text tOk [1, 39, 40, 53, 54, 70, 71, 86, 87, 106, 107, 137, 138, 156, 157, 1000, 1001, 1002, 1003] (by kernel_rfl) (by simp [HeapIn, namers, namerDst, namerOp, Blk.has, hasRows, hasL, CV.has, hasRows_up, hasRows_append, hz, ht, b1, b2, hlen, prows_len, w1, w2, w3, w4, w5, w6, w7, w8, w9, w10, w11, w12, w13, w14, w15, w16, w17, w18, w19, z1, z2, g1, g2]) fun kr hr => ?_)
             | (with_reducible first | refine s_op fun K' hk => ?_ | refine t_op fun K' hk => ?_ | (refine hk _ ?_; clear hk K') | (refine ht _ ?_; clear ht hf KT KF) | (refine hf _ ?_; clear ht hf KT KF) | ((first | refine s_nil ?_ | refine t_nil ?_); refine hr _ ?_; clear hr kr))
             | ((with_reducible refine n_seqK [0, 1, 2, 3, 4, 5, 6, 7, 8, 23, 25, 26, 28, 29, 30, 41, 55, 58, 64, 72, 88, 91, 108, 119, 128, 139, 151] [1, 39, 40, 53, 54, 70, 71, 86, 87, 106, 107, 137, 138, 156, 157] ?_); simp only [mk_keep, keepL, List.mem_cons, List.not_mem_nil, Nat.reduceEqDiff, Nat.zero_ne_one, Nat.one_ne_zero, reduceCtorEq, or_false, false_or, or_true, true_or, or_self, eq_self, ↓reduceIte])
             | (with_reducible first | refine s_cond fun KT KF ht hf => ?_ | refine s_skip ?_)
             | ((with_reducible refine s_long ?_); simp only [List.cons_append, List.nil_append])
             | (with_reducible first | refine s_exit ?_ | refine s_ret ?_ | refine e_seq ?_ | refine r_seq ?_ | refine n_block ?_ | refine e_block ?_ | refine r_block ?_ | refine e_loop ?_ | refine r_loop ?_ | refine e_round ?_ | refine r_round ?_ | refine s_round ?_ | refine f_block ?_ (by decide) | refine r_res ?_ | refine n_res ?_)
             | (simp only [hgb, go_sem, Int.reduceToNat, ↓reduceIte, reduceCtorEq, Nat.reduceEqDiff, Nat.reduceAdd, Nat.reduceMul, Nat.reduceLT, Nat.reduceLeDiff, Nat.reduceBEq, Int.reduceBEq, Int.reduceBNe, Int.reduceEq, Int.reduceLT, Int.reduceLE, Int.reduceGE, Int.reduceGT, hz, ht, b1, b2, hlen, prows_len, w1, w2, w3, w4, w5, w6, w7, w8, w9, w10, w11, w12, w13, w14, w15, w16, w17, w18, w19, z1, z2, g1, g2]; clear hgb)
             | simp only [go_sem, Int.reduceToNat, ↓reduceIte, reduceCtorEq, Nat.reduceEqDiff, Nat.reduceAdd, Nat.reduceMul, Nat.reduceLT, Nat.reduceLeDiff, Nat.reduceBEq, Int.reduceBEq, Int.reduceBNe, Int.reduceEq, Int.reduceLT, Int.reduceLE, Int.reduceGE, Int.reduceGT, hz, ht, b1, b2, hlen, prows_len, w1, w2, w3, w4, w5, w6, w7, w8, w9, w10, w11, w12, w13, w14, w15, w16, w17, w18, w19, z1, z2, g1, g2, hAll]
             | (refine ite_guard (fun hg => ?_) (fun hg => ?_) <;> (try simp only [Bool.not_eq_true, Bool.not_eq_false, Decidable.not_not] at hg) <;> (first | have hgb : (_ : Bool) = _ := hg | have hgb := ff hg | have hgb := tt hg))
             | (refine ⟨fun hc => ht _ ?_, fun hc => hf _ ?_⟩ <;> clear ht hf KT KF)
             | fail)
            refine n_loopG _ (gho_ren (a := 138) (b := 40) (by decide) (by decide)) ?_
            rw [mk_ren]
            refine n_loop 6 [1, 2, 3, 4, 5, 6, 7, 8] [1, 40] ⟨?_, by omega⟩ (by omega)
            simp only [mapV, SV.ren, CV.ren, renL, renL_map, List.map_cons, List.map_nil, renS, sw, Nat.reduceEqDiff, ↓reduceIte, Blk.ren, renRows_up, renRows, ins, Nat.reduceLT]
            simp only [go_sem, Int.reduceToNat, ↓reduceIte, reduceCtorEq, Nat.reduceEqDiff, Nat.reduceAdd, Nat.reduceMul, Nat.reduceLT, Nat.reduceLeDiff, Nat.reduceBEq, Int.reduceBEq, Int.reduceBNe, Int.reduceEq, Int.reduceLT, Int.reduceLE, Int.reduceGE, Int.reduceGT, mk_keep, keepL, List.mem_cons, List.not_mem_nil, Nat.reduceEqDiff, Nat.zero_ne_one, Nat.one_ne_zero, reduceCtorEq, or_false, false_or, or_true, true_or, or_self, eq_self, ↓reduceIte, hlen, ← hz, (show IntKind.wrap .i64 (5 + 1) = 6 by decide)]
          | false =>
            have hq : pre n p d r false cn 6 = pre n p d r false cn 5 := by show pre n p d r false cn 5 ++ part n p d r false cn 5 = _; simp only [part]; rw [if_neg (fun h => by cases h.2.2), List.append_nil]
            repeat' (first
             | (with_reducible first | refine s_seq ?_ | refine s_block ?_ | refine s_region fun kr hr => ?_)
             | (with_reducible refine s_text tOk [1, 39, 40, 53, 54, 70, 71, 86, 87, 106, 107, 137, 138, 156, 157, 1000, 1001, 1002, 1003] (by kernel_rfl) (by simp [HeapIn, namers, namerDst, namerOp, Blk.has, hasRows, hasL, CV.has, hasRows_up, hasRows_append, ht, b1, b2, prows_len, w1, w2, w3, w4, w5, w6, w7, w8, w9, w10, w11, w12, w13, w14, w15, w16, w17, w18, w19, z1, z2, g1, g2]) fun kr hr => ?_)
             | (with_reducible first | refine s_op fun K' hk => ?_ | refine t_op fun K' hk => ?_ | (refine hk _ ?_; clear hk K') | (refine ht _ ?_; clear ht hf KT KF) | (refine hf _ ?_; clear ht hf KT KF) | ((first | refine s_nil ?_ | refine t_nil ?_); refine hr _ ?_; clear hr kr))
             | ((with_reducible refine n_seqK [0, 1, 2, 3, 4, 5, 6, 7, 8, 23, 25, 26, 28, 29, 30, 41, 55, 58, 64, 72, 88, 91, 108, 119, 128, 139, 151] [1, 39, 40, 53, 54, 70, 71, 86, 87, 106, 107, 137, 138, 156, 157] ?_); simp only [mk_keep, keepL, List.mem_cons, List.not_mem_nil, Nat.reduceEqDiff, Nat.zero_ne_one, Nat.one_ne_zero, reduceCtorEq, or_false, false_or, or_true, true_or, or_self, eq_self, ↓reduceIte])
             | (with_reducible first | refine s_cond fun KT KF ht hf => ?_ | refine s_skip ?_)
             | ((with_reducible refine s_long ?_); simp only [List.cons_append, List.nil_append])
             | (with_reducible first | refine s_exit ?_ | refine s_ret ?_ | refine e_seq ?_ | refine r_seq ?_ | refine n_block ?_ | refine e_block ?_ | refine r_block ?_ | refine e_loop ?_ | refine r_loop ?_ | refine e_round ?_ | refine r_round ?_ | refine s_round ?_ | refine f_block ?_ (by decide) | refine r_res ?_ | refine n_res ?_)
             | (simp only [hgb, go_sem, Int.reduceToNat, ↓reduceIte, reduceCtorEq, Nat.reduceEqDiff, Nat.reduceAdd, Nat.reduceMul, Nat.reduceLT, Nat.reduceLeDiff, Nat.reduceBEq, Int.reduceBEq, Int.reduceBNe, Int.reduceEq, Int.reduceLT, Int.reduceLE, Int.reduceGE, Int.reduceGT, ht, b1, b2, prows_len, w1, w2, w3, w4, w5, w6, w7, w8, w9, w10, w11, w12, w13, w14, w15, w16, w17, w18, w19, z1, z2, g1, g2]; clear hgb)
             | simp only [go_sem, Int.reduceToNat, ↓reduceIte, reduceCtorEq, Nat.reduceEqDiff, Nat.reduceAdd, Nat.reduceMul, Nat.reduceLT, Nat.reduceLeDiff, Nat.reduceBEq, Int.reduceBEq, Int.reduceBNe, Int.reduceEq, Int.reduceLT, Int.reduceLE, Int.reduceGE, Int.reduceGT, ht, b1, b2, prows_len, w1, w2, w3, w4, w5, w6, w7, w8, w9, w10, w11, w12, w13, w14, w15, w16, w17, w18, w19, z1, z2, g1, g2, hAll]
             | (refine ite_guard (fun hg => ?_) (fun hg => ?_) <;> (try simp only [Bool.not_eq_true, Bool.not_eq_false, Decidable.not_not] at hg) <;> (first | have hgb : (_ : Bool) = _ := hg | have hgb := ff hg | have hgb := tt hg))
             | (refine ⟨fun hc => ht _ ?_, fun hc => hf _ ?_⟩ <;> clear ht hf KT KF)
             | fail)
            all_goals (refine n_loop 6 [1, 2, 3, 4, 5, 6, 7, 8] [1, 40] ⟨?_, by omega⟩ (by omega); simp only [go_sem, Int.reduceToNat, ↓reduceIte, reduceCtorEq, Nat.reduceEqDiff, Nat.reduceAdd, Nat.reduceMul, Nat.reduceLT, Nat.reduceLeDiff, Nat.reduceBEq, Int.reduceBEq, Int.reduceBNe, Int.reduceEq, Int.reduceLT, Int.reduceLE, Int.reduceGE, Int.reduceGT, mk_keep, keepL, List.mem_cons, List.not_mem_nil, Nat.reduceEqDiff, Nat.zero_ne_one, Nat.one_ne_zero, reduceCtorEq, or_false, false_or, or_true, true_or, or_self, eq_self, ↓reduceIte, hq, (show IntKind.wrap .i64 (5 + 1) = 6 by decide)])
        · have g2 := ff c2
          have hq : pre n p d r l2 cn 6 = pre n p d r l2 cn 5 := by show pre n p d r l2 cn 5 ++ part n p d r l2 cn 5 = _; simp only [part]; rw [if_neg (fun h => c2 h.2.1), List.append_nil]
          repeat' (first
           | (with_reducible first | refine s_seq ?_ | refine s_block ?_ | refine s_region fun kr hr => ?_)
           | (with_reducible refine s_text tOk [1, 39, 40, 53, 54, 70, 71, 86, 87, 106, 107, 137, 138, 156, 157, 1000, 1001, 1002, 1003] (by kernel_rfl) (by simp [HeapIn, namers, namerDst, namerOp, Blk.has, hasRows, hasL, CV.has, hasRows_up, hasRows_append, ht, b1, b2, prows_len, w1, w2, w3, w4, w5, w6, w7, w8, w9, w10, w11, w12, w13, w14, w15, w16, w17, w18, w19, z1, z2, g1, g2]) fun kr hr => ?_)
           | (with_reducible first | refine s_op fun K' hk => ?_ | refine t_op fun K' hk => ?_ | (refine hk _ ?_; clear hk K') | (refine ht _ ?_; clear ht hf KT KF) | (refine hf _ ?_; clear ht hf KT KF) | ((first | refine s_nil ?_ | refine t_nil ?_); refine hr _ ?_; clear hr kr))
           | ((with_reducible refine n_seqK [0, 1, 2, 3, 4, 5, 6, 7, 8, 23, 25, 26, 28, 29, 30, 41, 55, 58, 64, 72, 88, 91, 108, 119, 128, 139, 151] [1, 39, 40, 53, 54, 70, 71, 86, 87, 106, 107, 137, 138, 156, 157] ?_); simp only [mk_keep, keepL, List.mem_cons, List.not_mem_nil, Nat.reduceEqDiff, Nat.zero_ne_one, Nat.one_ne_zero, reduceCtorEq, or_false, false_or, or_true, true_or, or_self, eq_self, ↓reduceIte])
           | (with_reducible first | refine s_cond fun KT KF ht hf => ?_ | refine s_skip ?_)
           | ((with_reducible refine s_long ?_); simp only [List.cons_append, List.nil_append])
           | (with_reducible first | refine s_exit ?_ | refine s_ret ?_ | refine e_seq ?_ | refine r_seq ?_ | refine n_block ?_ | refine e_block ?_ | refine r_block ?_ | refine e_loop ?_ | refine r_loop ?_ | refine e_round ?_ | refine r_round ?_ | refine s_round ?_ | refine f_block ?_ (by decide) | refine r_res ?_ | refine n_res ?_)
           | (simp only [hgb, go_sem, Int.reduceToNat, ↓reduceIte, reduceCtorEq, Nat.reduceEqDiff, Nat.reduceAdd, Nat.reduceMul, Nat.reduceLT, Nat.reduceLeDiff, Nat.reduceBEq, Int.reduceBEq, Int.reduceBNe, Int.reduceEq, Int.reduceLT, Int.reduceLE, Int.reduceGE, Int.reduceGT, ht, b1, b2, prows_len, w1, w2, w3, w4, w5, w6, w7, w8, w9, w10, w11, w12, w13, w14, w15, w16, w17, w18, w19, z1, z2, g1, g2]; clear hgb)
           | simp only [go_sem, Int.reduceToNat, ↓reduceIte, reduceCtorEq, Nat.reduceEqDiff, Nat.reduceAdd, Nat.reduceMul, Nat.reduceLT, Nat.reduceLeDiff, Nat.reduceBEq, Int.reduceBEq, Int.reduceBNe, Int.reduceEq, Int.reduceLT, Int.reduceLE, Int.reduceGE, Int.reduceGT, ht, b1, b2, prows_len, w1, w2, w3, w4, w5, w6, w7, w8, w9, w10, w11, w12, w13, w14, w15, w16, w17, w18, w19, z1, z2, g1, g2, hAll]
           | (refine ite_guard (fun hg => ?_) (fun hg => ?_) <;> (try simp only [Bool.not_eq_true, Bool.not_eq_false, Decidable.not_not] at hg) <;> (first | have hgb : (_ : Bool) = _ := hg | have hgb := ff hg | have hgb := tt hg))
           | (refine ⟨fun hc => ht _ ?_, fun hc => hf _ ?_⟩ <;> clear ht hf KT KF)
           | fail)
          all_goals (refine n_loop 6 [1, 2, 3, 4, 5, 6, 7, 8] [1, 40] ⟨?_, by omega⟩ (by omega); simp only [go_sem, Int.reduceToNat, ↓reduceIte, reduceCtorEq, Nat.reduceEqDiff, Nat.reduceAdd, Nat.reduceMul, Nat.reduceLT, Nat.reduceLeDiff, Nat.reduceBEq, Int.reduceBEq, Int.reduceBNe, Int.reduceEq, Int.reduceLT, Int.reduceLE, Int.reduceGE, Int.reduceGT, mk_keep, keepL, List.mem_cons, List.not_mem_nil, Nat.reduceEqDiff, Nat.zero_ne_one, Nat.one_ne_zero, reduceCtorEq, or_false, false_or, or_true, true_or, or_self, eq_self, ↓reduceIte, hq, (show IntKind.wrap .i64 (5 + 1) = 6 by decide)])
      · have g1 := ff c1
        have hq : pre n p d r l2 cn 6 = pre n p d r l2 cn 5 := by show pre n p d r l2 cn 5 ++ part n p d r l2 cn 5 = _; simp only [part]; rw [if_neg (fun h => c1 h.1), List.append_nil]
        repeat' (first
         | (with_reducible first | refine s_seq ?_ | refine s_block ?_ | refine s_region fun kr hr => ?_)
         | (with_reducible refine s_text tOk [1, 39, 40, 53, 54, 70, 71, 86, 87, 106, 107, 137, 138, 156, 157, 1000, 1001, 1002, 1003] (by kernel_rfl) (by simp [HeapIn, namers, namerDst, namerOp, Blk.has, hasRows, hasL, CV.has, hasRows_up, hasRows_append, ht, b1, b2, prows_len, w1, w2, w3, w4, w5, w6, w7, w8, w9, w10, w11, w12, w13, w14, w15, w16, w17, w18, w19, z1, z2, g1]) fun kr hr => ?_)
         | (with_reducible first | refine s_op fun K' hk => ?_ | refine t_op fun K' hk => ?_ | (refine hk _ ?_; clear hk K') | (refine ht _ ?_; clear ht hf KT KF) | (refine hf _ ?_; clear ht hf KT KF) | ((first | refine s_nil ?_ | refine t_nil ?_); refine hr _ ?_; clear hr kr))
         | ((with_reducible refine n_seqK [0, 1, 2, 3, 4, 5, 6, 7, 8, 23, 25, 26, 28, 29, 30, 41, 55, 58, 64, 72, 88, 91, 108, 119, 128, 139, 151] [1, 39, 40, 53, 54, 70, 71, 86, 87, 106, 107, 137, 138, 156, 157] ?_); simp only [mk_keep, keepL, List.mem_cons, List.not_mem_nil, Nat.reduceEqDiff, Nat.zero_ne_one, Nat.one_ne_zero, reduceCtorEq, or_false, false_or, or_true, true_or, or_self, eq_self, ↓reduceIte])
         | (with_reducible first | refine s_cond fun KT KF ht hf => ?_ | refine s_skip ?_)
         | ((with_reducible refine s_long ?_); simp only [List.cons_append, List.nil_append])
         | (with_reducible first | refine s_exit ?_ | refine s_ret ?_ | refine e_seq ?_ | refine r_seq ?_ | refine n_block ?_ | refine e_block ?_ | refine r_block ?_ | refine e_loop ?_ | refine r_loop ?_ | refine e_round ?_ | refine r_round ?_ | refine s_round ?_ | refine f_block ?_ (by decide) | refine r_res ?_ | refine n_res ?_)
         | (simp only [hgb, go_sem, Int.reduceToNat, ↓reduceIte, reduceCtorEq, Nat.reduceEqDiff, Nat.reduceAdd, Nat.reduceMul, Nat.reduceLT, Nat.reduceLeDiff, Nat.reduceBEq, Int.reduceBEq, Int.reduceBNe, Int.reduceEq, Int.reduceLT, Int.reduceLE, Int.reduceGE, Int.reduceGT, ht, b1, b2, prows_len, w1, w2, w3, w4, w5, w6, w7, w8, w9, w10, w11, w12, w13, w14, w15, w16, w17, w18, w19, z1, z2, g1]; clear hgb)
         | simp only [go_sem, Int.reduceToNat, ↓reduceIte, reduceCtorEq, Nat.reduceEqDiff, Nat.reduceAdd, Nat.reduceMul, Nat.reduceLT, Nat.reduceLeDiff, Nat.reduceBEq, Int.reduceBEq, Int.reduceBNe, Int.reduceEq, Int.reduceLT, Int.reduceLE, Int.reduceGE, Int.reduceGT, ht, b1, b2, prows_len, w1, w2, w3, w4, w5, w6, w7, w8, w9, w10, w11, w12, w13, w14, w15, w16, w17, w18, w19, z1, z2, g1, hAll]
         | (refine ite_guard (fun hg => ?_) (fun hg => ?_) <;> (try simp only [Bool.not_eq_true, Bool.not_eq_false, Decidable.not_not] at hg) <;> (first | have hgb : (_ : Bool) = _ := hg | have hgb := ff hg | have hgb := tt hg))
         | (refine ⟨fun hc => ht _ ?_, fun hc => hf _ ?_⟩ <;> clear ht hf KT KF)
         | fail)
        all_goals (refine n_loop 6 [1, 2, 3, 4, 5, 6, 7, 8] [1, 40] ⟨?_, by omega⟩ (by omega); simp only [go_sem, Int.reduceToNat, ↓reduceIte, reduceCtorEq, Nat.reduceEqDiff, Nat.reduceAdd, Nat.reduceMul, Nat.reduceLT, Nat.reduceLeDiff, Nat.reduceBEq, Int.reduceBEq, Int.reduceBNe, Int.reduceEq, Int.reduceLT, Int.reduceLE, Int.reduceGE, Int.reduceGT, mk_keep, keepL, List.mem_cons, List.not_mem_nil, Nat.reduceEqDiff, Nat.zero_ne_one, Nat.one_ne_zero, reduceCtorEq, or_false, false_or, or_true, true_or, or_self, eq_self, ↓reduceIte, hq, (show IntKind.wrap .i64 (5 + 1) = 6 by decide)])
    · cases cn with
      | false =>
        have hq : pre n p d r l2 false 7 = pre n p d r l2 false 6 := by show pre n p d r l2 false 6 ++ part n p d r l2 false 6 = _; simp only [part]; rw [if_neg (fun h => by cases h.1), List.append_nil]
        repeat' (first
         | (with_reducible first | refine s_seq ?_ | refine s_block ?_ | refine s_region fun kr hr => ?_)
         | (with_reducible refine s_text tOk [1, 39, 40, 53, 54, 70, 71, 86, 87, 106, 107, 137, 138, 156, 157, 1000, 1001, 1002, 1003] (by kernel_rfl) (by simp [HeapIn, namers, namerDst, namerOp, Blk.has, hasRows, hasL, CV.has, hasRows_up, hasRows_append, ht, b1, b2, prows_len, w1, w2, w3, w4, w5, w6, w7, w8, w9, w10, w11, w12, w13, w14, w15, w16, w17, w18, w19, z1, z2]) fun kr hr => ?_)
         | (with_reducible first | refine s_op fun K' hk => ?_ | refine t_op fun K' hk => ?_ | (refine hk _ ?_; clear hk K') | (refine ht _ ?_; clear ht hf KT KF) | (refine hf _ ?_; clear ht hf KT KF) | ((first | refine s_nil ?_ | refine t_nil ?_); refine hr _ ?_; clear hr kr))
         | ((with_reducible refine n_seqK [0, 1, 2, 3, 4, 5, 6, 7, 8, 23, 25, 26, 28, 29, 30, 41, 55, 58, 64, 72, 88, 91, 108, 119, 128, 139, 151] [1, 39, 40, 53, 54, 70, 71, 86, 87, 106, 107, 137, 138, 156, 157] ?_); simp only [mk_keep, keepL, List.mem_cons, List.not_mem_nil, Nat.reduceEqDiff, Nat.zero_ne_one, Nat.one_ne_zero, reduceCtorEq, or_false, false_or, or_true, true_or, or_self, eq_self, ↓reduceIte])
         | (with_reducible first | refine s_cond fun KT KF ht hf => ?_ | refine s_skip ?_)
         | ((with_reducible refine s_long ?_); simp only [List.cons_append, List.nil_append])
         | (with_reducible first | refine s_exit ?_ | refine s_ret ?_ | refine e_seq ?_ | refine r_seq ?_ | refine n_block ?_ | refine e_block ?_ | refine r_block ?_ | refine e_loop ?_ | refine r_loop ?_ | refine e_round ?_ | refine r_round ?_ | refine s_round ?_ | refine f_block ?_ (by decide) | refine r_res ?_ | refine n_res ?_)
         | (simp only [hgb, go_sem, Int.reduceToNat, ↓reduceIte, reduceCtorEq, Nat.reduceEqDiff, Nat.reduceAdd, Nat.reduceMul, Nat.reduceLT, Nat.reduceLeDiff, Nat.reduceBEq, Int.reduceBEq, Int.reduceBNe, Int.reduceEq, Int.reduceLT, Int.reduceLE, Int.reduceGE, Int.reduceGT, ht, b1, b2, prows_len, w1, w2, w3, w4, w5, w6, w7, w8, w9, w10, w11, w12, w13, w14, w15, w16, w17, w18, w19, z1, z2]; clear hgb)
         | simp only [go_sem, Int.reduceToNat, ↓reduceIte, reduceCtorEq, Nat.reduceEqDiff, Nat.reduceAdd, Nat.reduceMul, Nat.reduceLT, Nat.reduceLeDiff, Nat.reduceBEq, Int.reduceBEq, Int.reduceBNe, Int.reduceEq, Int.reduceLT, Int.reduceLE, Int.reduceGE, Int.reduceGT, ht, b1, b2, prows_len, w1, w2, w3, w4, w5, w6, w7, w8, w9, w10, w11, w12, w13, w14, w15, w16, w17, w18, w19, z1, z2, hAll]
         | (refine ite_guard (fun hg => ?_) (fun hg => ?_) <;> (try simp only [Bool.not_eq_true, Bool.not_eq_false, Decidable.not_not] at hg) <;> (first | have hgb : (_ : Bool) = _ := hg | have hgb := ff hg | have hgb := tt hg))
         | (refine ⟨fun hc => ht _ ?_, fun hc => hf _ ?_⟩ <;> clear ht hf KT KF)
         | fail)
        all_goals (refine n_loop 7 [1, 2, 3, 4, 5, 6, 7, 8] [1, 40] ⟨?_, by omega⟩ (by omega); simp only [go_sem, Int.reduceToNat, ↓reduceIte, reduceCtorEq, Nat.reduceEqDiff, Nat.reduceAdd, Nat.reduceMul, Nat.reduceLT, Nat.reduceLeDiff, Nat.reduceBEq, Int.reduceBEq, Int.reduceBNe, Int.reduceEq, Int.reduceLT, Int.reduceLE, Int.reduceGE, Int.reduceGT, mk_keep, keepL, List.mem_cons, List.not_mem_nil, Nat.reduceEqDiff, Nat.zero_ne_one, Nat.one_ne_zero, reduceCtorEq, or_false, false_or, or_true, true_or, or_self, eq_self, ↓reduceIte, hq, (show IntKind.wrap .i64 (6 + 1) = 7 by decide)])
      | true =>
        by_cases c2 : p = n
        · have g2 := tt c2
          by_cases c3 : n > 128
          · have g3 := tt c3
            have hq : pre n p d r l2 true 7 = pre n p d r l2 true 6 ++ [(5, 0, 0, 128, false, 1024 * d)] := by show pre n p d r l2 true 6 ++ part n p d r l2 true 6 = _; simp only [part]; rw [if_pos ⟨trivial, c2, c3⟩]
            have hz := prows_snoc (pre n p d r l2 true 6) (5, 0, 0, 128, false, 1024 * d)
            rw [pcells_eq, ← hq] at hz
            have hlen : (pre n p d r l2 true 7).length = (pre n p d r l2 true 6).length + 1 := by rw [hq]; simp
            repeat' (first
             | (with_reducible first | refine s_seq ?_ | refine s_block ?_ | refine s_region fun kr hr => ?_)
             | (with_reducible refine s_text tOk [1, 39, 40, 53, 54, 70, 71, 86, 87, 106, 107, 137, 138, 156, 157, 1000, 1001, 1002, 1003] (by kernel_rfl) (by simp [HeapIn, namers, namerDst, namerOp, Blk.has, hasRows, hasL, CV.has, hasRows_up, hasRows_append, hz, ht, b1, b2, hlen, prows_len, w1, w2, w3, w4, w5, w6, w7, w8, w9, w10, w11, w12, w13, w14, w15, w16, w17, w18, w19, z1, z2, g2, g3]) fun kr hr => ?_)
             | (with_reducible first | refine s_op fun K' hk => ?_ | refine t_op fun K' hk => ?_ | (refine hk _ ?_; clear hk K') | (refine ht _ ?_; clear ht hf KT KF) | (refine hf _ ?_; clear ht hf KT KF) | ((first | refine s_nil ?_ | refine t_nil ?_); refine hr _ ?_; clear hr kr))
             | ((with_reducible refine n_seqK [0, 1, 2, 3, 4, 5, 6, 7, 8, 23, 25, 26, 28, 29, 30, 41, 55, 58, 64, 72, 88, 91, 108, 119, 128, 139, 151] [1, 39, 40, 53, 54, 70, 71, 86, 87, 106, 107, 137, 138, 156, 157] ?_); simp only [mk_keep, keepL, List.mem_cons, List.not_mem_nil, Nat.reduceEqDiff, Nat.zero_ne_one, Nat.one_ne_zero, reduceCtorEq, or_false, false_or, or_true, true_or, or_self, eq_self, ↓reduceIte])
             | (with_reducible first | refine s_cond fun KT KF ht hf => ?_ | refine s_skip ?_)
             | ((with_reducible refine s_long ?_); simp only [List.cons_append, List.nil_append])
             | (with_reducible first | refine s_exit ?_ | refine s_ret ?_ | refine e_seq ?_ | refine r_seq ?_ | refine n_block ?_ | refine e_block ?_ | refine r_block ?_ | refine e_loop ?_ | refine r_loop ?_ | refine e_round ?_ | refine r_round ?_ | refine s_round ?_ | refine f_block ?_ (by decide) | refine r_res ?_ | refine n_res ?_)
             | (simp only [hgb, go_sem, Int.reduceToNat, ↓reduceIte, reduceCtorEq, Nat.reduceEqDiff, Nat.reduceAdd, Nat.reduceMul, Nat.reduceLT, Nat.reduceLeDiff, Nat.reduceBEq, Int.reduceBEq, Int.reduceBNe, Int.reduceEq, Int.reduceLT, Int.reduceLE, Int.reduceGE, Int.reduceGT, hz, ht, b1, b2, hlen, prows_len, w1, w2, w3, w4, w5, w6, w7, w8, w9, w10, w11, w12, w13, w14, w15, w16, w17, w18, w19, z1, z2, g2, g3]; clear hgb)
             | simp only [go_sem, Int.reduceToNat, ↓reduceIte, reduceCtorEq, Nat.reduceEqDiff, Nat.reduceAdd, Nat.reduceMul, Nat.reduceLT, Nat.reduceLeDiff, Nat.reduceBEq, Int.reduceBEq, Int.reduceBNe, Int.reduceEq, Int.reduceLT, Int.reduceLE, Int.reduceGE, Int.reduceGT, hz, ht, b1, b2, hlen, prows_len, w1, w2, w3, w4, w5, w6, w7, w8, w9, w10, w11, w12, w13, w14, w15, w16, w17, w18, w19, z1, z2, g2, g3, hAll]
             | (refine ite_guard (fun hg => ?_) (fun hg => ?_) <;> (try simp only [Bool.not_eq_true, Bool.not_eq_false, Decidable.not_not] at hg) <;> (first | have hgb : (_ : Bool) = _ := hg | have hgb := ff hg | have hgb := tt hg))
             | (refine ⟨fun hc => ht _ ?_, fun hc => hf _ ?_⟩ <;> clear ht hf KT KF)
             | fail)
            refine n_loopG _ (gho_ren (a := 157) (b := 40) (by decide) (by decide)) ?_
            rw [mk_ren]
            refine n_loop 7 [1, 2, 3, 4, 5, 6, 7, 8] [1, 40] ⟨?_, by omega⟩ (by omega)
            simp only [mapV, SV.ren, CV.ren, renL, renL_map, List.map_cons, List.map_nil, renS, sw, Nat.reduceEqDiff, ↓reduceIte, Blk.ren, renRows_up, renRows, ins, Nat.reduceLT]
            simp only [go_sem, Int.reduceToNat, ↓reduceIte, reduceCtorEq, Nat.reduceEqDiff, Nat.reduceAdd, Nat.reduceMul, Nat.reduceLT, Nat.reduceLeDiff, Nat.reduceBEq, Int.reduceBEq, Int.reduceBNe, Int.reduceEq, Int.reduceLT, Int.reduceLE, Int.reduceGE, Int.reduceGT, mk_keep, keepL, List.mem_cons, List.not_mem_nil, Nat.reduceEqDiff, Nat.zero_ne_one, Nat.one_ne_zero, reduceCtorEq, or_false, false_or, or_true, true_or, or_self, eq_self, ↓reduceIte, hlen, ← hz, (show IntKind.wrap .i64 (6 + 1) = 7 by decide)]
          · have g3 := ff c3
            have hq : pre n p d r l2 true 7 = pre n p d r l2 true 6 := by show pre n p d r l2 true 6 ++ part n p d r l2 true 6 = _; simp only [part]; rw [if_neg (fun h => c3 h.2.2), List.append_nil]
            repeat' (first
             | (with_reducible first | refine s_seq ?_ | refine s_block ?_ | refine s_region fun kr hr => ?_)
             | (with_reducible refine s_text tOk [1, 39, 40, 53, 54, 70, 71, 86, 87, 106, 107, 137, 138, 156, 157, 1000, 1001, 1002, 1003] (by kernel_rfl) (by simp [HeapIn, namers, namerDst, namerOp, Blk.has, hasRows, hasL, CV.has, hasRows_up, hasRows_append, ht, b1, b2, prows_len, w1, w2, w3, w4, w5, w6, w7, w8, w9, w10, w11, w12, w13, w14, w15, w16, w17, w18, w19, z1, z2, g2, g3]) fun kr hr => ?_)
             | (with_reducible first | refine s_op fun K' hk => ?_ | refine t_op fun K' hk => ?_ | (refine hk _ ?_; clear hk K') | (refine ht _ ?_; clear ht hf KT KF) | (refine hf _ ?_; clear ht hf KT KF) | ((first | refine s_nil ?_ | refine t_nil ?_); refine hr _ ?_; clear hr kr))
             | ((with_reducible refine n_seqK [0, 1, 2, 3, 4, 5, 6, 7, 8, 23, 25, 26, 28, 29, 30, 41, 55, 58, 64, 72, 88, 91, 108, 119, 128, 139, 151] [1, 39, 40, 53, 54, 70, 71, 86, 87, 106, 107, 137, 138, 156, 157] ?_); simp only [mk_keep, keepL, List.mem_cons, List.not_mem_nil, Nat.reduceEqDiff, Nat.zero_ne_one, Nat.one_ne_zero, reduceCtorEq, or_false, false_or, or_true, true_or, or_self, eq_self, ↓reduceIte])
             | (with_reducible first | refine s_cond fun KT KF ht hf => ?_ | refine s_skip ?_)
             | ((with_reducible refine s_long ?_); simp only [List.cons_append, List.nil_append])
             | (with_reducible first | refine s_exit ?_ | refine s_ret ?_ | refine e_seq ?_ | refine r_seq ?_ | refine n_block ?_ | refine e_block ?_ | refine r_block ?_ | refine e_loop ?_ | refine r_loop ?_ | refine e_round ?_ | refine r_round ?_ | refine s_round ?_ | refine f_block ?_ (by decide) | refine r_res ?_ | refine n_res ?_)
             | (simp only [hgb, go_sem, Int.reduceToNat, ↓reduceIte, reduceCtorEq, Nat.reduceEqDiff, Nat.reduceAdd, Nat.reduceMul, Nat.reduceLT, Nat.reduceLeDiff, Nat.reduceBEq, Int.reduceBEq, Int.reduceBNe, Int.reduceEq, Int.reduceLT, Int.reduceLE, Int.reduceGE, Int.reduceGT, ht, b1, b2, prows_len, w1, w2, w3, w4, w5, w6, w7, w8, w9, w10, w11, w12, w13, w14, w15, w16, w17, w18, w19, z1, z2, g2, g3]; clear hgb)
             | simp only [go_sem, Int.reduceToNat, ↓reduceIte, reduceCtorEq, Nat.reduceEqDiff, Nat.reduceAdd, Nat.reduceMul, Nat.reduceLT, Nat.reduceLeDiff, Nat.reduceBEq, Int.reduceBEq, Int.reduceBNe, Int.reduceEq, Int.reduceLT, Int.reduceLE, Int.reduceGE, Int.reduceGT, ht, b1, b2, prows_len, w1, w2, w3, w4, w5, w6, w7, w8, w9, w10, w11, w12, w13, w14, w15, w16, w17, w18, w19, z1, z2, g2, g3, hAll]
             | (refine ite_guard (fun hg => ?_) (fun hg => ?_) <;> (try simp only [Bool.not_eq_true, Bool.not_eq_false, Decidable.not_not] at hg) <;> (first | have hgb : (_ : Bool) = _ := hg | have hgb := ff hg | have hgb := tt hg))
             | (refine ⟨fun hc => ht _ ?_, fun hc => hf _ ?_⟩ <;> clear ht hf KT KF)
             | fail)
            all_goals (refine n_loop 7 [1, 2, 3, 4, 5, 6, 7, 8] [1, 40] ⟨?_, by omega⟩ (by omega); simp only [go_sem, Int.reduceToNat, ↓reduceIte, reduceCtorEq, Nat.reduceEqDiff, Nat.reduceAdd, Nat.reduceMul, Nat.reduceLT, Nat.reduceLeDiff, Nat.reduceBEq, Int.reduceBEq, Int.reduceBNe, Int.reduceEq, Int.reduceLT, Int.reduceLE, Int.reduceGE, Int.reduceGT, mk_keep, keepL, List.mem_cons, List.not_mem_nil, Nat.reduceEqDiff, Nat.zero_ne_one, Nat.one_ne_zero, reduceCtorEq, or_false, false_or, or_true, true_or, or_self, eq_self, ↓reduceIte, hq, (show IntKind.wrap .i64 (6 + 1) = 7 by decide)])
        · have g2 := ff c2
          have hq : pre n p d r l2 true 7 = pre n p d r l2 true 6 := by show pre n p d r l2 true 6 ++ part n p d r l2 true 6 = _; simp only [part]; rw [if_neg (fun h => c2 h.2.1), List.append_nil]
          repeat' (first
           | (with_reducible first | refine s_seq ?_ | refine s_block ?_ | refine s_region fun kr hr => ?_)
           | (with_reducible refine s_text tOk [1, 39, 40, 53, 54, 70, 71, 86, 87, 106, 107, 137, 138, 156, 157, 1000, 1001, 1002, 1003] (by kernel_rfl) (by simp [HeapIn, namers, namerDst, namerOp, Blk.has, hasRows, hasL, CV.has, hasRows_up, hasRows_append, ht, b1, b2, prows_len, w1, w2, w3, w4, w5, w6, w7, w8, w9, w10, w11, w12, w13, w14, w15, w16, w17, w18, w19, z1, z2, g2]) fun kr hr => ?_)
           | (with_reducible first | refine s_op fun K' hk => ?_ | refine t_op fun K' hk => ?_ | (refine hk _ ?_; clear hk K') | (refine ht _ ?_; clear ht hf KT KF) | (refine hf _ ?_; clear ht hf KT KF) | ((first | refine s_nil ?_ | refine t_nil ?_); refine hr _ ?_; clear hr kr))
           | ((with_reducible refine n_seqK [0, 1, 2, 3, 4, 5, 6, 7, 8, 23, 25, 26, 28, 29, 30, 41, 55, 58, 64, 72, 88, 91, 108, 119, 128, 139, 151] [1, 39, 40, 53, 54, 70, 71, 86, 87, 106, 107, 137, 138, 156, 157] ?_); simp only [mk_keep, keepL, List.mem_cons, List.not_mem_nil, Nat.reduceEqDiff, Nat.zero_ne_one, Nat.one_ne_zero, reduceCtorEq, or_false, false_or, or_true, true_or, or_self, eq_self, ↓reduceIte])
           | (with_reducible first | refine s_cond fun KT KF ht hf => ?_ | refine s_skip ?_)
           | ((with_reducible refine s_long ?_); simp only [List.cons_append, List.nil_append])
           | (with_reducible first | refine s_exit ?_ | refine s_ret ?_ | refine e_seq ?_ | refine r_seq ?_ | refine n_block ?_ | refine e_block ?_ | refine r_block ?_ | refine e_loop ?_ | refine r_loop ?_ | refine e_round ?_ | refine r_round ?_ | refine s_round ?_ | refine f_block ?_ (by decide) | refine r_res ?_ | refine n_res ?_)
           | (simp only [hgb, go_sem, Int.reduceToNat, ↓reduceIte, reduceCtorEq, Nat.reduceEqDiff, Nat.reduceAdd, Nat.reduceMul, Nat.reduceLT, Nat.reduceLeDiff, Nat.reduceBEq, Int.reduceBEq, Int.reduceBNe, Int.reduceEq, Int.reduceLT, Int.reduceLE, Int.reduceGE, Int.reduceGT, ht, b1, b2, prows_len, w1, w2, w3, w4, w5, w6, w7, w8, w9, w10, w11, w12, w13, w14, w15, w16, w17, w18, w19, z1, z2, g2]; clear hgb)
           | simp only [go_sem, Int.reduceToNat, ↓reduceIte, reduceCtorEq, Nat.reduceEqDiff, Nat.reduceAdd, Nat.reduceMul, Nat.reduceLT, Nat.reduceLeDiff, Nat.reduceBEq, Int.reduceBEq, Int.reduceBNe, Int.reduceEq, Int.reduceLT, Int.reduceLE, Int.reduceGE, Int.reduceGT, ht, b1, b2, prows_len, w1, w2, w3, w4, w5, w6, w7, w8, w9, w10, w11, w12, w13, w14, w15, w16, w17, w18, w19, z1, z2, g2, hAll]
           | (refine ite_guard (fun hg => ?_) (fun hg => ?_) <;> (try simp only [Bool.not_eq_true, Bool.not_eq_false, Decidable.not_not] at hg) <;> (first | have hgb : (_ : Bool) = _ := hg | have hgb := ff hg | have hgb := tt hg))
           | (refine ⟨fun hc => ht _ ?_, fun hc => hf _ ?_⟩ <;> clear ht hf KT KF)
           | fail)
          all_goals (refine n_loop 7 [1, 2, 3, 4, 5, 6, 7, 8] [1, 40] ⟨?_, by omega⟩ (by omega); simp only [go_sem, Int.reduceToNat, ↓reduceIte, reduceCtorEq, Nat.reduceEqDiff, Nat.reduceAdd, Nat.reduceMul, Nat.reduceLT, Nat.reduceLeDiff, Nat.reduceBEq, Int.reduceBEq, Int.reduceBNe, Int.reduceEq, Int.reduceLT, Int.reduceLE, Int.reduceGE, Int.reduceGT, mk_keep, keepL, List.mem_cons, List.not_mem_nil, Nat.reduceEqDiff, Nat.zero_ne_one, Nat.one_ne_zero, reduceCtorEq, or_false, false_or, or_true, true_or, or_self, eq_self, ↓reduceIte, hq, (show IntKind.wrap .i64 (6 + 1) = 7 by decide)])
    · repeat' (first
       | (with_reducible first | refine s_seq ?_ | refine s_block ?_ | refine s_region fun kr hr => ?_)
       | (with_reducible refine s_text tOk [1, 39, 40, 53, 54, 70, 71, 86, 87, 106, 107, 137, 138, 156, 157, 1000, 1001, 1002, 1003] (by kernel_rfl) (by simp [HeapIn, namers, namerDst, namerOp, Blk.has, hasRows, hasL, CV.has, hasRows_up, hasRows_append, ht, prows_len]) fun kr hr => ?_)
       | (with_reducible first | refine s_op fun K' hk => ?_ | refine t_op fun K' hk => ?_ | (refine hk _ ?_; clear hk K') | (refine ht _ ?_; clear ht hf KT KF) | (refine hf _ ?_; clear ht hf KT KF) | ((first | refine s_nil ?_ | refine t_nil ?_); refine hr _ ?_; clear hr kr))
       | ((with_reducible refine n_seqK [0, 1, 2, 3, 4, 5, 6, 7, 8, 23, 25, 26, 28, 29, 30, 41, 55, 58, 64, 72, 88, 91, 108, 119, 128, 139, 151] [1, 39, 40, 53, 54, 70, 71, 86, 87, 106, 107, 137, 138, 156, 157] ?_); simp only [mk_keep, keepL, List.mem_cons, List.not_mem_nil, Nat.reduceEqDiff, Nat.zero_ne_one, Nat.one_ne_zero, reduceCtorEq, or_false, false_or, or_true, true_or, or_self, eq_self, ↓reduceIte])
       | (with_reducible first | refine s_cond fun KT KF ht hf => ?_ | refine s_skip ?_)
       | ((with_reducible refine s_long ?_); simp only [List.cons_append, List.nil_append])
       | (with_reducible first | refine s_exit ?_ | refine s_ret ?_ | refine e_seq ?_ | refine r_seq ?_ | refine n_block ?_ | refine e_block ?_ | refine r_block ?_ | refine e_loop ?_ | refine r_loop ?_ | refine e_round ?_ | refine r_round ?_ | refine s_round ?_ | refine f_block ?_ (by decide) | refine r_res ?_ | refine n_res ?_)
       | (simp only [hgb, go_sem, Int.reduceToNat, ↓reduceIte, reduceCtorEq, Nat.reduceEqDiff, Nat.reduceAdd, Nat.reduceMul, Nat.reduceLT, Nat.reduceLeDiff, Nat.reduceBEq, Int.reduceBEq, Int.reduceBNe, Int.reduceEq, Int.reduceLT, Int.reduceLE, Int.reduceGE, Int.reduceGT, ht, prows_len]; clear hgb)
       | simp only [go_sem, Int.reduceToNat, ↓reduceIte, reduceCtorEq, Nat.reduceEqDiff, Nat.reduceAdd, Nat.reduceMul, Nat.reduceLT, Nat.reduceLeDiff, Nat.reduceBEq, Int.reduceBEq, Int.reduceBNe, Int.reduceEq, Int.reduceLT, Int.reduceLE, Int.reduceGE, Int.reduceGT, ht, prows_len, hAll]
       | (refine ite_guard (fun hg => ?_) (fun hg => ?_) <;> (try simp only [Bool.not_eq_true, Bool.not_eq_false, Decidable.not_not] at hg) <;> (first | have hgb : (_ : Bool) = _ := hg | have hgb := ff hg | have hgb := tt hg))
       | (refine ⟨fun hc => ht _ ?_, fun hc => hf _ ?_⟩ <;> clear ht hf KT KF)
       | fail)
end Go.Proofs.Yteoddaeipckgcaa.Fx
