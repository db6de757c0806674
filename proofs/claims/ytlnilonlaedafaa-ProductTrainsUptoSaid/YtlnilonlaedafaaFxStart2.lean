/- The drawn beginning, the document's. -/
import Derived.Test.YtlnilonlaedafaaFxStart
namespace Go.Proofs.Ytlnilonlaedafaa.Fx
open Go Go.RowKit
set_option maxRecDepth 100000
set_option linter.unusedSimpArgs false
set_option linter.unusedVariables false
theorem twin1_spec (v : List Int) (hv : Sized v.length) : Spec Try.prog 46 [.v (.t (vec v))] [] [.v (.t (vec v))] [] := by
  have h := twin1_own v hv
  rw [← upi_len v] at h
  exact h.tree (viewRows_up _)
theorem upv_len (l : List (List Int)) : (up (vrows l)).length = l.length := by simp [up, vrows]
theorem upv_snoc (l : List (List Int)) (v : List Int) : up (vrows l) ++ [[CV.t (.sl 1 (ints v))]] = up (vrows (l ++ [v])) := by
  simp only [up, vrows, List.map_append]; rfl
def firstN (k : Nat) : List Int := (List.range k).map fun (i : Nat) => (i : Int)
theorem firstN_succ (k : Nat) : firstN (k + 1) = firstN k ++ [(k : Int)] := by simp [firstN, List.range_succ]
theorem firstN_len (k : Nat) : (firstN k).length = k := by simp [firstN]
theorem firstN_st (n : Nat) (seed : Int) : firstN n = (stK n seed 0).1 := rfl
theorem start2_spec (l : List (List Int)) (k seed : Int) (hl : SizedAll l) (hk0 : -9223372036854775808 ≤ k ∧ k ≤ 9223372036854775807) : Spec Try.prog 25 [.v (.t (vecs l)), .v (.t (.int .i64 k)), .v (.t (.int .u64 seed))] [] [.v (.t (vecs (start l k seed)))] [] := by
  have hl1 := hl.1
  refine spec_by Try.func25 rfl mixed tOk evOk (n := 74) rfl (by simp) (by simp) ?_
  rw [initSt_mk, show Try.f25.results.toList = [.tmp 6] from rfl]
  simp only [initL, AV.sv, List.map_cons, List.map_nil, Nat.reduceAdd, Nat.zero_add, vecs_eq]
  repeat' (first
   | (with_reducible first | refine s_seq ?_ | refine s_block ?_ | refine s_region fun kr hr => ?_)
   | (with_reducible refine s_text tOk [21, 22, 71, 72, 1000, 1001, 1002, 1003] (by kernel_rfl) (by simp [HeapIn, namers, namerDst, namerOp, namedOp, namedFn, ownLoad, Blk.has, hasRows, hasL, CV.has, hasRows_up, hasM_up, hasRows_append, vrows_len]; (try ((repeat' apply And.intro) <;> intros <;> omega))) fun kr hr => ?_)
   | (with_reducible first | refine s_op fun K' hk => ?_ | refine t_op fun K' hk => ?_ | (refine hk _ ?_; clear hk K') | (refine ht _ ?_; clear ht hf KT KF) | (refine hf _ ?_; clear ht hf KT KF) | ((first | refine s_nil ?_ | refine t_nil ?_); refine hr _ ?_; clear hr kr))
   | ((with_reducible refine n_seqK [0, 1, 2, 3, 4, 5, 6, 7, 8, 9, 10, 11, 12, 16, 22, 23, 31, 32, 46, 50] [21, 22, 71, 72] ?_); simp only [mk_keep, keepL, List.mem_cons, List.not_mem_nil, Nat.reduceEqDiff, Nat.zero_ne_one, Nat.one_ne_zero, reduceCtorEq, or_false, false_or, or_true, true_or, or_self, eq_self, ↓reduceIte])
   | (with_reducible first | refine s_cond fun KT KF ht hf => ?_ | refine s_skip ?_)
   | ((with_reducible refine s_long ?_); simp only [List.cons_append, List.nil_append])
   | (with_reducible first | refine s_exit ?_ | refine s_ret ?_ | refine e_seq ?_ | refine r_seq ?_ | refine n_block ?_ | refine e_block ?_ | refine r_block ?_ | refine e_loop ?_ | refine r_loop ?_ | refine e_round ?_ | refine r_round ?_ | refine s_round ?_ | refine f_block ?_ (by decide) | refine r_res ?_ | refine n_res ?_)
   | (simp only [hgb, go_sem, Int.reduceToNat, ↓reduceIte, reduceCtorEq, Nat.reduceEqDiff, Nat.reduceAdd, Nat.reduceMul, Nat.reduceLT, Nat.reduceLeDiff, Nat.reduceBEq, Int.reduceBEq, Int.reduceBNe, String.reduceBEq, Int.reduceEq, Int.reduceLT, Int.reduceLE, Int.reduceGE, Int.reduceGT, vrows_len]; clear hgb)
   | simp only [go_sem, Int.reduceToNat, ↓reduceIte, reduceCtorEq, Nat.reduceEqDiff, Nat.reduceAdd, Nat.reduceMul, Nat.reduceLT, Nat.reduceLeDiff, Nat.reduceBEq, Int.reduceBEq, Int.reduceBNe, String.reduceBEq, Int.reduceEq, Int.reduceLT, Int.reduceLE, Int.reduceGE, Int.reduceGT, vrows_len, hAll]
   | (refine ite_guard (fun hg => ?_) (fun hg => ?_) <;> (try simp only [Bool.not_eq_true, Bool.not_eq_false, Decidable.not_not] at hg) <;> (first | have hgb : (_ : Bool) = _ := hg | have hgb := ff hg | have hgb := tt hg))
   | (refine ⟨fun hc => ht _ ?_, fun hc => hf _ ?_⟩ <;> clear ht hf KT KF)
   | fail)
  refine w_loopG _ (gho_nilName (s := 7) (d := 22) (sz := 1) (by decide) ⟨1, rfl⟩ (by rw [fresh_t]; exact trivial; rfl)) ?_
  rw [mk_nilName]
  refine w_loop [0, 1, 2, 6, 7, 8] [22] (σ := Nat) (fun i st => st = mk [(0, V (.sl 1 (vrows l))), (1, I k), (2, V (.int .u64 seed)), (6, .c (.own 1 [])), (7, .c (.mr 22 0 i)), (8, I i)] [(22, .cells 1 (up (ints (firstN i))))] ∧ i ≤ l.length) (fun i => l.length - i) 0 ?_ ?_
  · simp only [go_sem, Int.reduceToNat, ↓reduceIte, reduceCtorEq, Nat.reduceEqDiff, Nat.reduceAdd, Nat.reduceMul, Nat.reduceLT, Nat.reduceLeDiff, Nat.reduceBEq, Int.reduceBEq, Int.reduceBNe, String.reduceBEq, Int.reduceEq, Int.reduceLT, Int.reduceLE, Int.reduceGE, Int.reduceGT, mk_keep, keepL, List.mem_cons, List.not_mem_nil, Nat.reduceEqDiff, Nat.zero_ne_one, Nat.one_ne_zero, reduceCtorEq, or_false, false_or, or_true, true_or, or_self, eq_self, ↓reduceIte]
    first | exact ⟨rfl, Nat.zero_le _⟩ | exact Nat.zero_le _
  · rintro i st' ⟨rfl, hi⟩
    by_cases hlt : i < l.length
    · have f1 := ltI hlt
      have f3 := wUp hlt (by omega)
      have hn : (up (ints (firstN i))).length = i := by rw [upi_len, firstN_len]
      have ht : (ints (firstN i)).take i = ints (firstN i) := List.take_of_length_le (by rw [ints_len, firstN_len]; omega)
      have b3 := tt (show (i + 1) * 8 ≤ 140737488355328 by omega)
      have b4 := tt (show i ≤ 9223372036854775806 by omega)
      repeat' (first
       | (with_reducible first | refine s_seq ?_ | refine s_block ?_ | refine s_region fun kr hr => ?_)
       | (with_reducible refine s_text tOk [21, 22, 71, 72, 1000, 1001, 1002, 1003] (by kernel_rfl) (by simp [HeapIn, namers, namerDst, namerOp, namedOp, namedFn, ownLoad, Blk.has, hasRows, hasL, CV.has, hasRows_up, hasM_up, hasRows_append, f1, f3, vrows_len, hn, ht, b3, b4, ints_len, firstN_len, upi_append]; (try ((repeat' apply And.intro) <;> intros <;> omega))) fun kr hr => ?_)
       | (with_reducible first | refine s_op fun K' hk => ?_ | refine t_op fun K' hk => ?_ | (refine hk _ ?_; clear hk K') | (refine ht _ ?_; clear ht hf KT KF) | (refine hf _ ?_; clear ht hf KT KF) | ((first | refine s_nil ?_ | refine t_nil ?_); refine hr _ ?_; clear hr kr))
       | ((with_reducible refine n_seqK [0, 1, 2, 3, 4, 5, 6, 7, 8, 9, 10, 11, 12, 16, 22, 23, 31, 32, 46, 50] [21, 22, 71, 72] ?_); simp only [mk_keep, keepL, List.mem_cons, List.not_mem_nil, Nat.reduceEqDiff, Nat.zero_ne_one, Nat.one_ne_zero, reduceCtorEq, or_false, false_or, or_true, true_or, or_self, eq_self, ↓reduceIte])
       | (with_reducible first | refine s_cond fun KT KF ht hf => ?_ | refine s_skip ?_)
       | ((with_reducible refine s_long ?_); simp only [List.cons_append, List.nil_append])
       | (with_reducible first | refine s_exit ?_ | refine s_ret ?_ | refine e_seq ?_ | refine r_seq ?_ | refine n_block ?_ | refine e_block ?_ | refine r_block ?_ | refine e_loop ?_ | refine r_loop ?_ | refine e_round ?_ | refine r_round ?_ | refine s_round ?_ | refine f_block ?_ (by decide) | refine r_res ?_ | refine n_res ?_)
       | (simp only [hgb, go_sem, Int.reduceToNat, ↓reduceIte, reduceCtorEq, Nat.reduceEqDiff, Nat.reduceAdd, Nat.reduceMul, Nat.reduceLT, Nat.reduceLeDiff, Nat.reduceBEq, Int.reduceBEq, Int.reduceBNe, String.reduceBEq, Int.reduceEq, Int.reduceLT, Int.reduceLE, Int.reduceGE, Int.reduceGT, f1, f3, vrows_len, hn, ht, b3, b4, ints_len, firstN_len, upi_append]; clear hgb)
       | simp only [go_sem, Int.reduceToNat, ↓reduceIte, reduceCtorEq, Nat.reduceEqDiff, Nat.reduceAdd, Nat.reduceMul, Nat.reduceLT, Nat.reduceLeDiff, Nat.reduceBEq, Int.reduceBEq, Int.reduceBNe, String.reduceBEq, Int.reduceEq, Int.reduceLT, Int.reduceLE, Int.reduceGE, Int.reduceGT, f1, f3, vrows_len, hn, ht, b3, b4, ints_len, firstN_len, upi_append, hAll]
       | (refine ite_guard (fun hg => ?_) (fun hg => ?_) <;> (try simp only [Bool.not_eq_true, Bool.not_eq_false, Decidable.not_not] at hg) <;> (first | have hgb : (_ : Bool) = _ := hg | have hgb := ff hg | have hgb := tt hg))
       | (refine ⟨fun hc => ht _ ?_, fun hc => hf _ ?_⟩ <;> clear ht hf KT KF)
       | fail)
      refine n_loop (i + 1) [0, 1, 2, 6, 7, 8] [22] ⟨?_, hlt⟩ (by omega)
      simp only [go_sem, Int.reduceToNat, ↓reduceIte, reduceCtorEq, Nat.reduceEqDiff, Nat.reduceAdd, Nat.reduceMul, Nat.reduceLT, Nat.reduceLeDiff, Nat.reduceBEq, Int.reduceBEq, Int.reduceBNe, String.reduceBEq, Int.reduceEq, Int.reduceLT, Int.reduceLE, Int.reduceGE, Int.reduceGT, mk_keep, keepL, List.mem_cons, List.not_mem_nil, Nat.reduceEqDiff, Nat.zero_ne_one, Nat.one_ne_zero, reduceCtorEq, or_false, false_or, or_true, true_or, or_self, eq_self, ↓reduceIte, firstN_succ]
    · have f1 := nltI hlt
      obtain rfl : i = l.length := by omega
      repeat' (first
       | (with_reducible first | refine s_seq ?_ | refine s_block ?_ | refine s_region fun kr hr => ?_)
       | (with_reducible refine s_text tOk [21, 22, 71, 72, 1000, 1001, 1002, 1003] (by kernel_rfl) (by simp [HeapIn, namers, namerDst, namerOp, namedOp, namedFn, ownLoad, Blk.has, hasRows, hasL, CV.has, hasRows_up, hasM_up, hasRows_append, f1, vrows_len, firstN_st l.length seed]; (try ((repeat' apply And.intro) <;> intros <;> omega))) fun kr hr => ?_)
       | (with_reducible first | refine s_op fun K' hk => ?_ | refine t_op fun K' hk => ?_ | (refine hk _ ?_; clear hk K') | (refine ht _ ?_; clear ht hf KT KF) | (refine hf _ ?_; clear ht hf KT KF) | ((first | refine s_nil ?_ | refine t_nil ?_); refine hr _ ?_; clear hr kr))
       | ((with_reducible refine n_seqK [0, 1, 2, 3, 4, 5, 6, 7, 8, 9, 10, 11, 12, 16, 22, 23, 31, 32, 46, 50] [21, 22, 71, 72] ?_); simp only [mk_keep, keepL, List.mem_cons, List.not_mem_nil, Nat.reduceEqDiff, Nat.zero_ne_one, Nat.one_ne_zero, reduceCtorEq, or_false, false_or, or_true, true_or, or_self, eq_self, ↓reduceIte])
       | (with_reducible first | refine s_cond fun KT KF ht hf => ?_ | refine s_skip ?_)
       | ((with_reducible refine s_long ?_); simp only [List.cons_append, List.nil_append])
       | (with_reducible first | refine s_exit ?_ | refine s_ret ?_ | refine e_seq ?_ | refine r_seq ?_ | refine n_block ?_ | refine e_block ?_ | refine r_block ?_ | refine e_loop ?_ | refine r_loop ?_ | refine e_round ?_ | refine r_round ?_ | refine s_round ?_ | refine f_block ?_ (by decide) | refine r_res ?_ | refine n_res ?_)
       | (simp only [hgb, go_sem, Int.reduceToNat, ↓reduceIte, reduceCtorEq, Nat.reduceEqDiff, Nat.reduceAdd, Nat.reduceMul, Nat.reduceLT, Nat.reduceLeDiff, Nat.reduceBEq, Int.reduceBEq, Int.reduceBNe, String.reduceBEq, Int.reduceEq, Int.reduceLT, Int.reduceLE, Int.reduceGE, Int.reduceGT, f1, vrows_len, firstN_st l.length seed]; clear hgb)
       | simp only [go_sem, Int.reduceToNat, ↓reduceIte, reduceCtorEq, Nat.reduceEqDiff, Nat.reduceAdd, Nat.reduceMul, Nat.reduceLT, Nat.reduceLeDiff, Nat.reduceBEq, Int.reduceBEq, Int.reduceBNe, String.reduceBEq, Int.reduceEq, Int.reduceLT, Int.reduceLE, Int.reduceGE, Int.reduceGT, f1, vrows_len, firstN_st l.length seed, hAll]
       | (refine ite_guard (fun hg => ?_) (fun hg => ?_) <;> (try simp only [Bool.not_eq_true, Bool.not_eq_false, Decidable.not_not] at hg) <;> (first | have hgb : (_ : Bool) = _ := hg | have hgb := ff hg | have hgb := tt hg))
       | (refine ⟨fun hc => ht _ ?_, fun hc => hf _ ?_⟩ <;> clear ht hf KT KF)
       | fail)
      refine w_loopG _ (gho_nilName (s := 9) (d := 72) (sz := 1) (by decide) ⟨1, rfl⟩ (by rw [fresh_t]; exact trivial; simp only [freshL, Blk.has, hasRows_up]; rfl)) ?_
      rw [mk_nilName]
      refine w_loop [0, 1, 2, 6, 7, 9, 10] [22, 72] (σ := Nat) (fun i st => st = mk [(0, V (.sl 1 (vrows l))), (1, I k), (2, V (.int .u64 (stK l.length seed i).2)), (6, .c (.own 1 [])), (7, .c (.mr 22 0 l.length)), (9, .c (.mr 72 0 i)), (10, I i)] [(22, .cells 1 (up (ints (stK l.length seed i).1))), (72, .cells 1 (up (vrows (drawnRows l seed i))))] ∧ (i : Int) ≤ max 0 (min k l.length)) (fun i => l.length - i) 0 ?_ ?_
      · simp only [go_sem, Int.reduceToNat, ↓reduceIte, reduceCtorEq, Nat.reduceEqDiff, Nat.reduceAdd, Nat.reduceMul, Nat.reduceLT, Nat.reduceLeDiff, Nat.reduceBEq, Int.reduceBEq, Int.reduceBNe, String.reduceBEq, Int.reduceEq, Int.reduceLT, Int.reduceLE, Int.reduceGE, Int.reduceGT, mk_keep, keepL, List.mem_cons, List.not_mem_nil, Nat.reduceEqDiff, Nat.zero_ne_one, Nat.one_ne_zero, reduceCtorEq, or_false, false_or, or_true, true_or, or_self, eq_self, ↓reduceIte]
        exact ⟨rfl, by omega⟩
      · rintro i st' ⟨rfl, hi⟩
        have hn : (up (vrows (drawnRows l seed i))).length = i := by rw [upv_len, drawnRows_len]
        have ht : (vrows (drawnRows l seed i)).take i = vrows (drawnRows l seed i) := List.take_of_length_le (by rw [vrows_len, drawnRows_len]; omega)
        by_cases hlt : (i : Int) < min k l.length
        · have hin : i < l.length := by omega
          have f3 := wUp hin (by omega)
          have fw : IntKind.wrap .i64 ((l.length : Int) - (i : Int)) = (l.length : Int) - i := wI (by omega) (by omega)
          have hbr := belowN_range (s := (stK l.length seed i).2) (n := (l.length : Int) - i) (by omega)
          obtain ⟨j, hj⟩ : ∃ j : Nat, belowN (stK l.length seed i).2 ((l.length : Int) - i) = (j : Int) := ⟨_, (Int.toNat_of_nonneg hbr.1).symm⟩
          have hij : i + j < l.length := by omega
          have fij : IntKind.wrap .i64 ((i : Int) + (j : Int)) = ((i + j : Nat) : Int) := by rw [wI (by omega) (by omega)]; omega
          have hpl := stK_len l.length seed i
          generalize hp : (stK l.length seed i).1 = p at hpl ⊢
          have g1 : p[i]? = some (p[i]'(by omega)) := List.getElem?_eq_getElem _
          have g2 : p[i + j]? = some (p[i + j]'(by omega)) := List.getElem?_eq_getElem _
          have g5 : (p.set i (p[i + j]'(by omega)))[i + j]? = some ((p.set i (p[i + j]'(by omega)))[i + j]'(by simp; omega)) := List.getElem?_eq_getElem _
          have hsw : (p.set i (p[i + j]'(by omega))).set (i + j) (p[i]'(by omega)) = (stK l.length seed (i + 1)).1 := by
            simp only [stK, swp, hp, hj, Int.toNat_natCast]
            rw [List.getD_eq_getElem?_getD, List.getD_eq_getElem?_getD, g1, g2]; rfl
          have hs2 : (stK l.length seed (i + 1)).2 = belowS (stK l.length seed i).2 ((l.length : Int) - i) := rfl
          have hpl1 := stK_len l.length seed (i + 1)
          have hm1 := stK_mem l.length seed (i + 1) (by omega)
          generalize hq : (stK l.length seed (i + 1)).1 = q at *
          obtain ⟨m, hm⟩ : ∃ m : Nat, q[i]'(by omega) = (m : Int) := ⟨_, (Int.toNat_of_nonneg (hm1 _ (List.getElem_mem (by omega))).1).symm⟩
          have hml : m < l.length := by have := hm1 _ (List.getElem_mem (show i < q.length by omega)); omega
          have g3 : q[i]? = some (m : Int) := by rw [List.getElem?_eq_getElem (by omega), hm]
          have g4 := get_of_lt hml
          have hpk : pick l seed i = l[m] := by
            simp only [pick, hq]
            have : q.getD i 0 = (m : Int) := by rw [List.getD_eq_getElem?_getD, g3]; rfl
            rw [this, Int.toNat_natCast, List.getD_eq_getElem?_getD, g4]; rfl
          have hv := hl.at hml
          have b3 := tt (show (i + 1) * 24 ≤ 140737488355328 by omega)
          have b4 := tt (show i ≤ 9223372036854775806 by omega)
          have b5 := tt (show (i : Int) < l.length by omega)
          have b7 := tt (show ((i + j : Nat) : Int) < l.length by omega)
          have b8 := tt (show (m : Int) < l.length by omega)
          have b9 := tt (show (i : Int) < k by omega)
          have b6 := Below_spec (stK l.length seed i).2 ((l.length : Int) - i) (by omega)
          rw [hj] at b6
          repeat' (first
           | (with_reducible first | refine s_seq ?_ | refine s_block ?_ | refine s_region fun kr hr => ?_)
           | (with_reducible refine s_text tOk [21, 22, 71, 72, 1000, 1001, 1002, 1003] (by kernel_rfl) (by simp [HeapIn, namers, namerDst, namerOp, namedOp, namedFn, ownLoad, Blk.has, hasRows, hasL, CV.has, hasRows_up, hasM_up, hasRows_append, f3, fw, fij, g1, g2, g3, g4, g5, b3, b4, b5, b7, b8, b9, hn, ht, hpl, hsw, upi_get, upi_len, up_set1, vrows_get, vrows_len, vec_eq, ints_len, upv_len, upv_snoc, drawnRows_len]; (try ((repeat' apply And.intro) <;> intros <;> omega))) fun kr hr => ?_)
           | (with_reducible first | refine s_op fun K' hk => ?_ | refine t_op fun K' hk => ?_ | (refine hk _ ?_; clear hk K') | (refine ht _ ?_; clear ht hf KT KF) | (refine hf _ ?_; clear ht hf KT KF) | ((first | refine s_nil ?_ | refine t_nil ?_); refine hr _ ?_; clear hr kr))
           | ((with_reducible refine n_seqK [0, 1, 2, 3, 4, 5, 6, 7, 8, 9, 10, 11, 12, 16, 22, 23, 31, 32, 46, 50] [21, 22, 71, 72] ?_); simp only [mk_keep, keepL, List.mem_cons, List.not_mem_nil, Nat.reduceEqDiff, Nat.zero_ne_one, Nat.one_ne_zero, reduceCtorEq, or_false, false_or, or_true, true_or, or_self, eq_self, ↓reduceIte])
           | (with_reducible first | refine s_cond fun KT KF ht hf => ?_ | refine s_skip ?_)
           | ((with_reducible refine s_long ?_); simp only [List.cons_append, List.nil_append])
           | (with_reducible first | refine s_exit ?_ | refine s_ret ?_ | refine e_seq ?_ | refine r_seq ?_ | refine n_block ?_ | refine e_block ?_ | refine r_block ?_ | refine e_loop ?_ | refine r_loop ?_ | refine e_round ?_ | refine r_round ?_ | refine s_round ?_ | refine f_block ?_ (by decide) | refine r_res ?_ | refine n_res ?_)
           | (simp only [hgb, go_sem, Int.reduceToNat, ↓reduceIte, reduceCtorEq, Nat.reduceEqDiff, Nat.reduceAdd, Nat.reduceMul, Nat.reduceLT, Nat.reduceLeDiff, Nat.reduceBEq, Int.reduceBEq, Int.reduceBNe, String.reduceBEq, Int.reduceEq, Int.reduceLT, Int.reduceLE, Int.reduceGE, Int.reduceGT, f3, fw, fij, g1, g2, g3, g4, g5, b3, b4, b5, b7, b8, b9, hn, ht, hpl, hsw, upi_get, upi_len, up_set1, vrows_get, vrows_len, vec_eq, ints_len, upv_len, upv_snoc, drawnRows_len, callE, resSV, AV.flat, CV.flat, TV.flat]; clear hgb)
           | simp only [go_sem, Int.reduceToNat, ↓reduceIte, reduceCtorEq, Nat.reduceEqDiff, Nat.reduceAdd, Nat.reduceMul, Nat.reduceLT, Nat.reduceLeDiff, Nat.reduceBEq, Int.reduceBEq, Int.reduceBNe, String.reduceBEq, Int.reduceEq, Int.reduceLT, Int.reduceLE, Int.reduceGE, Int.reduceGT, f3, fw, fij, g1, g2, g3, g4, g5, b3, b4, b5, b7, b8, b9, hn, ht, hpl, hsw, upi_get, upi_len, up_set1, vrows_get, vrows_len, vec_eq, ints_len, upv_len, upv_snoc, drawnRows_len, callE, resSV, AV.flat, CV.flat, TV.flat, hAll]
           | refine Or.inl ⟨_, ⟨fun _ _ => rfl, b6⟩, ?_⟩
           | refine ⟨_, ⟨fun _ _ => rfl, b6⟩, ?_⟩
           | refine Or.inl ⟨_, ⟨fun _ _ => rfl, twin1_spec l[m] hv⟩, ?_⟩
           | refine ⟨_, ⟨fun _ _ => rfl, twin1_spec l[m] hv⟩, ?_⟩
           | (refine ite_guard (fun hg => ?_) (fun hg => ?_) <;> (try simp only [Bool.not_eq_true, Bool.not_eq_false, Decidable.not_not] at hg) <;> (first | have hgb : (_ : Bool) = _ := hg | have hgb := ff hg | have hgb := tt hg))
           | (refine ⟨fun hc => ht _ ?_, fun hc => hf _ ?_⟩ <;> clear ht hf KT KF)
           | fail)
          refine n_loop (i + 1) [0, 1, 2, 6, 7, 9, 10] [22, 72] ⟨?_, by omega⟩ (by omega)
          simp only [go_sem, Int.reduceToNat, ↓reduceIte, reduceCtorEq, Nat.reduceEqDiff, Nat.reduceAdd, Nat.reduceMul, Nat.reduceLT, Nat.reduceLeDiff, Nat.reduceBEq, Int.reduceBEq, Int.reduceBNe, String.reduceBEq, Int.reduceEq, Int.reduceLT, Int.reduceLE, Int.reduceGE, Int.reduceGT, mk_keep, keepL, List.mem_cons, List.not_mem_nil, Nat.reduceEqDiff, Nat.zero_ne_one, Nat.one_ne_zero, reduceCtorEq, or_false, false_or, or_true, true_or, or_self, eq_self, ↓reduceIte, drawnRows_succ, hpk, hs2, hq]
        · have hik : (min k l.length).toNat = i := by omega
          rw [show start l k seed = drawnRows l seed i from by rw [start, hik]; rfl]
          by_cases h1 : (i : Int) < k
          · have b9 := tt h1
            have b8 := ff (show ¬ (i : Int) < l.length by omega)
            repeat' (first
             | (with_reducible first | refine s_seq ?_ | refine s_block ?_ | refine s_region fun kr hr => ?_)
             | (with_reducible refine s_text tOk [21, 22, 71, 72, 1000, 1001, 1002, 1003] (by kernel_rfl) (by simp [HeapIn, namers, namerDst, namerOp, namedOp, namedFn, ownLoad, Blk.has, hasRows, hasL, CV.has, hasRows_up, hasM_up, hasRows_append, b9, b8, hn, ht, vrows_len, vecs_eq, upv_len, drawnRows_len]; (try ((repeat' apply And.intro) <;> intros <;> omega))) fun kr hr => ?_)
             | (with_reducible first | refine s_op fun K' hk => ?_ | refine t_op fun K' hk => ?_ | (refine hk _ ?_; clear hk K') | (refine ht _ ?_; clear ht hf KT KF) | (refine hf _ ?_; clear ht hf KT KF) | ((first | refine s_nil ?_ | refine t_nil ?_); refine hr _ ?_; clear hr kr))
             | ((with_reducible refine n_seqK [0, 1, 2, 3, 4, 5, 6, 7, 8, 9, 10, 11, 12, 16, 22, 23, 31, 32, 46, 50] [21, 22, 71, 72] ?_); simp only [mk_keep, keepL, List.mem_cons, List.not_mem_nil, Nat.reduceEqDiff, Nat.zero_ne_one, Nat.one_ne_zero, reduceCtorEq, or_false, false_or, or_true, true_or, or_self, eq_self, ↓reduceIte])
             | (with_reducible first | refine s_cond fun KT KF ht hf => ?_ | refine s_skip ?_)
             | ((with_reducible refine s_long ?_); simp only [List.cons_append, List.nil_append])
             | (with_reducible first | refine s_exit ?_ | refine s_ret ?_ | refine e_seq ?_ | refine r_seq ?_ | refine n_block ?_ | refine e_block ?_ | refine r_block ?_ | refine e_loop ?_ | refine r_loop ?_ | refine e_round ?_ | refine r_round ?_ | refine s_round ?_ | refine f_block ?_ (by decide) | refine r_res ?_ | refine n_res ?_)
             | (simp only [hgb, go_sem, Int.reduceToNat, ↓reduceIte, reduceCtorEq, Nat.reduceEqDiff, Nat.reduceAdd, Nat.reduceMul, Nat.reduceLT, Nat.reduceLeDiff, Nat.reduceBEq, Int.reduceBEq, Int.reduceBNe, String.reduceBEq, Int.reduceEq, Int.reduceLT, Int.reduceLE, Int.reduceGE, Int.reduceGT, b9, b8, hn, ht, vrows_len, vecs_eq, upv_len, drawnRows_len]; clear hgb)
             | simp only [go_sem, Int.reduceToNat, ↓reduceIte, reduceCtorEq, Nat.reduceEqDiff, Nat.reduceAdd, Nat.reduceMul, Nat.reduceLT, Nat.reduceLeDiff, Nat.reduceBEq, Int.reduceBEq, Int.reduceBNe, String.reduceBEq, Int.reduceEq, Int.reduceLT, Int.reduceLE, Int.reduceGE, Int.reduceGT, b9, b8, hn, ht, vrows_len, vecs_eq, upv_len, drawnRows_len, hAll]
             | (refine ite_guard (fun hg => ?_) (fun hg => ?_) <;> (try simp only [Bool.not_eq_true, Bool.not_eq_false, Decidable.not_not] at hg) <;> (first | have hgb : (_ : Bool) = _ := hg | have hgb := ff hg | have hgb := tt hg))
             | (refine ⟨fun hc => ht _ ?_, fun hc => hf _ ?_⟩ <;> clear ht hf KT KF)
             | fail)
          · have b9 := ff h1
            repeat' (first
             | (with_reducible first | refine s_seq ?_ | refine s_block ?_ | refine s_region fun kr hr => ?_)
             | (with_reducible refine s_text tOk [21, 22, 71, 72, 1000, 1001, 1002, 1003] (by kernel_rfl) (by simp [HeapIn, namers, namerDst, namerOp, namedOp, namedFn, ownLoad, Blk.has, hasRows, hasL, CV.has, hasRows_up, hasM_up, hasRows_append, b9, hn, ht, vrows_len, vecs_eq, upv_len, drawnRows_len]; (try ((repeat' apply And.intro) <;> intros <;> omega))) fun kr hr => ?_)
             | (with_reducible first | refine s_op fun K' hk => ?_ | refine t_op fun K' hk => ?_ | (refine hk _ ?_; clear hk K') | (refine ht _ ?_; clear ht hf KT KF) | (refine hf _ ?_; clear ht hf KT KF) | ((first | refine s_nil ?_ | refine t_nil ?_); refine hr _ ?_; clear hr kr))
             | ((with_reducible refine n_seqK [0, 1, 2, 3, 4, 5, 6, 7, 8, 9, 10, 11, 12, 16, 22, 23, 31, 32, 46, 50] [21, 22, 71, 72] ?_); simp only [mk_keep, keepL, List.mem_cons, List.not_mem_nil, Nat.reduceEqDiff, Nat.zero_ne_one, Nat.one_ne_zero, reduceCtorEq, or_false, false_or, or_true, true_or, or_self, eq_self, ↓reduceIte])
             | (with_reducible first | refine s_cond fun KT KF ht hf => ?_ | refine s_skip ?_)
             | ((with_reducible refine s_long ?_); simp only [List.cons_append, List.nil_append])
             | (with_reducible first | refine s_exit ?_ | refine s_ret ?_ | refine e_seq ?_ | refine r_seq ?_ | refine n_block ?_ | refine e_block ?_ | refine r_block ?_ | refine e_loop ?_ | refine r_loop ?_ | refine e_round ?_ | refine r_round ?_ | refine s_round ?_ | refine f_block ?_ (by decide) | refine r_res ?_ | refine n_res ?_)
             | (simp only [hgb, go_sem, Int.reduceToNat, ↓reduceIte, reduceCtorEq, Nat.reduceEqDiff, Nat.reduceAdd, Nat.reduceMul, Nat.reduceLT, Nat.reduceLeDiff, Nat.reduceBEq, Int.reduceBEq, Int.reduceBNe, String.reduceBEq, Int.reduceEq, Int.reduceLT, Int.reduceLE, Int.reduceGE, Int.reduceGT, b9, hn, ht, vrows_len, vecs_eq, upv_len, drawnRows_len]; clear hgb)
             | simp only [go_sem, Int.reduceToNat, ↓reduceIte, reduceCtorEq, Nat.reduceEqDiff, Nat.reduceAdd, Nat.reduceMul, Nat.reduceLT, Nat.reduceLeDiff, Nat.reduceBEq, Int.reduceBEq, Int.reduceBNe, String.reduceBEq, Int.reduceEq, Int.reduceLT, Int.reduceLE, Int.reduceGE, Int.reduceGT, b9, hn, ht, vrows_len, vecs_eq, upv_len, drawnRows_len, hAll]
             | (refine ite_guard (fun hg => ?_) (fun hg => ?_) <;> (try simp only [Bool.not_eq_true, Bool.not_eq_false, Decidable.not_not] at hg) <;> (first | have hgb : (_ : Bool) = _ := hg | have hgb := ff hg | have hgb := tt hg))
             | (refine ⟨fun hc => ht _ ?_, fun hc => hf _ ?_⟩ <;> clear ht hf KT KF)
             | fail)
end Go.Proofs.Ytlnilonlaedafaa.Fx
