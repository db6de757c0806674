/- The document's quantizer: learnt part by part. -/
import Derived.Test.YtlnilonlaedafaaFxProd
import Derived.Test.YtlnilonlaedafaaFxRen
namespace Go.Proofs.Ytlnilonlaedafaa.Fx
open Go Go.RowKit
set_option maxRecDepth 100000
set_option linter.unusedSimpArgs false
set_option linter.unusedVariables false
def piece (w i : Nat) (v : List Int) : List Int := (v.drop (i * w)).take w
def pieces (w i : Nat) (l : List (List Int)) : List (List Int) := l.map (piece w i)
def partOf (l : List (List Int)) (w : Nat) (k rounds seed : Int) (i : Nat) : List (List Int) := train (pieces w i l) k rounds (IntKind.wrap .u64 (seed + IntKind.wrap .u64 (i : Int)))
def parts (l : List (List Int)) (w : Nat) (k rounds seed : Int) (n : Nat) : List (List (List Int)) := (List.range n).map (partOf l w k rounds seed)
def prows (q : List (List (List Int))) : List (List TV) := q.map fun c => [vecs c]
theorem prows_len (q : List (List (List Int))) : (prows q).length = q.length := by simp [prows]
theorem parts_len (l : List (List Int)) (w : Nat) (k rounds seed : Int) (n : Nat) : (parts l w k rounds seed n).length = n := by simp [parts]
theorem parts_succ (l : List (List Int)) (w : Nat) (k rounds seed : Int) (n : Nat) : parts l w k rounds seed (n + 1) = parts l w k rounds seed n ++ [partOf l w k rounds seed n] := by simp [parts, List.range_succ]
theorem pieces_succ {l : List (List Int)} {w i j : Nat} (h : j < l.length) : pieces w i (l.take (j + 1)) = pieces w i (l.take j) ++ [piece w i l[j]] := by
  rw [pieces, List.take_succ_eq_append_getElem h, List.map_append]; rfl
theorem pieces_len (w i : Nat) (l : List (List Int)) : (pieces w i l).length = l.length := by simp [pieces]
theorem upv_snoc1 (l : List (List Int)) (v : List Int) : up (vrows l) ++ [[CV.t (.sl 1 (ints v))]] = up (vrows (l ++ [v])) := by simp [up, vrows, vec_eq]
theorem upp_snoc (q : List (List (List Int))) (c : List (List Int)) : up (prows q) ++ [[CV.t (.sl 1 (vrows c))]] = up (prows (q ++ [c])) := by simp [up, prows, vecs_eq]
def okHow (d p : Nat) (k : Int) : Bool := decide (d % p = 0) && decide (1 ≤ k) && decide (k ≤ 256)
set_option maxHeartbeats 8000000 in
theorem rptrain_no (l : List (List Int)) (p k rounds seed : Int) (hl : SizedAll l) (hno : okRows l = false) : Spec Try.prog 40 [.v (.t (vecs l)), .v (.t (.int .i64 p)), .v (.t (.int .i64 k)), .v (.t (.int .i64 rounds)), .v (.t (.int .u64 seed))] [] [.agg [.t (.sl 1 [])], .v (.t (.int .i64 170))] [] := by
  have q1 := rows17_spec l hl
  rw [hno] at q1
  rw [vecs_eq] at q1
  refine spec_by Try.func40 rfl mixed tOk evOk (n := 93) rfl (by simp) (by simp) ?_
  rw [initSt_mk, show Try.f40.results.toList = [.cell 10 45, .tmp 11] from rfl]
  simp only [initL, AV.sv, List.map_cons, List.map_nil, Nat.reduceAdd, Nat.zero_add, vecs_eq]
  repeat' (first
   | (with_reducible first | refine s_seq ?_ | refine s_block ?_ | refine s_region fun kr hr => ?_)
   | (with_reducible refine s_text tOk [10, 13, 73, 74, 89, 90, 1000, 1001, 1002, 1003] (by kernel_rfl) (by simp [HeapIn, namers, namerDst, namerOp, namedOp, namedFn, ownLoad, Blk.has, hasRows, hasL, CV.has, hasRows_up, hasM_up, hasRows_append]; (try ((repeat' apply And.intro) <;> intros <;> omega))) fun kr hr => ?_)
   | (with_reducible first | refine s_op fun K' hk => ?_ | refine t_op fun K' hk => ?_ | (refine hk _ ?_; clear hk K') | (refine ht _ ?_; clear ht hf KT KF) | (refine hf _ ?_; clear ht hf KT KF) | ((first | refine s_nil ?_ | refine t_nil ?_); refine hr _ ?_; clear hr kr))
   | ((with_reducible refine n_seqK [0, 1, 2, 3, 4, 5, 6, 7, 8, 9, 10, 11, 12, 13, 14, 15, 16, 17, 18, 21, 22, 23, 32, 41, 43, 45, 51, 57, 60] [10, 13, 73, 74, 89, 90] ?_); simp only [mk_keep, keepL, List.mem_cons, List.not_mem_nil, Nat.reduceEqDiff, Nat.zero_ne_one, Nat.one_ne_zero, reduceCtorEq, or_false, false_or, or_true, true_or, or_self, eq_self, ↓reduceIte])
   | (with_reducible first | refine s_cond fun KT KF ht hf => ?_ | refine s_skip ?_)
   | ((with_reducible refine s_long ?_); simp only [List.cons_append, List.nil_append])
   | (with_reducible first | refine s_exit ?_ | refine s_ret ?_ | refine e_seq ?_ | refine r_seq ?_ | refine n_block ?_ | refine e_block ?_ | refine r_block ?_ | refine e_loop ?_ | refine r_loop ?_ | refine e_round ?_ | refine r_round ?_ | refine s_round ?_ | refine f_block ?_ (by decide) | refine r_res ?_ | refine n_res ?_)
   | (simp only [hgb, go_sem, Int.reduceToNat, ↓reduceIte, reduceCtorEq, Nat.reduceEqDiff, Nat.reduceAdd, Nat.reduceMul, Nat.reduceLT, Nat.reduceLeDiff, Nat.reduceBEq, Int.reduceBEq, Int.reduceBNe, String.reduceBEq, Int.reduceEq, Int.reduceLT, Int.reduceLE, Int.reduceGE, Int.reduceGT, callE, resSV, AV.flat, CV.flat, TV.flat]; clear hgb)
   | simp only [go_sem, Int.reduceToNat, ↓reduceIte, reduceCtorEq, Nat.reduceEqDiff, Nat.reduceAdd, Nat.reduceMul, Nat.reduceLT, Nat.reduceLeDiff, Nat.reduceBEq, Int.reduceBEq, Int.reduceBNe, String.reduceBEq, Int.reduceEq, Int.reduceLT, Int.reduceLE, Int.reduceGE, Int.reduceGT, callE, resSV, AV.flat, CV.flat, TV.flat, hAll]
   | refine Or.inl ⟨_, ⟨fun _ _ => rfl, q1⟩, ?_⟩
   | refine ⟨_, ⟨fun _ _ => rfl, q1⟩, ?_⟩
   | (refine ite_guard (fun hg => ?_) (fun hg => ?_) <;> (try simp only [Bool.not_eq_true, Bool.not_eq_false, Decidable.not_not] at hg) <;> (first | have hgb : (_ : Bool) = _ := hg | have hgb := ff hg | have hgb := tt hg))
   | (refine ⟨fun hc => ht _ ?_, fun hc => hf _ ?_⟩ <;> clear ht hf KT KF)
   | fail)
set_option maxHeartbeats 16000000 in
theorem rptrain_bad (l : List (List Int)) (p k rounds seed : Int) (hl : SizedAll l) (hok : okRows l = true) (hbad : ¬ (1 ≤ p ∧ ((hd l).length : Int).tmod p = 0 ∧ 1 ≤ k ∧ k ≤ 256)) : Spec Try.prog 40 [.v (.t (vecs l)), .v (.t (.int .i64 p)), .v (.t (.int .i64 k)), .v (.t (.int .i64 rounds)), .v (.t (.int .u64 seed))] [] [.agg [.t (.sl 1 [])], .v (.t (.int .i64 190))] [] := by
  have q1 := rows17_spec l hl
  rw [hok] at q1
  rw [vecs_eq] at q1
  have h0 : 0 < l.length := by simp [okRows] at hok; omega
  have f0 : (vrows l)[0]? = some [vec (hd l)] := by rw [vrows_get, get_of_lt (by omega), head_get (by omega)]; rfl
  have f4 := tt h0
  have f5 := tt (show (0 : Int) < l.length by omega)
  generalize hd l = h9 at *
  by_cases h1 : p < 1
  · have g1 := tt h1
    refine spec_by Try.func40 rfl mixed tOk evOk (n := 93) rfl (by simp) (by simp) ?_
    rw [initSt_mk, show Try.f40.results.toList = [.cell 10 45, .tmp 11] from rfl]
    simp only [initL, AV.sv, List.map_cons, List.map_nil, Nat.reduceAdd, Nat.zero_add, vecs_eq]
    repeat' (first
     | (with_reducible first | refine s_seq ?_ | refine s_block ?_ | refine s_region fun kr hr => ?_)
     | (with_reducible refine s_text tOk [10, 13, 73, 74, 89, 90, 1000, 1001, 1002, 1003] (by kernel_rfl) (by simp [HeapIn, namers, namerDst, namerOp, namedOp, namedFn, ownLoad, Blk.has, hasRows, hasL, CV.has, hasRows_up, hasM_up, hasRows_append, f0, f4, f5, g1, vrows_len, vec_eq, ints_len]; (try ((repeat' apply And.intro) <;> intros <;> omega))) fun kr hr => ?_)
     | (with_reducible first | refine s_op fun K' hk => ?_ | refine t_op fun K' hk => ?_ | (refine hk _ ?_; clear hk K') | (refine ht _ ?_; clear ht hf KT KF) | (refine hf _ ?_; clear ht hf KT KF) | ((first | refine s_nil ?_ | refine t_nil ?_); refine hr _ ?_; clear hr kr))
     | ((with_reducible refine n_seqK [0, 1, 2, 3, 4, 5, 6, 7, 8, 9, 10, 11, 12, 13, 14, 15, 16, 17, 18, 21, 22, 23, 32, 41, 43, 45, 51, 57, 60] [10, 13, 73, 74, 89, 90] ?_); simp only [mk_keep, keepL, List.mem_cons, List.not_mem_nil, Nat.reduceEqDiff, Nat.zero_ne_one, Nat.one_ne_zero, reduceCtorEq, or_false, false_or, or_true, true_or, or_self, eq_self, ↓reduceIte])
     | (with_reducible first | refine s_cond fun KT KF ht hf => ?_ | refine s_skip ?_)
     | ((with_reducible refine s_long ?_); simp only [List.cons_append, List.nil_append])
     | (with_reducible first | refine s_exit ?_ | refine s_ret ?_ | refine e_seq ?_ | refine r_seq ?_ | refine n_block ?_ | refine e_block ?_ | refine r_block ?_ | refine e_loop ?_ | refine r_loop ?_ | refine e_round ?_ | refine r_round ?_ | refine s_round ?_ | refine f_block ?_ (by decide) | refine r_res ?_ | refine n_res ?_)
     | (simp only [hgb, go_sem, Int.reduceToNat, ↓reduceIte, reduceCtorEq, Nat.reduceEqDiff, Nat.reduceAdd, Nat.reduceMul, Nat.reduceLT, Nat.reduceLeDiff, Nat.reduceBEq, Int.reduceBEq, Int.reduceBNe, String.reduceBEq, Int.reduceEq, Int.reduceLT, Int.reduceLE, Int.reduceGE, Int.reduceGT, f0, f4, f5, g1, vrows_len, vec_eq, ints_len, callE, resSV, AV.flat, CV.flat, TV.flat]; clear hgb)
     | simp only [go_sem, Int.reduceToNat, ↓reduceIte, reduceCtorEq, Nat.reduceEqDiff, Nat.reduceAdd, Nat.reduceMul, Nat.reduceLT, Nat.reduceLeDiff, Nat.reduceBEq, Int.reduceBEq, Int.reduceBNe, String.reduceBEq, Int.reduceEq, Int.reduceLT, Int.reduceLE, Int.reduceGE, Int.reduceGT, f0, f4, f5, g1, vrows_len, vec_eq, ints_len, callE, resSV, AV.flat, CV.flat, TV.flat, hAll]
     | refine Or.inl ⟨_, ⟨fun _ _ => rfl, q1⟩, ?_⟩
     | refine ⟨_, ⟨fun _ _ => rfl, q1⟩, ?_⟩
     | (refine ite_guard (fun hg => ?_) (fun hg => ?_) <;> (try simp only [Bool.not_eq_true, Bool.not_eq_false, Decidable.not_not] at hg) <;> (first | have hgb : (_ : Bool) = _ := hg | have hgb := ff hg | have hgb := tt hg))
     | (refine ⟨fun hc => ht _ ?_, fun hc => hf _ ?_⟩ <;> clear ht hf KT KF)
     | fail)
  · have g1 := ff h1
    have g6 := ff (show ¬ p = 0 by omega)
    by_cases h2 : ((h9.length : Int)).tmod p = 0
    · have g2 := tt h2
      by_cases h3 : k < 1
      · have g3 := tt h3
        refine spec_by Try.func40 rfl mixed tOk evOk (n := 93) rfl (by simp) (by simp) ?_
        rw [initSt_mk, show Try.f40.results.toList = [.cell 10 45, .tmp 11] from rfl]
        simp only [initL, AV.sv, List.map_cons, List.map_nil, Nat.reduceAdd, Nat.zero_add, vecs_eq]
        repeat' (first
         | (with_reducible first | refine s_seq ?_ | refine s_block ?_ | refine s_region fun kr hr => ?_)
         | (with_reducible refine s_text tOk [10, 13, 73, 74, 89, 90, 1000, 1001, 1002, 1003] (by kernel_rfl) (by simp [HeapIn, namers, namerDst, namerOp, namedOp, namedFn, ownLoad, Blk.has, hasRows, hasL, CV.has, hasRows_up, hasM_up, hasRows_append, f0, f4, f5, g1, g2, g3, g6, vrows_len, vec_eq, ints_len]; (try ((repeat' apply And.intro) <;> intros <;> omega))) fun kr hr => ?_)
         | (with_reducible first | refine s_op fun K' hk => ?_ | refine t_op fun K' hk => ?_ | (refine hk _ ?_; clear hk K') | (refine ht _ ?_; clear ht hf KT KF) | (refine hf _ ?_; clear ht hf KT KF) | ((first | refine s_nil ?_ | refine t_nil ?_); refine hr _ ?_; clear hr kr))
         | ((with_reducible refine n_seqK [0, 1, 2, 3, 4, 5, 6, 7, 8, 9, 10, 11, 12, 13, 14, 15, 16, 17, 18, 21, 22, 23, 32, 41, 43, 45, 51, 57, 60] [10, 13, 73, 74, 89, 90] ?_); simp only [mk_keep, keepL, List.mem_cons, List.not_mem_nil, Nat.reduceEqDiff, Nat.zero_ne_one, Nat.one_ne_zero, reduceCtorEq, or_false, false_or, or_true, true_or, or_self, eq_self, ↓reduceIte])
         | (with_reducible first | refine s_cond fun KT KF ht hf => ?_ | refine s_skip ?_)
         | ((with_reducible refine s_long ?_); simp only [List.cons_append, List.nil_append])
         | (with_reducible first | refine s_exit ?_ | refine s_ret ?_ | refine e_seq ?_ | refine r_seq ?_ | refine n_block ?_ | refine e_block ?_ | refine r_block ?_ | refine e_loop ?_ | refine r_loop ?_ | refine e_round ?_ | refine r_round ?_ | refine s_round ?_ | refine f_block ?_ (by decide) | refine r_res ?_ | refine n_res ?_)
         | (simp only [hgb, go_sem, Int.reduceToNat, ↓reduceIte, reduceCtorEq, Nat.reduceEqDiff, Nat.reduceAdd, Nat.reduceMul, Nat.reduceLT, Nat.reduceLeDiff, Nat.reduceBEq, Int.reduceBEq, Int.reduceBNe, String.reduceBEq, Int.reduceEq, Int.reduceLT, Int.reduceLE, Int.reduceGE, Int.reduceGT, f0, f4, f5, g1, g2, g3, g6, vrows_len, vec_eq, ints_len, callE, resSV, AV.flat, CV.flat, TV.flat]; clear hgb)
         | simp only [go_sem, Int.reduceToNat, ↓reduceIte, reduceCtorEq, Nat.reduceEqDiff, Nat.reduceAdd, Nat.reduceMul, Nat.reduceLT, Nat.reduceLeDiff, Nat.reduceBEq, Int.reduceBEq, Int.reduceBNe, String.reduceBEq, Int.reduceEq, Int.reduceLT, Int.reduceLE, Int.reduceGE, Int.reduceGT, f0, f4, f5, g1, g2, g3, g6, vrows_len, vec_eq, ints_len, callE, resSV, AV.flat, CV.flat, TV.flat, hAll]
         | refine Or.inl ⟨_, ⟨fun _ _ => rfl, q1⟩, ?_⟩
         | refine ⟨_, ⟨fun _ _ => rfl, q1⟩, ?_⟩
         | (refine ite_guard (fun hg => ?_) (fun hg => ?_) <;> (try simp only [Bool.not_eq_true, Bool.not_eq_false, Decidable.not_not] at hg) <;> (first | have hgb : (_ : Bool) = _ := hg | have hgb := ff hg | have hgb := tt hg))
         | (refine ⟨fun hc => ht _ ?_, fun hc => hf _ ?_⟩ <;> clear ht hf KT KF)
         | fail)
      · have g3 := ff h3
        have g4 := tt (show 256 < k by omega)
        refine spec_by Try.func40 rfl mixed tOk evOk (n := 93) rfl (by simp) (by simp) ?_
        rw [initSt_mk, show Try.f40.results.toList = [.cell 10 45, .tmp 11] from rfl]
        simp only [initL, AV.sv, List.map_cons, List.map_nil, Nat.reduceAdd, Nat.zero_add, vecs_eq]
        repeat' (first
         | (with_reducible first | refine s_seq ?_ | refine s_block ?_ | refine s_region fun kr hr => ?_)
         | (with_reducible refine s_text tOk [10, 13, 73, 74, 89, 90, 1000, 1001, 1002, 1003] (by kernel_rfl) (by simp [HeapIn, namers, namerDst, namerOp, namedOp, namedFn, ownLoad, Blk.has, hasRows, hasL, CV.has, hasRows_up, hasM_up, hasRows_append, f0, f4, f5, g1, g2, g3, g4, g6, gt_iff_lt, vrows_len, vec_eq, ints_len]; (try ((repeat' apply And.intro) <;> intros <;> omega))) fun kr hr => ?_)
         | (with_reducible first | refine s_op fun K' hk => ?_ | refine t_op fun K' hk => ?_ | (refine hk _ ?_; clear hk K') | (refine ht _ ?_; clear ht hf KT KF) | (refine hf _ ?_; clear ht hf KT KF) | ((first | refine s_nil ?_ | refine t_nil ?_); refine hr _ ?_; clear hr kr))
         | ((with_reducible refine n_seqK [0, 1, 2, 3, 4, 5, 6, 7, 8, 9, 10, 11, 12, 13, 14, 15, 16, 17, 18, 21, 22, 23, 32, 41, 43, 45, 51, 57, 60] [10, 13, 73, 74, 89, 90] ?_); simp only [mk_keep, keepL, List.mem_cons, List.not_mem_nil, Nat.reduceEqDiff, Nat.zero_ne_one, Nat.one_ne_zero, reduceCtorEq, or_false, false_or, or_true, true_or, or_self, eq_self, ↓reduceIte])
         | (with_reducible first | refine s_cond fun KT KF ht hf => ?_ | refine s_skip ?_)
         | ((with_reducible refine s_long ?_); simp only [List.cons_append, List.nil_append])
         | (with_reducible first | refine s_exit ?_ | refine s_ret ?_ | refine e_seq ?_ | refine r_seq ?_ | refine n_block ?_ | refine e_block ?_ | refine r_block ?_ | refine e_loop ?_ | refine r_loop ?_ | refine e_round ?_ | refine r_round ?_ | refine s_round ?_ | refine f_block ?_ (by decide) | refine r_res ?_ | refine n_res ?_)
         | (simp only [hgb, go_sem, Int.reduceToNat, ↓reduceIte, reduceCtorEq, Nat.reduceEqDiff, Nat.reduceAdd, Nat.reduceMul, Nat.reduceLT, Nat.reduceLeDiff, Nat.reduceBEq, Int.reduceBEq, Int.reduceBNe, String.reduceBEq, Int.reduceEq, Int.reduceLT, Int.reduceLE, Int.reduceGE, Int.reduceGT, f0, f4, f5, g1, g2, g3, g4, g6, gt_iff_lt, vrows_len, vec_eq, ints_len, callE, resSV, AV.flat, CV.flat, TV.flat]; clear hgb)
         | simp only [go_sem, Int.reduceToNat, ↓reduceIte, reduceCtorEq, Nat.reduceEqDiff, Nat.reduceAdd, Nat.reduceMul, Nat.reduceLT, Nat.reduceLeDiff, Nat.reduceBEq, Int.reduceBEq, Int.reduceBNe, String.reduceBEq, Int.reduceEq, Int.reduceLT, Int.reduceLE, Int.reduceGE, Int.reduceGT, f0, f4, f5, g1, g2, g3, g4, g6, gt_iff_lt, vrows_len, vec_eq, ints_len, callE, resSV, AV.flat, CV.flat, TV.flat, hAll]
         | refine Or.inl ⟨_, ⟨fun _ _ => rfl, q1⟩, ?_⟩
         | refine ⟨_, ⟨fun _ _ => rfl, q1⟩, ?_⟩
         | (refine ite_guard (fun hg => ?_) (fun hg => ?_) <;> (try simp only [Bool.not_eq_true, Bool.not_eq_false, Decidable.not_not] at hg) <;> (first | have hgb : (_ : Bool) = _ := hg | have hgb := ff hg | have hgb := tt hg))
         | (refine ⟨fun hc => ht _ ?_, fun hc => hf _ ?_⟩ <;> clear ht hf KT KF)
         | fail)
    · have g2 := ff h2
      refine spec_by Try.func40 rfl mixed tOk evOk (n := 93) rfl (by simp) (by simp) ?_
      rw [initSt_mk, show Try.f40.results.toList = [.cell 10 45, .tmp 11] from rfl]
      simp only [initL, AV.sv, List.map_cons, List.map_nil, Nat.reduceAdd, Nat.zero_add, vecs_eq]
      repeat' (first
       | (with_reducible first | refine s_seq ?_ | refine s_block ?_ | refine s_region fun kr hr => ?_)
       | (with_reducible refine s_text tOk [10, 13, 73, 74, 89, 90, 1000, 1001, 1002, 1003] (by kernel_rfl) (by simp [HeapIn, namers, namerDst, namerOp, namedOp, namedFn, ownLoad, Blk.has, hasRows, hasL, CV.has, hasRows_up, hasM_up, hasRows_append, f0, f4, f5, g1, g2, g6, vrows_len, vec_eq, ints_len]; (try ((repeat' apply And.intro) <;> intros <;> omega))) fun kr hr => ?_)
       | (with_reducible first | refine s_op fun K' hk => ?_ | refine t_op fun K' hk => ?_ | (refine hk _ ?_; clear hk K') | (refine ht _ ?_; clear ht hf KT KF) | (refine hf _ ?_; clear ht hf KT KF) | ((first | refine s_nil ?_ | refine t_nil ?_); refine hr _ ?_; clear hr kr))
       | ((with_reducible refine n_seqK [0, 1, 2, 3, 4, 5, 6, 7, 8, 9, 10, 11, 12, 13, 14, 15, 16, 17, 18, 21, 22, 23, 32, 41, 43, 45, 51, 57, 60] [10, 13, 73, 74, 89, 90] ?_); simp only [mk_keep, keepL, List.mem_cons, List.not_mem_nil, Nat.reduceEqDiff, Nat.zero_ne_one, Nat.one_ne_zero, reduceCtorEq, or_false, false_or, or_true, true_or, or_self, eq_self, ↓reduceIte])
       | (with_reducible first | refine s_cond fun KT KF ht hf => ?_ | refine s_skip ?_)
       | ((with_reducible refine s_long ?_); simp only [List.cons_append, List.nil_append])
       | (with_reducible first | refine s_exit ?_ | refine s_ret ?_ | refine e_seq ?_ | refine r_seq ?_ | refine n_block ?_ | refine e_block ?_ | refine r_block ?_ | refine e_loop ?_ | refine r_loop ?_ | refine e_round ?_ | refine r_round ?_ | refine s_round ?_ | refine f_block ?_ (by decide) | refine r_res ?_ | refine n_res ?_)
       | (simp only [hgb, go_sem, Int.reduceToNat, ↓reduceIte, reduceCtorEq, Nat.reduceEqDiff, Nat.reduceAdd, Nat.reduceMul, Nat.reduceLT, Nat.reduceLeDiff, Nat.reduceBEq, Int.reduceBEq, Int.reduceBNe, String.reduceBEq, Int.reduceEq, Int.reduceLT, Int.reduceLE, Int.reduceGE, Int.reduceGT, f0, f4, f5, g1, g2, g6, vrows_len, vec_eq, ints_len, callE, resSV, AV.flat, CV.flat, TV.flat]; clear hgb)
       | simp only [go_sem, Int.reduceToNat, ↓reduceIte, reduceCtorEq, Nat.reduceEqDiff, Nat.reduceAdd, Nat.reduceMul, Nat.reduceLT, Nat.reduceLeDiff, Nat.reduceBEq, Int.reduceBEq, Int.reduceBNe, String.reduceBEq, Int.reduceEq, Int.reduceLT, Int.reduceLE, Int.reduceGE, Int.reduceGT, f0, f4, f5, g1, g2, g6, vrows_len, vec_eq, ints_len, callE, resSV, AV.flat, CV.flat, TV.flat, hAll]
       | refine Or.inl ⟨_, ⟨fun _ _ => rfl, q1⟩, ?_⟩
       | refine ⟨_, ⟨fun _ _ => rfl, q1⟩, ?_⟩
       | (refine ite_guard (fun hg => ?_) (fun hg => ?_) <;> (try simp only [Bool.not_eq_true, Bool.not_eq_false, Decidable.not_not] at hg) <;> (first | have hgb : (_ : Bool) = _ := hg | have hgb := ff hg | have hgb := tt hg))
       | (refine ⟨fun hc => ht _ ?_, fun hc => hf _ ?_⟩ <;> clear ht hf KT KF)
       | fail)
theorem piece_drop {w i : Nat} (v : List Int) : List.drop (i * w) (List.take ((i + 1) * w) (ints v)) = ints (piece w i v) := by
  have e : (i + 1) * w - i * w = w := by rw [Nat.succ_mul]; omega
  rw [List.drop_take, e]; simp [piece, ints, List.map_take, List.map_drop]
theorem pieces_sized {l : List (List Int)} {w i : Nat} (h : l.length ≤ 5864062014634) (hw : w ≤ 64) : SizedAll (pieces w i l) := by
  refine ⟨by rw [pieces_len]; exact h, fun v hv => ?_⟩
  obtain ⟨u, _, rfl⟩ := List.mem_map.1 hv
  have : (piece w i u).length ≤ w := by simp [piece]; omega
  exact Nat.le_trans (Nat.le_trans this hw) (by decide)
/-- A struct of one named list, and a number: the list as a tree. -/
theorem Spec.treeA2 {P : Program} {f : FuncId} {args : List AV} {nm sz : Nat} {rows : List (List CV)} {trows : List (List TV)} {x : TV} (hs : Spec P f args [] [.agg [.mr nm 0 rows.length], .v (.t x)] [(nm, .cells sz rows)]) (ht : viewRows rows = some trows) : Spec P f args [] [.agg [.t (.sl sz trows)], .v (.t x)] [] := fun w G vals ha hn hz =>
  (hs w G vals ha hn hz).mono fun e w' ⟨v, G1, he, hr, hN, hm, _, hk, ho, hz'⟩ => by
    obtain ⟨us, hu, hr1⟩ := hr
    match us, hr1 with
    | [u1, u2], hr1 =>
      obtain ⟨q1, q2, _⟩ := hr1
      cases q2 with
      | t q2 =>
      obtain ⟨vs, rfl, q1⟩ := q1
      match vs, q1 with
      | [c1], q1 =>
      obtain ⟨q1, _⟩ := q1
      obtain ⟨G2, h1, h2, h3, h4⟩ := tree_of (v := c1) q1 hN hz' ht q2
      refine ⟨v, G2, he, ⟨_, hu, ⟨[c1], rfl, .t h1, trivial⟩, .t h2, trivial⟩, ⟨fun _ _ h => by simp [hGet] at h, fun _ _ _ h => by simp [hGet] at h, fun _ _ _ _ _ h => by simp [hGet] at h⟩, fun _ _ _ h => by simp [hGet] at h, fun _ _ _ h => by simp [hGet] at h, hk, fun b hb hm' => ?_, h4⟩
      rw [h3 b (fun h => by
        rcases hm nm (.cells sz rows) b (by simp [hGet]) h with h | h
        · exact hm' h
        · omega)]
      exact ho b hb hm'
set_option maxHeartbeats 16000000 in
theorem rptrain_named (l : List (List Int)) (n w : Nat) (k rounds seed : Int) (hl : SizedAll l) (hb : l.length + l.length ≤ 5864062014634) (hok : okRows l = true) (n1 : 1 ≤ n) (hw : n * w = (hd l).length) (k1 : 1 ≤ k) (k2 : k ≤ 256) (hr0 : -9223372036854775808 ≤ rounds ∧ rounds ≤ 9223372036854775807) :
    Spec Try.prog 40 [.v (.t (vecs l)), .v (.t (.int .i64 n)), .v (.t (.int .i64 k)), .v (.t (.int .i64 rounds)), .v (.t (.int .u64 seed))] [] [.agg [.mr 91 0 n], .v (.t (.int .i64 0))] [(91, .cells 1 (up (prows (parts l w k rounds seed n))))] := by
  have q1 := rows17_spec l hl
  rw [hok] at q1
  rw [vecs_eq] at q1
  have h0 : 0 < l.length := by simp [okRows] at hok; omega
  have f0 : (vrows l)[0]? = some [vec (hd l)] := by rw [vrows_get, get_of_lt (by omega), head_get (by omega)]; rfl
  have hall : ∀ v ∈ l, v.length = (hd l).length ∧ v.length ≤ 64 ∧ 1 ≤ v.length := by
    intro v hv
    simp only [okRows, Bool.and_eq_true, List.all_eq_true] at hok
    have := hok.1 v hv
    simp only [okRow, may, Bool.and_eq_true, decide_eq_true_eq] at this
    omega
  have hh := hall (hd l) (by rw [← head_get h0]; exact List.getElem_mem h0)
  have f4 := tt h0
  have f5 := tt (show (0 : Int) < l.length by omega)
  generalize hd l = h9 at *
  have hw64 : w ≤ 64 := by
    have := Nat.le_mul_of_pos_left w (show 0 < n by omega)
    omega
  have hn64 : n ≤ 64 := by
    have hw0 : 0 < w := by
      rcases Nat.eq_zero_or_pos w with e | e
      · subst e; simp at hw; omega
      · exact e
    have := Nat.le_mul_of_pos_right n hw0
    omega
  have g1 := ff (show ¬ (n : Int) < 1 by omega)
  have g6 := ff (show ¬ (n : Int) = 0 by omega)
  have g2 : ((h9.length : Nat) : Int).tmod (n : Int) = 0 := by
    rw [← hw, Int.natCast_mul]; exact Int.mul_tmod_right _ _
  have g7 : ((h9.length : Nat) : Int).tdiv (n : Int) = (w : Int) := by
    rw [← hw, Int.natCast_mul]; exact Int.mul_tdiv_cancel_left _ (by omega)
  have g8 : IntKind.wrap .i64 (w : Int) = (w : Int) := wI (by omega) (by omega)
  have g3 := ff (show ¬ k < 1 by omega)
  have g4 := ff (show ¬ 256 < k by omega)
  refine spec_by Try.func40 rfl mixed tOk evOk (n := 93) rfl (by simp) (by simp) ?_
  rw [initSt_mk, show Try.f40.results.toList = [.cell 10 45, .tmp 11] from rfl]
  simp only [initL, AV.sv, List.map_cons, List.map_nil, Nat.reduceAdd, Nat.zero_add, vecs_eq]
  repeat' (first
   | (with_reducible first | refine s_seq ?_ | refine s_block ?_ | refine s_region fun kr hr => ?_)
   | (with_reducible refine s_text tOk [10, 13, 73, 74, 89, 90, 91, 1000, 1001, 1002, 1003] (by kernel_rfl) (by simp [HeapIn, namers, namerDst, namerOp, namedOp, namedFn, ownLoad, Blk.has, hasRows, hasL, CV.has, hasRows_up, hasM_up, hasRows_append, f0, f4, f5, g1, g2, g3, g4, g6, g7, g8, gt_iff_lt, vrows_len, vec_eq, ints_len]; (try ((repeat' apply And.intro) <;> intros <;> omega))) fun kr hr => ?_)
   | (with_reducible first | refine s_op fun K' hk => ?_ | refine t_op fun K' hk => ?_ | (refine hk _ ?_; clear hk K') | (refine ht _ ?_; clear ht hf KT KF) | (refine hf _ ?_; clear ht hf KT KF) | ((first | refine s_nil ?_ | refine t_nil ?_); refine hr _ ?_; clear hr kr))
   | ((with_reducible refine n_seqK [0, 1, 2, 3, 4, 5, 6, 7, 8, 9, 10, 11, 12, 13, 14, 15, 16, 17, 18, 21, 22, 23, 32, 41, 43, 45, 51, 57, 60] [10, 13, 73, 74, 89, 90, 91] ?_); simp only [mk_keep, keepL, List.mem_cons, List.not_mem_nil, Nat.reduceEqDiff, Nat.zero_ne_one, Nat.one_ne_zero, reduceCtorEq, or_false, false_or, or_true, true_or, or_self, eq_self, ↓reduceIte])
   | (with_reducible first | refine s_cond fun KT KF ht hf => ?_ | refine s_skip ?_)
   | ((with_reducible refine s_long ?_); simp only [List.cons_append, List.nil_append])
   | (with_reducible first | refine s_exit ?_ | refine s_ret ?_ | refine e_seq ?_ | refine r_seq ?_ | refine n_block ?_ | refine e_block ?_ | refine r_block ?_ | refine e_loop ?_ | refine r_loop ?_ | refine e_round ?_ | refine r_round ?_ | refine s_round ?_ | refine f_block ?_ (by decide) | refine r_res ?_ | refine n_res ?_)
   | (simp only [hgb, go_sem, Int.reduceToNat, ↓reduceIte, reduceCtorEq, Nat.reduceEqDiff, Nat.reduceAdd, Nat.reduceMul, Nat.reduceLT, Nat.reduceLeDiff, Nat.reduceBEq, Int.reduceBEq, Int.reduceBNe, String.reduceBEq, Int.reduceEq, Int.reduceLT, Int.reduceLE, Int.reduceGE, Int.reduceGT, f0, f4, f5, g1, g2, g3, g4, g6, g7, g8, gt_iff_lt, vrows_len, vec_eq, ints_len, callE, resSV, AV.flat, CV.flat, TV.flat]; clear hgb)
   | simp only [go_sem, Int.reduceToNat, ↓reduceIte, reduceCtorEq, Nat.reduceEqDiff, Nat.reduceAdd, Nat.reduceMul, Nat.reduceLT, Nat.reduceLeDiff, Nat.reduceBEq, Int.reduceBEq, Int.reduceBNe, String.reduceBEq, Int.reduceEq, Int.reduceLT, Int.reduceLE, Int.reduceGE, Int.reduceGT, f0, f4, f5, g1, g2, g3, g4, g6, g7, g8, gt_iff_lt, vrows_len, vec_eq, ints_len, callE, resSV, AV.flat, CV.flat, TV.flat, hAll]
   | refine Or.inl ⟨_, ⟨fun _ _ => rfl, q1⟩, ?_⟩
   | refine ⟨_, ⟨fun _ _ => rfl, q1⟩, ?_⟩
   | (refine ite_guard (fun hg => ?_) (fun hg => ?_) <;> (try simp only [Bool.not_eq_true, Bool.not_eq_false, Decidable.not_not] at hg) <;> (first | have hgb : (_ : Bool) = _ := hg | have hgb := ff hg | have hgb := tt hg))
   | (refine ⟨fun hc => ht _ ?_, fun hc => hf _ ?_⟩ <;> clear ht hf KT KF)
   | fail)
  refine w_loopG _ (gho_unfold (k := 13) (i := 0) (j := 0) (nm := 91) (sz := 1) (sz' := 1) (rows := [[.own 1 []]]) (rows' := []) (row := [.own 1 []]) (by decide) (by decide) (by simp [mk_heap, hL]) rfl rfl (by rw [fresh_t]; exact trivial; simp [freshL, Blk.has, hasRows, hasL, CV.has]) rfl) ?_
  rw [mk_unfold]
  refine w_loop [0, 1, 2, 3, 4, 10, 11, 12, 13, 14] [10, 13, 91] (σ := Nat) (fun i st => st = mk [(0, V (.sl 1 (vrows l))), (1, I n), (2, I k), (3, I rounds), (4, V (.int .u64 seed)), (10, .c (.mp 10 0 0)), (11, I 0), (12, I w), (13, .c (.mp 13 0 0)), (14, I i)] [(10, .cells 1 [[.own 1 []]]), (13, .cells 1 [[.mr 91 0 i]]), (91, .cells 1 (up (prows (parts l w k rounds seed i))))] ∧ i ≤ n) (fun i => n - i) 0 ?_ ?_
  · refine ⟨?_, Nat.zero_le _⟩
    simp only [go_sem, Int.reduceToNat, ↓reduceIte, reduceCtorEq, Nat.reduceEqDiff, Nat.reduceAdd, Nat.reduceMul, Nat.reduceLT, Nat.reduceLeDiff, Nat.reduceBEq, Int.reduceBEq, Int.reduceBNe, String.reduceBEq, Int.reduceEq, Int.reduceLT, Int.reduceLE, Int.reduceGE, Int.reduceGT, mk_keep, keepL, List.mem_cons, List.not_mem_nil, Nat.reduceEqDiff, Nat.zero_ne_one, Nat.one_ne_zero, reduceCtorEq, or_false, false_or, or_true, true_or, or_self, eq_self, ↓reduceIte, List.modify_zero_cons, List.modifyHead_cons, List.set_cons_zero]
    rfl
  rintro i st ⟨rfl, hi⟩
  by_cases hin : i < n
  · have p1 := tt (show (i : Int) < n by omega)
    have p3 := wUp (k := i) (n := n) hin (by omega)
    have hiw : (i + 1) * w ≤ n * w := Nat.mul_le_mul_right _ hin
    have hiw2 : i * w ≤ (i + 1) * w := Nat.mul_le_mul_right _ (by omega)
    have p4 : IntKind.wrap .i64 ((i : Int) * (w : Int)) = ((i * w : Nat) : Int) := by rw [wI (by rw [← Int.natCast_mul]; omega) (by rw [← Int.natCast_mul]; omega), Int.natCast_mul]
    have p5 : IntKind.wrap .i64 (((i + 1 : Nat) : Int) * (w : Int)) = (((i + 1) * w : Nat) : Int) := by rw [wI (by rw [← Int.natCast_mul]; omega) (by rw [← Int.natCast_mul]; omega), Int.natCast_mul]
    have p6 := tt (Int.natCast_nonneg (i * w))
    have p7 := tt (Int.natCast_nonneg ((i + 1) * w))
    have p8 := tt hiw2
    repeat' (first
     | (with_reducible first | refine s_seq ?_ | refine s_block ?_ | refine s_region fun kr hr => ?_)
     | (with_reducible refine s_text tOk [10, 13, 73, 74, 89, 90, 91, 1000, 1001, 1002, 1003] (by kernel_rfl) (by simp [HeapIn, namers, namerDst, namerOp, namedOp, namedFn, ownLoad, Blk.has, hasRows, hasL, CV.has, hasRows_up, hasM_up, hasRows_append, p1, p3, vrows_len]; (try ((repeat' apply And.intro) <;> intros <;> omega))) fun kr hr => ?_)
     | (with_reducible first | refine s_op fun K' hk => ?_ | refine t_op fun K' hk => ?_ | (refine hk _ ?_; clear hk K') | (refine ht _ ?_; clear ht hf KT KF) | (refine hf _ ?_; clear ht hf KT KF) | ((first | refine s_nil ?_ | refine t_nil ?_); refine hr _ ?_; clear hr kr))
     | ((with_reducible refine n_seqK [0, 1, 2, 3, 4, 5, 6, 7, 8, 9, 10, 11, 12, 13, 14, 15, 16, 17, 18, 21, 22, 23, 32, 41, 43, 45, 51, 57, 60] [10, 13, 73, 74, 89, 90, 91] ?_); simp only [mk_keep, keepL, List.mem_cons, List.not_mem_nil, Nat.reduceEqDiff, Nat.zero_ne_one, Nat.one_ne_zero, reduceCtorEq, or_false, false_or, or_true, true_or, or_self, eq_self, ↓reduceIte])
     | (with_reducible first | refine s_cond fun KT KF ht hf => ?_ | refine s_skip ?_)
     | ((with_reducible refine s_long ?_); simp only [List.cons_append, List.nil_append])
     | (with_reducible first | refine s_exit ?_ | refine s_ret ?_ | refine e_seq ?_ | refine r_seq ?_ | refine n_block ?_ | refine e_block ?_ | refine r_block ?_ | refine e_loop ?_ | refine r_loop ?_ | refine e_round ?_ | refine r_round ?_ | refine s_round ?_ | refine f_block ?_ (by decide) | refine r_res ?_ | refine n_res ?_)
     | (simp only [hgb, go_sem, Int.reduceToNat, ↓reduceIte, reduceCtorEq, Nat.reduceEqDiff, Nat.reduceAdd, Nat.reduceMul, Nat.reduceLT, Nat.reduceLeDiff, Nat.reduceBEq, Int.reduceBEq, Int.reduceBNe, String.reduceBEq, Int.reduceEq, Int.reduceLT, Int.reduceLE, Int.reduceGE, Int.reduceGT, p1, p3, vrows_len]; clear hgb)
     | simp only [go_sem, Int.reduceToNat, ↓reduceIte, reduceCtorEq, Nat.reduceEqDiff, Nat.reduceAdd, Nat.reduceMul, Nat.reduceLT, Nat.reduceLeDiff, Nat.reduceBEq, Int.reduceBEq, Int.reduceBNe, String.reduceBEq, Int.reduceEq, Int.reduceLT, Int.reduceLE, Int.reduceGE, Int.reduceGT, p1, p3, vrows_len, hAll]
     | (refine ite_guard (fun hg => ?_) (fun hg => ?_) <;> (try simp only [Bool.not_eq_true, Bool.not_eq_false, Decidable.not_not] at hg) <;> (first | have hgb : (_ : Bool) = _ := hg | have hgb := ff hg | have hgb := tt hg))
     | (refine ⟨fun hc => ht _ ?_, fun hc => hf _ ?_⟩ <;> clear ht hf KT KF)
     | fail)
    refine w_loopG _ (gho_nilName (s := 15) (d := 74) (sz := 1) (by decide) ⟨1, rfl⟩ (by rw [fresh_t]; exact trivial; simp [freshL, Blk.has, hasRows, hasL, CV.has, hasRows_up])) ?_
    rw [mk_nilName]
    refine w_loop [0, 1, 2, 3, 4, 10, 11, 12, 13, 14, 15, 16] [10, 13, 74, 91] (σ := Nat) (fun j st => st = mk [(0, V (.sl 1 (vrows l))), (1, I n), (2, I k), (3, I rounds), (4, V (.int .u64 seed)), (10, .c (.mp 10 0 0)), (11, I 0), (12, I w), (13, .c (.mp 13 0 0)), (14, I i), (15, .c (.mr 74 0 j)), (16, I j)] [(10, .cells 1 [[.own 1 []]]), (13, .cells 1 [[.mr 91 0 i]]), (74, .cells 1 (up (vrows (pieces w i (l.take j))))), (91, .cells 1 (up (prows (parts l w k rounds seed i))))] ∧ j ≤ l.length) (fun j => l.length - j) 0 ?_ ?_
    · refine ⟨?_, Nat.zero_le _⟩
      simp only [go_sem, Int.reduceToNat, ↓reduceIte, reduceCtorEq, Nat.reduceEqDiff, Nat.reduceAdd, Nat.reduceMul, Nat.reduceLT, Nat.reduceLeDiff, Nat.reduceBEq, Int.reduceBEq, Int.reduceBNe, String.reduceBEq, Int.reduceEq, Int.reduceLT, Int.reduceLE, Int.reduceGE, Int.reduceGT, mk_keep, keepL, List.mem_cons, List.not_mem_nil, Nat.reduceEqDiff, Nat.zero_ne_one, Nat.one_ne_zero, reduceCtorEq, or_false, false_or, or_true, true_or, or_self, eq_self, ↓reduceIte]
      rfl
    rintro j st ⟨rfl, hj⟩
    by_cases hjl : j < l.length
    · have r1 := tt (show (j : Int) < l.length by omega)
      have r2 : (vrows l)[j]? = some [vec l[j]] := by rw [vrows_get, get_of_lt hjl]; rfl
      have r3 := wUp (k := j) (n := l.length) hjl (by have := hl.1; omega)
      have hps := pieces_succ (w := w) (i := i) hjl
      have hvl := hall l[j] (List.getElem_mem hjl)
      have r0 := hl.1
      obtain ⟨v, hv⟩ : ∃ v, l[j] = v := ⟨_, rfl⟩
      rw [hv] at r2 hps hvl
      have r4 := tt (show (i + 1) * w ≤ v.length by omega)
      have r5 : List.drop (i * w) (List.take ((i + 1) * w) (ints v)) = ints (piece w i v) := piece_drop v
      have r6 := tt (show (j + 1) * 24 ≤ 140737488355328 by omega)
      have r7 := tt (show j ≤ 9223372036854775806 by omega)
      have r8 : (up (vrows (pieces w i (l.take j)))).length = j := by rw [upv_len, pieces_len, List.length_take]; omega
      have r9 : List.take j (up (vrows (pieces w i (l.take j)))) = up (vrows (pieces w i (l.take j))) := List.take_of_length_le (by omega)
      repeat' (first
       | (with_reducible first | refine s_seq ?_ | refine s_block ?_ | refine s_region fun kr hr => ?_)
       | (with_reducible refine s_text tOk [10, 13, 73, 74, 89, 90, 91, 1000, 1001, 1002, 1003] (by kernel_rfl) (by simp [HeapIn, namers, namerDst, namerOp, namedOp, namedFn, ownLoad, Blk.has, hasRows, hasL, CV.has, hasRows_up, hasM_up, hasRows_append, p1, p3, p4, p5, p6, p7, p8, r1, r2, r3, r4, r5, r6, r7, r8, r9, Int.toNat_natCast, vrows_len, vec_eq, ints_len, hasRows_up]; (try ((repeat' apply And.intro) <;> intros <;> omega))) fun kr hr => ?_)
       | (with_reducible first | refine s_op fun K' hk => ?_ | refine t_op fun K' hk => ?_ | (refine hk _ ?_; clear hk K') | (refine ht _ ?_; clear ht hf KT KF) | (refine hf _ ?_; clear ht hf KT KF) | ((first | refine s_nil ?_ | refine t_nil ?_); refine hr _ ?_; clear hr kr))
       | ((with_reducible refine n_seqK [0, 1, 2, 3, 4, 5, 6, 7, 8, 9, 10, 11, 12, 13, 14, 15, 16, 17, 18, 21, 22, 23, 32, 41, 43, 45, 51, 57, 60] [10, 13, 73, 74, 89, 90, 91] ?_); simp only [mk_keep, keepL, List.mem_cons, List.not_mem_nil, Nat.reduceEqDiff, Nat.zero_ne_one, Nat.one_ne_zero, reduceCtorEq, or_false, false_or, or_true, true_or, or_self, eq_self, ↓reduceIte])
       | (with_reducible first | refine s_cond fun KT KF ht hf => ?_ | refine s_skip ?_)
       | ((with_reducible refine s_long ?_); simp only [List.cons_append, List.nil_append])
       | (with_reducible first | refine s_exit ?_ | refine s_ret ?_ | refine e_seq ?_ | refine r_seq ?_ | refine n_block ?_ | refine e_block ?_ | refine r_block ?_ | refine e_loop ?_ | refine r_loop ?_ | refine e_round ?_ | refine r_round ?_ | refine s_round ?_ | refine f_block ?_ (by decide) | refine r_res ?_ | refine n_res ?_)
       | (simp only [hgb, go_sem, Int.reduceToNat, ↓reduceIte, reduceCtorEq, Nat.reduceEqDiff, Nat.reduceAdd, Nat.reduceMul, Nat.reduceLT, Nat.reduceLeDiff, Nat.reduceBEq, Int.reduceBEq, Int.reduceBNe, String.reduceBEq, Int.reduceEq, Int.reduceLT, Int.reduceLE, Int.reduceGE, Int.reduceGT, p1, p3, p4, p5, p6, p7, p8, r1, r2, r3, r4, r5, r6, r7, r8, r9, Int.toNat_natCast, vrows_len, vec_eq, ints_len, hasRows_up]; clear hgb)
       | simp only [go_sem, Int.reduceToNat, ↓reduceIte, reduceCtorEq, Nat.reduceEqDiff, Nat.reduceAdd, Nat.reduceMul, Nat.reduceLT, Nat.reduceLeDiff, Nat.reduceBEq, Int.reduceBEq, Int.reduceBNe, String.reduceBEq, Int.reduceEq, Int.reduceLT, Int.reduceLE, Int.reduceGE, Int.reduceGT, p1, p3, p4, p5, p6, p7, p8, r1, r2, r3, r4, r5, r6, r7, r8, r9, Int.toNat_natCast, vrows_len, vec_eq, ints_len, hasRows_up, hAll]
       | (refine ite_guard (fun hg => ?_) (fun hg => ?_) <;> (try simp only [Bool.not_eq_true, Bool.not_eq_false, Decidable.not_not] at hg) <;> (first | have hgb : (_ : Bool) = _ := hg | have hgb := ff hg | have hgb := tt hg))
       | (refine ⟨fun hc => ht _ ?_, fun hc => hf _ ?_⟩ <;> clear ht hf KT KF)
       | fail)
      refine n_loop (j + 1) [0, 1, 2, 3, 4, 10, 11, 12, 13, 14, 15, 16] [10, 13, 74, 91] ⟨?_, hjl⟩ (by omega)
      simp only [go_sem, Int.reduceToNat, ↓reduceIte, reduceCtorEq, Nat.reduceEqDiff, Nat.reduceAdd, Nat.reduceMul, Nat.reduceLT, Nat.reduceLeDiff, Nat.reduceBEq, Int.reduceBEq, Int.reduceBNe, String.reduceBEq, Int.reduceEq, Int.reduceLT, Int.reduceLE, Int.reduceGE, Int.reduceGT, mk_keep, keepL, List.mem_cons, List.not_mem_nil, Nat.reduceEqDiff, Nat.zero_ne_one, Nat.one_ne_zero, reduceCtorEq, or_false, false_or, or_true, true_or, or_self, eq_self, ↓reduceIte, hps, upv_snoc1]
    · have r1 := ff (show ¬ ((j : Int) < l.length) by omega)
      obtain rfl : j = l.length := by omega
      rw [List.take_length]
      have ps := pieces_sized (l := l) (w := w) (i := i) hl.1 hw64
      have q2 := train2_spec (pieces w i l) k rounds (IntKind.wrap .u64 (seed + IntKind.wrap .u64 (i : Int))) ps (by rw [pieces_len]; exact hb) (by omega) hr0
      rw [vecs_eq, vecs_eq] at q2
      have hpt := parts_succ l w k rounds seed i
      have e1 : List.take l.length (vrows (pieces w i l)) = vrows (pieces w i l) := List.take_of_length_le (by rw [vrows_len, pieces_len]; omega)
      have e2 := tt (show l.length ≤ (pieces w i l).length by rw [pieces_len]; omega)
      have e3 : (up (prows (parts l w k rounds seed i))).length = i := by rw [up_length, prows_len, parts_len]
      have e4 : List.take i (up (prows (parts l w k rounds seed i))) = up (prows (parts l w k rounds seed i)) := List.take_of_length_le (by omega)
      have e5 := tt (show (i + 1) * 24 ≤ 140737488355328 by omega)
      have e6 := tt (show i ≤ 9223372036854775806 by omega)
      rw [show train (pieces w i l) k rounds (IntKind.wrap .u64 (seed + IntKind.wrap .u64 (i : Int))) = partOf l w k rounds seed i from rfl] at q2
      generalize partOf l w k rounds seed i = c at *
      generalize trainE (pieces w i l) k = tE at *
      repeat' (first
       | ((with_reducible_and_instances refine s_frz 74 rfl (viewRows_up _) ?_); simp only [del, mapV, SV.frz, CV.frz, hasA, AV.has, CV.has, List.drop_zero, List.map_cons, List.map_nil, Nat.zero_add, Nat.reduceEqDiff, Nat.reduceLeDiff, Nat.le_refl, ↓reduceIte, Bool.false_eq_true, p1, p3, r1, e1, e2, e3, e4, e5, e6, vrows_len, hasRows_up])
       | (with_reducible first | refine s_seq ?_ | refine s_block ?_ | refine s_region fun kr hr => ?_)
       | (with_reducible refine s_text tOk [10, 13, 73, 74, 89, 90, 91, 1000, 1001, 1002, 1003] (by kernel_rfl) (by simp [HeapIn, namers, namerDst, namerOp, namedOp, namedFn, ownLoad, Blk.has, hasRows, hasL, CV.has, hasRows_up, hasM_up, hasRows_append, p1, p3, r1, e1, e2, e3, e4, e5, e6, vrows_len, hasRows_up]; (try ((repeat' apply And.intro) <;> intros <;> omega))) fun kr hr => ?_)
       | (with_reducible first | refine s_op fun K' hk => ?_ | refine t_op fun K' hk => ?_ | (refine hk _ ?_; clear hk K') | (refine ht _ ?_; clear ht hf KT KF) | (refine hf _ ?_; clear ht hf KT KF) | ((first | refine s_nil ?_ | refine t_nil ?_); refine hr _ ?_; clear hr kr))
       | ((with_reducible refine n_seqK [0, 1, 2, 3, 4, 5, 6, 7, 8, 9, 10, 11, 12, 13, 14, 15, 16, 17, 18, 21, 22, 23, 32, 41, 43, 45, 51, 57, 60] [10, 13, 73, 74, 89, 90, 91] ?_); simp only [mk_keep, keepL, List.mem_cons, List.not_mem_nil, Nat.reduceEqDiff, Nat.zero_ne_one, Nat.one_ne_zero, reduceCtorEq, or_false, false_or, or_true, true_or, or_self, eq_self, ↓reduceIte])
       | (with_reducible first | refine s_cond fun KT KF ht hf => ?_ | refine s_skip ?_)
       | ((with_reducible refine s_long ?_); simp only [List.cons_append, List.nil_append])
       | (with_reducible first | refine s_exit ?_ | refine s_ret ?_ | refine e_seq ?_ | refine r_seq ?_ | refine n_block ?_ | refine e_block ?_ | refine r_block ?_ | refine e_loop ?_ | refine r_loop ?_ | refine e_round ?_ | refine r_round ?_ | refine s_round ?_ | refine f_block ?_ (by decide) | refine r_res ?_ | refine n_res ?_)
       | (simp only [hgb, go_sem, Int.reduceToNat, ↓reduceIte, reduceCtorEq, Nat.reduceEqDiff, Nat.reduceAdd, Nat.reduceMul, Nat.reduceLT, Nat.reduceLeDiff, Nat.reduceBEq, Int.reduceBEq, Int.reduceBNe, String.reduceBEq, Int.reduceEq, Int.reduceLT, Int.reduceLE, Int.reduceGE, Int.reduceGT, p1, p3, r1, e1, e2, e3, e4, e5, e6, vrows_len, hasRows_up, callE, resSV, AV.flat, CV.flat, TV.flat]; clear hgb)
       | simp only [go_sem, Int.reduceToNat, ↓reduceIte, reduceCtorEq, Nat.reduceEqDiff, Nat.reduceAdd, Nat.reduceMul, Nat.reduceLT, Nat.reduceLeDiff, Nat.reduceBEq, Int.reduceBEq, Int.reduceBNe, String.reduceBEq, Int.reduceEq, Int.reduceLT, Int.reduceLE, Int.reduceGE, Int.reduceGT, p1, p3, r1, e1, e2, e3, e4, e5, e6, vrows_len, hasRows_up, callE, resSV, AV.flat, CV.flat, TV.flat, hAll]
       | refine Or.inl ⟨_, ⟨fun _ _ => rfl, q2⟩, ?_⟩
       | refine ⟨_, ⟨fun _ _ => rfl, q2⟩, ?_⟩
       | (refine ite_guard (fun hg => ?_) (fun hg => ?_) <;> (try simp only [Bool.not_eq_true, Bool.not_eq_false, Decidable.not_not] at hg) <;> (first | have hgb : (_ : Bool) = _ := hg | have hgb := ff hg | have hgb := tt hg))
       | (refine ⟨fun hc => ht _ ?_, fun hc => hf _ ?_⟩ <;> clear ht hf KT KF)
       | fail)
      refine n_loopG _ (gho_ren (a := 90) (b := 91) (by decide) (by decide)) ?_
      rw [mk_ren]
      refine n_loop (i + 1) [0, 1, 2, 3, 4, 10, 11, 12, 13, 14] [10, 13, 91] ⟨?_, hin⟩ (by omega)
      simp only [go_sem, Int.reduceToNat, ↓reduceIte, reduceCtorEq, Nat.reduceEqDiff, Nat.reduceAdd, Nat.reduceMul, Nat.reduceLT, Nat.reduceLeDiff, Nat.reduceBEq, Int.reduceBEq, Int.reduceBNe, String.reduceBEq, Int.reduceEq, Int.reduceLT, Int.reduceLE, Int.reduceGE, Int.reduceGT, mk_keep, keepL, List.mem_cons, List.not_mem_nil, Nat.reduceEqDiff, Nat.zero_ne_one, Nat.one_ne_zero, reduceCtorEq, or_false, false_or, or_true, true_or, or_self, eq_self, ↓reduceIte, renS, Blk.ren, renRows, renL, CV.ren, renRows_up, mapV, SV.ren, ins, sw, hpt, upp_snoc]
  · have p1 := ff (show ¬ ((i : Int) < n) by omega)
    obtain rfl : i = n := by omega
    have e1 : List.take i (prows (parts l w k rounds seed i)) = prows (parts l w k rounds seed i) := List.take_of_length_le (by rw [prows_len, parts_len]; omega)
    have e2 := tt (show i ≤ (parts l w k rounds seed i).length by rw [parts_len]; omega)
    repeat' (first
     | (with_reducible first | refine s_seq ?_ | refine s_block ?_ | refine s_region fun kr hr => ?_)
     | (with_reducible refine s_text tOk [10, 13, 73, 74, 89, 90, 91, 1000, 1001, 1002, 1003] (by kernel_rfl) (by simp [HeapIn, namers, namerDst, namerOp, namedOp, namedFn, ownLoad, Blk.has, hasRows, hasL, CV.has, hasRows_up, hasM_up, hasRows_append, p1, prows_len]; (try ((repeat' apply And.intro) <;> intros <;> omega))) fun kr hr => ?_)
     | (with_reducible first | refine s_op fun K' hk => ?_ | refine t_op fun K' hk => ?_ | (refine hk _ ?_; clear hk K') | (refine ht _ ?_; clear ht hf KT KF) | (refine hf _ ?_; clear ht hf KT KF) | ((first | refine s_nil ?_ | refine t_nil ?_); refine hr _ ?_; clear hr kr))
     | ((with_reducible refine n_seqK [0, 1, 2, 3, 4, 5, 6, 7, 8, 9, 10, 11, 12, 13, 14, 15, 16, 17, 18, 21, 22, 23, 32, 41, 43, 45, 51, 57, 60] [10, 13, 73, 74, 89, 90, 91] ?_); simp only [mk_keep, keepL, List.mem_cons, List.not_mem_nil, Nat.reduceEqDiff, Nat.zero_ne_one, Nat.one_ne_zero, reduceCtorEq, or_false, false_or, or_true, true_or, or_self, eq_self, ↓reduceIte])
     | (with_reducible first | refine s_cond fun KT KF ht hf => ?_ | refine s_skip ?_)
     | ((with_reducible refine s_long ?_); simp only [List.cons_append, List.nil_append])
     | (with_reducible first | refine s_exit ?_ | refine s_ret ?_ | refine e_seq ?_ | refine r_seq ?_ | refine n_block ?_ | refine e_block ?_ | refine r_block ?_ | refine e_loop ?_ | refine r_loop ?_ | refine e_round ?_ | refine r_round ?_ | refine s_round ?_ | refine f_block ?_ (by decide) | refine r_res ?_ | refine n_res ?_)
     | (simp only [hgb, go_sem, Int.reduceToNat, ↓reduceIte, reduceCtorEq, Nat.reduceEqDiff, Nat.reduceAdd, Nat.reduceMul, Nat.reduceLT, Nat.reduceLeDiff, Nat.reduceBEq, Int.reduceBEq, Int.reduceBNe, String.reduceBEq, Int.reduceEq, Int.reduceLT, Int.reduceLE, Int.reduceGE, Int.reduceGT, p1, prows_len]; clear hgb)
     | simp only [go_sem, Int.reduceToNat, ↓reduceIte, reduceCtorEq, Nat.reduceEqDiff, Nat.reduceAdd, Nat.reduceMul, Nat.reduceLT, Nat.reduceLeDiff, Nat.reduceBEq, Int.reduceBEq, Int.reduceBNe, String.reduceBEq, Int.reduceEq, Int.reduceLT, Int.reduceLE, Int.reduceGE, Int.reduceGT, p1, prows_len, hAll]
     | (refine ite_guard (fun hg => ?_) (fun hg => ?_) <;> (try simp only [Bool.not_eq_true, Bool.not_eq_false, Decidable.not_not] at hg) <;> (first | have hgb : (_ : Bool) = _ := hg | have hgb := ff hg | have hgb := tt hg))
     | (refine ⟨fun hc => ht _ ?_, fun hc => hf _ ?_⟩ <;> clear ht hf KT KF)
     | fail)
theorem rptrain_ok (l : List (List Int)) (n w : Nat) (k rounds seed : Int) (hl : SizedAll l) (hb : l.length + l.length ≤ 5864062014634) (hok : okRows l = true) (n1 : 1 ≤ n) (hw : n * w = (hd l).length) (k1 : 1 ≤ k) (k2 : k ≤ 256) (hr0 : -9223372036854775808 ≤ rounds ∧ rounds ≤ 9223372036854775807) :
    Spec Try.prog 40 [.v (.t (vecs l)), .v (.t (.int .i64 n)), .v (.t (.int .i64 k)), .v (.t (.int .i64 rounds)), .v (.t (.int .u64 seed))] [] [.agg [.t (.sl 1 (prows (parts l w k rounds seed n)))], .v (.t (.int .i64 0))] [] := by
  have h := rptrain_named l n w k rounds seed hl hb hok n1 hw k1 k2 hr0
  have e : (up (prows (parts l w k rounds seed n))).length = n := by rw [up_length, prows_len, parts_len]
  generalize prows (parts l w k rounds seed n) = rows at *
  have h2 : Spec Try.prog 40 [.v (.t (vecs l)), .v (.t (.int .i64 n)), .v (.t (.int .i64 k)), .v (.t (.int .i64 rounds)), .v (.t (.int .u64 seed))] [] [.agg [.mr 91 0 (up rows).length], .v (.t (.int .i64 0))] [(91, .cells 1 (up rows))] := by rw [e]; exact h
  exact h2.treeA2 (viewRows_up _)
end Go.Proofs.Ytlnilonlaedafaa.Fx
