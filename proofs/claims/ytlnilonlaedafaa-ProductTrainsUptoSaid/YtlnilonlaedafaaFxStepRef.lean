/- A step, the document's. -/
import Derived.Test.YtlnilonlaedafaaFxStep
import Derived.Test.YtlnilonlaedafaaFxCall
namespace Go.Proofs.Ytlnilonlaedafaa.Fx
open Go Go.RowKit
set_option maxRecDepth 100000
set_option linter.unusedSimpArgs false
set_option linter.unusedVariables false
theorem step2_nil (l c : List (List Int)) (hl : SizedAll l) (hc : SizedAll c) (hb : l.length + c.length ≤ 5864062014634) (hno : okStep l c = false) : Spec Try.prog 16 [.v (.t (vecs l)), .v (.t (vecs c))] [] [.v (.t (vecs []))] [] := by
  refine spec_by Try.func16 rfl mixed tOk evOk (n := 142) rfl (by simp) (by simp) ?_
  rw [initSt_mk, show Try.f16.results.toList = [.tmp 4] from rfl]
  simp only [initL, AV.sv, List.map_cons, List.map_nil, Nat.reduceAdd, Nat.zero_add, vecs_eq]
  by_cases h1 : (l.length : Int) = 0
  · have f1 := tt h1
    repeat' (first
     | (with_reducible first | refine s_seq ?_ | refine s_block ?_ | refine s_region fun kr hr => ?_)
     | (with_reducible refine s_text tOk [26, 28, 34, 37, 50, 139, 140, 1000, 1001, 1002, 1003] (by kernel_rfl) (by simp [HeapIn, namers, namerDst, namerOp, namedOp, namedFn, ownLoad, Blk.has, hasRows, hasL, CV.has, hasRows_up, hasM_up, hasRows_append, vrows_len, f1]; (try ((repeat' apply And.intro) <;> intros <;> omega))) fun kr hr => ?_)
     | (with_reducible first | refine s_op fun K' hk => ?_ | refine t_op fun K' hk => ?_ | (refine hk _ ?_; clear hk K') | (refine ht _ ?_; clear ht hf KT KF) | (refine hf _ ?_; clear ht hf KT KF) | ((first | refine s_nil ?_ | refine t_nil ?_); refine hr _ ?_; clear hr kr))
     | ((with_reducible refine n_seqK [0, 1, 2, 3, 4, 5, 6, 7, 8, 9, 10, 11, 12, 13, 14, 15, 18, 22, 23, 31, 41, 45, 46, 47, 55, 76, 98, 116] [26, 28, 34, 37, 50, 139, 140] ?_); simp only [mk_keep, keepL, List.mem_cons, List.not_mem_nil, Nat.reduceEqDiff, Nat.zero_ne_one, Nat.one_ne_zero, reduceCtorEq, or_false, false_or, or_true, true_or, or_self, eq_self, ↓reduceIte])
     | (with_reducible first | refine s_cond fun KT KF ht hf => ?_ | refine s_skip ?_)
     | ((with_reducible refine s_long ?_); simp only [List.cons_append, List.nil_append])
     | (with_reducible first | refine s_exit ?_ | refine s_ret ?_ | refine e_seq ?_ | refine r_seq ?_ | refine n_block ?_ | refine e_block ?_ | refine r_block ?_ | refine e_loop ?_ | refine r_loop ?_ | refine e_round ?_ | refine r_round ?_ | refine s_round ?_ | refine f_block ?_ (by decide) | refine r_res ?_ | refine n_res ?_)
     | (simp only [hgb, go_sem, Int.reduceToNat, ↓reduceIte, reduceCtorEq, Nat.reduceEqDiff, Nat.reduceAdd, Nat.reduceMul, Nat.reduceLT, Nat.reduceLeDiff, Nat.reduceBEq, Int.reduceBEq, Int.reduceBNe, String.reduceBEq, Int.reduceEq, Int.reduceLT, Int.reduceLE, Int.reduceGE, Int.reduceGT, vrows_len, f1]; clear hgb)
     | simp only [go_sem, Int.reduceToNat, ↓reduceIte, reduceCtorEq, Nat.reduceEqDiff, Nat.reduceAdd, Nat.reduceMul, Nat.reduceLT, Nat.reduceLeDiff, Nat.reduceBEq, Int.reduceBEq, Int.reduceBNe, String.reduceBEq, Int.reduceEq, Int.reduceLT, Int.reduceLE, Int.reduceGE, Int.reduceGT, vrows_len, f1, hAll]
     | (refine ite_guard (fun hg => ?_) (fun hg => ?_) <;> (try simp only [Bool.not_eq_true, Bool.not_eq_false, Decidable.not_not] at hg) <;> (first | have hgb : (_ : Bool) = _ := hg | have hgb := ff hg | have hgb := tt hg))
     | (refine ⟨fun hc => ht _ ?_, fun hc => hf _ ?_⟩ <;> clear ht hf KT KF)
     | fail)
    rfl
  · have f1 := ff h1
    by_cases h2 : (c.length : Int) = 0
    · have f2 := tt h2
      repeat' (first
       | (with_reducible first | refine s_seq ?_ | refine s_block ?_ | refine s_region fun kr hr => ?_)
       | (with_reducible refine s_text tOk [26, 28, 34, 37, 50, 139, 140, 1000, 1001, 1002, 1003] (by kernel_rfl) (by simp [HeapIn, namers, namerDst, namerOp, namedOp, namedFn, ownLoad, Blk.has, hasRows, hasL, CV.has, hasRows_up, hasM_up, hasRows_append, vrows_len, f1, f2]; (try ((repeat' apply And.intro) <;> intros <;> omega))) fun kr hr => ?_)
       | (with_reducible first | refine s_op fun K' hk => ?_ | refine t_op fun K' hk => ?_ | (refine hk _ ?_; clear hk K') | (refine ht _ ?_; clear ht hf KT KF) | (refine hf _ ?_; clear ht hf KT KF) | ((first | refine s_nil ?_ | refine t_nil ?_); refine hr _ ?_; clear hr kr))
       | ((with_reducible refine n_seqK [0, 1, 2, 3, 4, 5, 6, 7, 8, 9, 10, 11, 12, 13, 14, 15, 18, 22, 23, 31, 41, 45, 46, 47, 55, 76, 98, 116] [26, 28, 34, 37, 50, 139, 140] ?_); simp only [mk_keep, keepL, List.mem_cons, List.not_mem_nil, Nat.reduceEqDiff, Nat.zero_ne_one, Nat.one_ne_zero, reduceCtorEq, or_false, false_or, or_true, true_or, or_self, eq_self, ↓reduceIte])
       | (with_reducible first | refine s_cond fun KT KF ht hf => ?_ | refine s_skip ?_)
       | ((with_reducible refine s_long ?_); simp only [List.cons_append, List.nil_append])
       | (with_reducible first | refine s_exit ?_ | refine s_ret ?_ | refine e_seq ?_ | refine r_seq ?_ | refine n_block ?_ | refine e_block ?_ | refine r_block ?_ | refine e_loop ?_ | refine r_loop ?_ | refine e_round ?_ | refine r_round ?_ | refine s_round ?_ | refine f_block ?_ (by decide) | refine r_res ?_ | refine n_res ?_)
       | (simp only [hgb, go_sem, Int.reduceToNat, ↓reduceIte, reduceCtorEq, Nat.reduceEqDiff, Nat.reduceAdd, Nat.reduceMul, Nat.reduceLT, Nat.reduceLeDiff, Nat.reduceBEq, Int.reduceBEq, Int.reduceBNe, String.reduceBEq, Int.reduceEq, Int.reduceLT, Int.reduceLE, Int.reduceGE, Int.reduceGT, vrows_len, f1, f2]; clear hgb)
       | simp only [go_sem, Int.reduceToNat, ↓reduceIte, reduceCtorEq, Nat.reduceEqDiff, Nat.reduceAdd, Nat.reduceMul, Nat.reduceLT, Nat.reduceLeDiff, Nat.reduceBEq, Int.reduceBEq, Int.reduceBNe, String.reduceBEq, Int.reduceEq, Int.reduceLT, Int.reduceLE, Int.reduceGE, Int.reduceGT, vrows_len, f1, f2, hAll]
       | (refine ite_guard (fun hg => ?_) (fun hg => ?_) <;> (try simp only [Bool.not_eq_true, Bool.not_eq_false, Decidable.not_not] at hg) <;> (first | have hgb : (_ : Bool) = _ := hg | have hgb := ff hg | have hgb := tt hg))
       | (refine ⟨fun hc => ht _ ?_, fun hc => hf _ ?_⟩ <;> clear ht hf KT KF)
       | fail)
      rfl
    · have f2 := ff h2
      have g1 : ¬ l.length = 0 := by omega
      have g2 : ¬ c.length = 0 := by omega
      have h3 : okRows (l ++ c) = false := by simpa [okStep, g1, g2] using hno
      have b1 := tt (show l.length * 24 ≤ 140737488355328 by omega)
      have b2 := tt (show l.length ≤ 9223372036854775807 by omega)
      have b3 := tt (show (l.length + c.length) * 24 ≤ 140737488355328 by omega)
      have b4 := tt (show l.length + c.length ≤ 9223372036854775807 by omega)
      have hrow := rows2_spec (l ++ c) (hl.app hc hb)
      rw [vecs_eq] at hrow
      have t1 : (vrows l).take l.length = vrows l := List.take_of_length_le (by simp [vrows_len])
      have t2 : (vrows (l ++ c)).take (l.length + c.length) = vrows (l ++ c) := List.take_of_length_le (by simp [vrows_len])
      repeat' (first
       | (with_reducible first | refine s_seq ?_ | refine s_block ?_ | refine s_region fun kr hr => ?_)
       | (with_reducible refine s_text tOk [26, 28, 34, 37, 50, 139, 140, 1000, 1001, 1002, 1003] (by kernel_rfl) (by simp [HeapIn, namers, namerDst, namerOp, namedOp, namedFn, ownLoad, Blk.has, hasRows, hasL, CV.has, hasRows_up, hasM_up, hasRows_append, vrows_len, f1, f2, h3, b1, b2, b3, b4, t1, t2, upv_len, upv_app, vrows_app]; (try ((repeat' apply And.intro) <;> intros <;> omega))) fun kr hr => ?_)
       | (with_reducible first | refine s_op fun K' hk => ?_ | refine t_op fun K' hk => ?_ | (refine hk _ ?_; clear hk K') | (refine ht _ ?_; clear ht hf KT KF) | (refine hf _ ?_; clear ht hf KT KF) | ((first | refine s_nil ?_ | refine t_nil ?_); refine hr _ ?_; clear hr kr))
       | ((with_reducible refine n_seqK [0, 1, 2, 3, 4, 5, 6, 7, 8, 9, 10, 11, 12, 13, 14, 15, 18, 22, 23, 31, 41, 45, 46, 47, 55, 76, 98, 116] [26, 28, 34, 37, 50, 139, 140] ?_); simp only [mk_keep, keepL, List.mem_cons, List.not_mem_nil, Nat.reduceEqDiff, Nat.zero_ne_one, Nat.one_ne_zero, reduceCtorEq, or_false, false_or, or_true, true_or, or_self, eq_self, ↓reduceIte])
       | (with_reducible first | refine s_cond fun KT KF ht hf => ?_ | refine s_skip ?_)
       | ((with_reducible refine s_long ?_); simp only [List.cons_append, List.nil_append])
       | (with_reducible first | refine s_exit ?_ | refine s_ret ?_ | refine e_seq ?_ | refine r_seq ?_ | refine n_block ?_ | refine e_block ?_ | refine r_block ?_ | refine e_loop ?_ | refine r_loop ?_ | refine e_round ?_ | refine r_round ?_ | refine s_round ?_ | refine f_block ?_ (by decide) | refine r_res ?_ | refine n_res ?_)
       | (simp only [hgb, go_sem, Int.reduceToNat, ↓reduceIte, reduceCtorEq, Nat.reduceEqDiff, Nat.reduceAdd, Nat.reduceMul, Nat.reduceLT, Nat.reduceLeDiff, Nat.reduceBEq, Int.reduceBEq, Int.reduceBNe, String.reduceBEq, Int.reduceEq, Int.reduceLT, Int.reduceLE, Int.reduceGE, Int.reduceGT, vrows_len, f1, f2, h3, b1, b2, b3, b4, t1, t2, upv_len, upv_app, vrows_app, callE, resSV, AV.flat, CV.flat, TV.flat]; clear hgb)
       | simp only [go_sem, Int.reduceToNat, ↓reduceIte, reduceCtorEq, Nat.reduceEqDiff, Nat.reduceAdd, Nat.reduceMul, Nat.reduceLT, Nat.reduceLeDiff, Nat.reduceBEq, Int.reduceBEq, Int.reduceBNe, String.reduceBEq, Int.reduceEq, Int.reduceLT, Int.reduceLE, Int.reduceGE, Int.reduceGT, vrows_len, f1, f2, h3, b1, b2, b3, b4, t1, t2, upv_len, upv_app, vrows_app, callE, resSV, AV.flat, CV.flat, TV.flat, hAll]
       | refine Or.inl ⟨_, ⟨fun _ _ => rfl, hrow⟩, ?_⟩
       | refine ⟨_, ⟨fun _ _ => rfl, hrow⟩, ?_⟩
       | (refine ite_guard (fun hg => ?_) (fun hg => ?_) <;> (try simp only [Bool.not_eq_true, Bool.not_eq_false, Decidable.not_not] at hg) <;> (first | have hgb : (_ : Bool) = _ := hg | have hgb := ff hg | have hgb := tt hg))
       | (refine ⟨fun hc => ht _ ?_, fun hc => hf _ ?_⟩ <;> clear ht hf KT KF)
       | fail)
      rfl
/-- How many rows are nearest to each. -/
def cnts (c l : List (List Int)) : List Int := (List.range c.length).map fun i => ((groupOf c i l).length : Int)
theorem cnts_len (c l : List (List Int)) : (cnts c l).length = c.length := by simp [cnts]
theorem cnts_get {c l : List (List Int)} {i : Nat} (h : i < c.length) : (cnts c l)[i]? = some ((groupOf c i l).length : Int) := by simp [cnts, h]
theorem cnts_nil (c : List (List Int)) : List.replicate c.length [CV.t (.int .i64 0)] = up (ints (cnts c [])) := by
  symm; rw [List.eq_replicate_iff]; simp [up, ints, cnts, groupOf]
theorem cnts_snoc {c l : List (List Int)} {v : List Int} (h : at' v c < c.length) : (cnts c l).set (at' v c) (((groupOf c (at' v c) l).length : Int) + 1) = cnts c (l ++ [v]) := by
  apply List.ext_getElem
  · simp [cnts]
  · intro i h1 h2
    by_cases e : at' v c = i
    · subst e; simp [cnts, group_snoc]
    · rw [List.getElem_set_ne e]; simp [cnts, group_snoc, e]
/-- The sums, each list held by its cell: the first k laid. -/
def srows (n k : Nat) (f : Nat → List Int) : List (List CV) := (List.range n).map fun i => if i < k then [CV.own 1 (up (ints (f i)))] else [CV.own 1 []]
theorem srows_len (n k : Nat) (f : Nat → List Int) : (srows n k f).length = n := by simp [srows]
theorem srows_zero (n : Nat) (f : Nat → List Int) : List.replicate n [CV.own 1 []] = srows n 0 f := by
  symm; rw [List.eq_replicate_iff]; simp [srows]
theorem srows_get {n k : Nat} {f : Nat → List Int} {i : Nat} (h : i < n) (hk : i < k) : (srows n k f)[i]? = some [CV.own 1 (up (ints (f i)))] := by simp [srows, h, hk]
theorem srows_get0 {n k : Nat} {f : Nat → List Int} {i : Nat} (h : i < n) (hk : ¬ i < k) : (srows n k f)[i]? = some [CV.own 1 []] := by simp [srows, h, hk]
theorem srows_has {nm : Nat} (n k : Nat) (f : Nat → List Int) : hasRows nm (srows n k f) = false := by
  have : ∀ l : List Nat, hasRows nm (l.map fun i => if i < k then [CV.own 1 (up (ints (f i)))] else [CV.own 1 []]) = false := by
    intro l
    induction l with
    | nil => rfl
    | cons a t ih =>
      simp only [List.map_cons, hasRows, ih, Bool.or_false]
      split <;> simp [hasL, CV.has, hasRows_up, hasRows]
  exact this _
theorem srows_succ {n k : Nat} {f : Nat → List Int} (h : k < n) : (srows n k f).set k [CV.own 1 (up (ints (f k)))] = srows n (k + 1) f := by
  apply List.ext_getElem
  · simp [srows]
  · intro i h1 h2
    by_cases e : k = i
    · subst e; simp [srows]
    · rw [List.getElem_set_ne e]; simp [srows]; grind
theorem srows_set {n i : Nat} {f g : Nat → List Int} (h : i < n) (hg : ∀ j, j ≠ i → g j = f j) : (srows n n f).set i [CV.own 1 (up (ints (g i)))] = srows n n g := by
  apply List.ext_getElem
  · simp [srows]
  · intro j h1 h2
    simp only [srows, List.length_set, List.length_map, List.length_range] at h1
    by_cases e : i = j
    · subst e; simp [srows, h]
    · rw [List.getElem_set_ne e]; simp [srows, hg j (Ne.symm e)]
theorem srows_view (n : Nat) (f : Nat → List Int) : viewRows (srows n n f) = some (vrows ((List.range n).map f)) := by
  have h := viewRows_map (fun i => ints (f i)) (List.range n)
  have e : srows n n f = (List.range n).map fun i => [CV.own 1 (up (ints (f i)))] := by
    refine List.map_congr_left fun i hi => ?_
    rw [List.mem_range] at hi
    rw [if_pos hi]
  rw [e, h]; simp [vrows, vec_eq]
/-- The sums of the groups of some rows. -/
def gsum (d : Nat) (c l : List (List Int)) (i : Nat) : List Int := sums d (groupOf c i l)
theorem gsum_snoc {d : Nat} {c l : List (List Int)} {v : List Int} {i : Nat} (h : i ≠ at' v c) : gsum d c (l ++ [v]) i = gsum d c l i := by
  unfold gsum; rw [group_snoc, if_neg (Ne.symm h)]
theorem gsum_nil (d : Nat) (c : List (List Int)) : ∀ n k, srows n k (fun _ => sums d []) = srows n k (gsum d c []) := fun n k => rfl
set_option maxHeartbeats 4000000 in
theorem step2_own (l c : List (List Int)) (hl : SizedAll l) (hc : SizedAll c) (hb : l.length + c.length ≤ 5864062014634) (hok : okStep l c = true) : Spec Try.prog 16 [.v (.t (vecs l)), .v (.t (vecs c))] [] [.v (.mr 140 0 c.length)] [(140, .cells 1 (orows (stepF l c)))] := by
  obtain ⟨hl0, hc0, d, hd, hlm, hcm⟩ := okStep_lens hok
  have f1 := ff (show ¬ (l.length : Int) = 0 by omega)
  have f2 := ff (show ¬ (c.length : Int) = 0 by omega)
  have h3 : okRows (l ++ c) = true := by simp only [okStep, Bool.and_eq_true] at hok; exact hok.2
  have b1 := tt (show l.length * 24 ≤ 140737488355328 by omega)
  have b2 := tt (show l.length ≤ 9223372036854775807 by omega)
  have b3 := tt (show (l.length + c.length) * 24 ≤ 140737488355328 by omega)
  have b4 := tt (show l.length + c.length ≤ 9223372036854775807 by omega)
  have b5 := tt (show 0 ≤ (c.length : Int) by omega)
  have b6 := tt (show (c.length : Int) ≤ 9223372036854775807 by omega)
  have b7 := tt (show (c.length : Int) * 24 ≤ 140737488355328 by omega)
  have b8 := tt (show (c.length : Int) * 8 ≤ 140737488355328 by omega)
  have hrow := rows2_spec (l ++ c) (hl.app hc hb)
  rw [vecs_eq] at hrow
  have t1 : (vrows l).take l.length = vrows l := List.take_of_length_le (by simp [vrows_len])
  have t2 : (vrows (l ++ c)).take (l.length + c.length) = vrows (l ++ c) := List.take_of_length_le (by simp [vrows_len])
  have g0 := srows_zero c.length (gsum d c [])
  have g1 := cnts_nil c
  refine spec_by Try.func16 rfl mixed tOk evOk (n := 142) rfl (by simp) (by simp) ?_
  rw [initSt_mk, show Try.f16.results.toList = [.tmp 4] from rfl]
  simp only [initL, AV.sv, List.map_cons, List.map_nil, Nat.reduceAdd, Nat.zero_add, vecs_eq]
  repeat' (first
   | (with_reducible first | refine s_seq ?_ | refine s_block ?_ | refine s_region fun kr hr => ?_)
   | (with_reducible refine s_text tOk [26, 28, 34, 37, 50, 139, 140, 1000, 1001, 1002, 1003] (by kernel_rfl) (by simp [HeapIn, namers, namerDst, namerOp, namedOp, namedFn, ownLoad, Blk.has, hasRows, hasL, CV.has, hasRows_up, hasM_up, hasRows_append, vrows_len, f1, f2, h3, b1, b2, b3, b4, b5, b6, b7, b8, t1, t2, g0, g1, srows_has, upv_len, upv_app, vrows_app]; (try ((repeat' apply And.intro) <;> intros <;> omega))) fun kr hr => ?_)
   | (with_reducible first | refine s_op fun K' hk => ?_ | refine t_op fun K' hk => ?_ | (refine hk _ ?_; clear hk K') | (refine ht _ ?_; clear ht hf KT KF) | (refine hf _ ?_; clear ht hf KT KF) | ((first | refine s_nil ?_ | refine t_nil ?_); refine hr _ ?_; clear hr kr))
   | ((with_reducible refine n_seqK [0, 1, 2, 3, 4, 5, 6, 7, 8, 9, 10, 11, 12, 13, 14, 15, 18, 22, 23, 31, 41, 45, 46, 47, 55, 76, 98, 116] [26, 28, 34, 37, 50, 139, 140] ?_); simp only [mk_keep, keepL, List.mem_cons, List.not_mem_nil, Nat.reduceEqDiff, Nat.zero_ne_one, Nat.one_ne_zero, reduceCtorEq, or_false, false_or, or_true, true_or, or_self, eq_self, ↓reduceIte])
   | (with_reducible first | refine s_cond fun KT KF ht hf => ?_ | refine s_skip ?_)
   | ((with_reducible refine s_long ?_); simp only [List.cons_append, List.nil_append])
   | (with_reducible first | refine s_exit ?_ | refine s_ret ?_ | refine e_seq ?_ | refine r_seq ?_ | refine n_block ?_ | refine e_block ?_ | refine r_block ?_ | refine e_loop ?_ | refine r_loop ?_ | refine e_round ?_ | refine r_round ?_ | refine s_round ?_ | refine f_block ?_ (by decide) | refine r_res ?_ | refine n_res ?_)
   | (simp only [hgb, go_sem, Int.reduceToNat, ↓reduceIte, reduceCtorEq, Nat.reduceEqDiff, Nat.reduceAdd, Nat.reduceMul, Nat.reduceLT, Nat.reduceLeDiff, Nat.reduceBEq, Int.reduceBEq, Int.reduceBNe, String.reduceBEq, Int.reduceEq, Int.reduceLT, Int.reduceLE, Int.reduceGE, Int.reduceGT, vrows_len, f1, f2, h3, b1, b2, b3, b4, b5, b6, b7, b8, t1, t2, g0, g1, srows_has, upv_len, upv_app, vrows_app, callE, resSV, AV.flat, CV.flat, TV.flat]; clear hgb)
   | simp only [go_sem, Int.reduceToNat, ↓reduceIte, reduceCtorEq, Nat.reduceEqDiff, Nat.reduceAdd, Nat.reduceMul, Nat.reduceLT, Nat.reduceLeDiff, Nat.reduceBEq, Int.reduceBEq, Int.reduceBNe, String.reduceBEq, Int.reduceEq, Int.reduceLT, Int.reduceLE, Int.reduceGE, Int.reduceGT, vrows_len, f1, f2, h3, b1, b2, b3, b4, b5, b6, b7, b8, t1, t2, g0, g1, srows_has, upv_len, upv_app, vrows_app, callE, resSV, AV.flat, CV.flat, TV.flat, hAll]
   | refine Or.inl ⟨_, ⟨fun _ _ => rfl, hrow⟩, ?_⟩
   | refine ⟨_, ⟨fun _ _ => rfl, hrow⟩, ?_⟩
   | (refine ite_guard (fun hg => ?_) (fun hg => ?_) <;> (try simp only [Bool.not_eq_true, Bool.not_eq_false, Decidable.not_not] at hg) <;> (first | have hgb : (_ : Bool) = _ := hg | have hgb := ff hg | have hgb := tt hg))
   | (refine ⟨fun hc => ht _ ?_, fun hc => hf _ ?_⟩ <;> clear ht hf KT KF)
   | fail)
  have hl00 := get_of_lt hl0
  have hld := (hlm _ (List.getElem_mem hl0)).2
  have c1 := tt (show 0 ≤ (d : Int) by omega)
  have c2 := tt (show (d : Int) ≤ 9223372036854775807 by omega)
  have c3 := tt (show (d : Int) * 8 ≤ 140737488355328 by omega)
  have c4 := sums_nil d
  have hdpos : 0 < d := by
    have := (hlm _ (List.getElem_mem hl0)).1
    simp only [may, Bool.and_eq_true, decide_eq_true_eq] at this
    omega
  refine w_loop [0, 1, 4, 6, 7, 8] [34, 37] (σ := Nat) (fun k st => st = mk [(0, V (.sl 1 (vrows l))), (1, V (.sl 1 (vrows c))), (4, .c (.own 1 [])), (6, .c (.mr 34 0 c.length)), (7, .c (.mr 37 0 c.length)), (8, I k)] [(34, .cells 1 (up (ints (cnts c [])))), (37, .cells 1 (srows c.length k (gsum d c [])))] ∧ k ≤ c.length) (fun k => c.length - k) 0 ?_ ?_
  · simp only [go_sem, Int.reduceToNat, ↓reduceIte, reduceCtorEq, Nat.reduceEqDiff, Nat.reduceAdd, Nat.reduceMul, Nat.reduceLT, Nat.reduceLeDiff, Nat.reduceBEq, Int.reduceBEq, Int.reduceBNe, String.reduceBEq, Int.reduceEq, Int.reduceLT, Int.reduceLE, Int.reduceGE, Int.reduceGT, mk_keep, keepL, List.mem_cons, List.not_mem_nil, Nat.reduceEqDiff, Nat.zero_ne_one, Nat.one_ne_zero, reduceCtorEq, or_false, false_or, or_true, true_or, or_self, eq_self, ↓reduceIte]
    first | exact ⟨rfl, Nat.zero_le _⟩ | exact Nat.zero_le _
  · rintro k st' ⟨rfl, hk⟩
    by_cases hlt : k < c.length
    · have e1 := ltI hlt
      have e3 := wUp hlt (by omega)
      have e4 := tt (show (k : Int) < c.length by omega)
      have e5 := srows_get0 (f := gsum d c []) hlt (Nat.lt_irrefl k)
      repeat' (first
       | (with_reducible first | refine s_seq ?_ | refine s_block ?_ | refine s_region fun kr hr => ?_)
       | (with_reducible refine s_text tOk [26, 28, 34, 37, 50, 139, 140, 1000, 1001, 1002, 1003] (by kernel_rfl) (by simp [HeapIn, namers, namerDst, namerOp, namedOp, namedFn, ownLoad, Blk.has, hasRows, hasL, CV.has, hasRows_up, hasM_up, hasRows_append, e1, e3, e4, e5, c1, c2, c3, c4, hl00, hld, vrows_get, vrows_len, vec_eq, ints_len, srows_len, srows_has, List.length_set]; (try ((repeat' apply And.intro) <;> intros <;> omega))) fun kr hr => ?_)
       | (with_reducible first | refine s_op fun K' hk => ?_ | refine t_op fun K' hk => ?_ | (refine hk _ ?_; clear hk K') | (refine ht _ ?_; clear ht hf KT KF) | (refine hf _ ?_; clear ht hf KT KF) | ((first | refine s_nil ?_ | refine t_nil ?_); refine hr _ ?_; clear hr kr))
       | ((with_reducible refine n_seqK [0, 1, 2, 3, 4, 5, 6, 7, 8, 9, 10, 11, 12, 13, 14, 15, 18, 22, 23, 31, 41, 45, 46, 47, 55, 76, 98, 116] [26, 28, 34, 37, 50, 139, 140] ?_); simp only [mk_keep, keepL, List.mem_cons, List.not_mem_nil, Nat.reduceEqDiff, Nat.zero_ne_one, Nat.one_ne_zero, reduceCtorEq, or_false, false_or, or_true, true_or, or_self, eq_self, ↓reduceIte])
       | (with_reducible first | refine s_cond fun KT KF ht hf => ?_ | refine s_skip ?_)
       | ((with_reducible refine s_long ?_); simp only [List.cons_append, List.nil_append])
       | (with_reducible first | refine s_exit ?_ | refine s_ret ?_ | refine e_seq ?_ | refine r_seq ?_ | refine n_block ?_ | refine e_block ?_ | refine r_block ?_ | refine e_loop ?_ | refine r_loop ?_ | refine e_round ?_ | refine r_round ?_ | refine s_round ?_ | refine f_block ?_ (by decide) | refine r_res ?_ | refine n_res ?_)
       | (simp only [hgb, go_sem, Int.reduceToNat, ↓reduceIte, reduceCtorEq, Nat.reduceEqDiff, Nat.reduceAdd, Nat.reduceMul, Nat.reduceLT, Nat.reduceLeDiff, Nat.reduceBEq, Int.reduceBEq, Int.reduceBNe, String.reduceBEq, Int.reduceEq, Int.reduceLT, Int.reduceLE, Int.reduceGE, Int.reduceGT, e1, e3, e4, e5, c1, c2, c3, c4, hl00, hld, vrows_get, vrows_len, vec_eq, ints_len, srows_len, srows_has, List.length_set]; clear hgb)
       | simp only [go_sem, Int.reduceToNat, ↓reduceIte, reduceCtorEq, Nat.reduceEqDiff, Nat.reduceAdd, Nat.reduceMul, Nat.reduceLT, Nat.reduceLeDiff, Nat.reduceBEq, Int.reduceBEq, Int.reduceBNe, String.reduceBEq, Int.reduceEq, Int.reduceLT, Int.reduceLE, Int.reduceGE, Int.reduceGT, e1, e3, e4, e5, c1, c2, c3, c4, hl00, hld, vrows_get, vrows_len, vec_eq, ints_len, srows_len, srows_has, List.length_set, hAll]
       | (refine ite_guard (fun hg => ?_) (fun hg => ?_) <;> (try simp only [Bool.not_eq_true, Bool.not_eq_false, Decidable.not_not] at hg) <;> (first | have hgb : (_ : Bool) = _ := hg | have hgb := ff hg | have hgb := tt hg))
       | (refine ⟨fun hc => ht _ ?_, fun hc => hf _ ?_⟩ <;> clear ht hf KT KF)
       | fail)
      have hnz : up (ints (sums d [])) ≠ [] := by
        have := sums_len d []
        intro h
        have h2 := congrArg List.length h
        rw [upi_len, this] at h2
        simp at h2; omega
      have hg2 : ((srows c.length k (gsum d c [])).set k [CV.mr 50 0 d])[k]? = some [CV.mr 50 0 d] := List.getElem?_set_self (by rw [srows_len]; exact hlt)
      refine n_loopG _ (gho_fold (k := 37) (i := k) (j := 0) (nm := 50) (sz := 1) (sz' := 1) (rows := (srows c.length k (gsum d c [])).set k [CV.mr 50 0 d]) (rows' := up (ints (sums d []))) (row := [CV.mr 50 0 d]) (by decide) (by simp [mk_heap, hL]) (by simp [mk_heap, hL]) hg2 (by rw [upi_len, sums_len]; rfl) hnz) ?_
      rw [mk_fold]
      refine n_loop (k + 1) [0, 1, 4, 6, 7, 8] [34, 37] ⟨?_, hlt⟩ (by omega)
      have e6 := srows_succ (f := gsum d c []) hlt
      have e7 : gsum d c [] k = sums d [] := rfl
      rw [e7] at e6
      simp only [go_sem, Int.reduceToNat, ↓reduceIte, reduceCtorEq, Nat.reduceEqDiff, Nat.reduceAdd, Nat.reduceMul, Nat.reduceLT, Nat.reduceLeDiff, Nat.reduceBEq, Int.reduceBEq, Int.reduceBNe, String.reduceBEq, Int.reduceEq, Int.reduceLT, Int.reduceLE, Int.reduceGE, Int.reduceGT, mk_keep, keepL, List.mem_cons, List.not_mem_nil, Nat.reduceEqDiff, Nat.zero_ne_one, Nat.one_ne_zero, reduceCtorEq, or_false, false_or, or_true, true_or, or_self, eq_self, ↓reduceIte, set_modify hg2, List.set_set, e6]
    · have e1 := nltI hlt
      obtain rfl : k = c.length := by omega
      repeat' (first
       | (with_reducible first | refine s_seq ?_ | refine s_block ?_ | refine s_region fun kr hr => ?_)
       | (with_reducible refine s_text tOk [26, 28, 34, 37, 50, 139, 140, 1000, 1001, 1002, 1003] (by kernel_rfl) (by simp [HeapIn, namers, namerDst, namerOp, namedOp, namedFn, ownLoad, Blk.has, hasRows, hasL, CV.has, hasRows_up, hasM_up, hasRows_append, e1, vrows_len]; (try ((repeat' apply And.intro) <;> intros <;> omega))) fun kr hr => ?_)
       | (with_reducible first | refine s_op fun K' hk => ?_ | refine t_op fun K' hk => ?_ | (refine hk _ ?_; clear hk K') | (refine ht _ ?_; clear ht hf KT KF) | (refine hf _ ?_; clear ht hf KT KF) | ((first | refine s_nil ?_ | refine t_nil ?_); refine hr _ ?_; clear hr kr))
       | ((with_reducible refine n_seqK [0, 1, 2, 3, 4, 5, 6, 7, 8, 9, 10, 11, 12, 13, 14, 15, 18, 22, 23, 31, 41, 45, 46, 47, 55, 76, 98, 116] [26, 28, 34, 37, 50, 139, 140] ?_); simp only [mk_keep, keepL, List.mem_cons, List.not_mem_nil, Nat.reduceEqDiff, Nat.zero_ne_one, Nat.one_ne_zero, reduceCtorEq, or_false, false_or, or_true, true_or, or_self, eq_self, ↓reduceIte])
       | (with_reducible first | refine s_cond fun KT KF ht hf => ?_ | refine s_skip ?_)
       | ((with_reducible refine s_long ?_); simp only [List.cons_append, List.nil_append])
       | (with_reducible first | refine s_exit ?_ | refine s_ret ?_ | refine e_seq ?_ | refine r_seq ?_ | refine n_block ?_ | refine e_block ?_ | refine r_block ?_ | refine e_loop ?_ | refine r_loop ?_ | refine e_round ?_ | refine r_round ?_ | refine s_round ?_ | refine f_block ?_ (by decide) | refine r_res ?_ | refine n_res ?_)
       | (simp only [hgb, go_sem, Int.reduceToNat, ↓reduceIte, reduceCtorEq, Nat.reduceEqDiff, Nat.reduceAdd, Nat.reduceMul, Nat.reduceLT, Nat.reduceLeDiff, Nat.reduceBEq, Int.reduceBEq, Int.reduceBNe, String.reduceBEq, Int.reduceEq, Int.reduceLT, Int.reduceLE, Int.reduceGE, Int.reduceGT, e1, vrows_len]; clear hgb)
       | simp only [go_sem, Int.reduceToNat, ↓reduceIte, reduceCtorEq, Nat.reduceEqDiff, Nat.reduceAdd, Nat.reduceMul, Nat.reduceLT, Nat.reduceLeDiff, Nat.reduceBEq, Int.reduceBEq, Int.reduceBNe, String.reduceBEq, Int.reduceEq, Int.reduceLT, Int.reduceLE, Int.reduceGE, Int.reduceGT, e1, vrows_len, hAll]
       | (refine ite_guard (fun hg => ?_) (fun hg => ?_) <;> (try simp only [Bool.not_eq_true, Bool.not_eq_false, Decidable.not_not] at hg) <;> (first | have hgb : (_ : Bool) = _ := hg | have hgb := ff hg | have hgb := tt hg))
       | (refine ⟨fun hc => ht _ ?_, fun hc => hf _ ?_⟩ <;> clear ht hf KT KF)
       | fail)
      refine w_loop [0, 1, 4, 6, 7, 9] [34, 37] (σ := Nat) (fun k st => st = mk [(0, V (.sl 1 (vrows l))), (1, V (.sl 1 (vrows c))), (4, .c (.own 1 [])), (6, .c (.mr 34 0 c.length)), (7, .c (.mr 37 0 c.length)), (9, I k)] [(34, .cells 1 (up (ints (cnts c (l.take k))))), (37, .cells 1 (srows c.length c.length (gsum d c (l.take k))))] ∧ k ≤ l.length) (fun k => l.length - k) 0 ?_ ?_
      · simp only [go_sem, Int.reduceToNat, ↓reduceIte, reduceCtorEq, Nat.reduceEqDiff, Nat.reduceAdd, Nat.reduceMul, Nat.reduceLT, Nat.reduceLeDiff, Nat.reduceBEq, Int.reduceBEq, Int.reduceBNe, String.reduceBEq, Int.reduceEq, Int.reduceLT, Int.reduceLE, Int.reduceGE, Int.reduceGT, mk_keep, keepL, List.mem_cons, List.not_mem_nil, Nat.reduceEqDiff, Nat.zero_ne_one, Nat.one_ne_zero, reduceCtorEq, or_false, false_or, or_true, true_or, or_self, eq_self, ↓reduceIte]
        first | exact ⟨rfl, Nat.zero_le _⟩ | exact Nat.zero_le _
      · rintro k st' ⟨rfl, hk⟩
        by_cases hlt : k < l.length
        · have e1 := ltI hlt
          have e2 := get_of_lt hlt
          have e3 := wUp hlt (by omega)
          obtain ⟨ha, hat⟩ := at_eq l[k] hc0
          have hn := near2_spec l[k] c (hl.at hlt) hc
          rw [ha, vecs_eq, vec_eq] at hn
          have e4 := tt (show (at' l[k] c : Int) < c.length by omega)
          have hsn := cnts_snoc (l := l.take k) (v := l[k]) hat
          have hgs := fun i => gsum_snoc (d := d) (c := c) (l := l.take k) (v := l[k]) (i := i)
          have hcg := cnts_get (c := c) (l := l.take k) hat
          have hlk := (hlm _ (List.getElem_mem hlt)).2
          have hmk := (hlm _ (List.getElem_mem hlt)).1
          rw [← List.take_succ_eq_append_getElem hlt] at hsn hgs
          have hgl : (groupOf c (at' l[k] c) (l.take k)).length ≤ k := Nat.le_trans (List.length_filter_le _ _) (by simp; omega)
          have hgm : ∀ v ∈ groupOf c (at' l[k] c) (l.take k), ∀ j, -32768 ≤ v.getD j 0 ∧ v.getD j 0 ≤ 32767 := fun v hv j => may_getD (hlm v (List.mem_of_mem_take (List.mem_filter.1 hv).1)).1 j
          have hgd : gsum d c (l.take k) (at' l[k] c) = sums d (groupOf c (at' l[k] c) (l.take k)) := rfl
          have hgd1 : gsum d c (l.take (k + 1)) (at' l[k] c) = sums d (groupOf c (at' l[k] c) (l.take k) ++ [l[k]]) := by
            unfold gsum
            rw [List.take_succ_eq_append_getElem hlt, group_snoc, if_pos rfl]
          generalize hat' : at' l[k] c = at0 at *
          generalize hgr : groupOf c at0 (l.take k) = g at *
          have e6 : IntKind.wrap .i64 ((g.length : Int) + 1) = (g.length : Int) + 1 := wI (by omega) (by omega)
          have hrow0 := srows_get (f := gsum d c (l.take k)) hat hat
          repeat' (first
           | (with_reducible first | refine s_seq ?_ | refine s_block ?_ | refine s_region fun kr hr => ?_)
           | (with_reducible refine s_text tOk [26, 28, 34, 37, 50, 139, 140, 1000, 1001, 1002, 1003] (by kernel_rfl) (by simp [HeapIn, namers, namerDst, namerOp, namedOp, namedFn, ownLoad, Blk.has, hasRows, hasL, CV.has, hasRows_up, hasM_up, hasRows_append, e1, e2, e4, e6, hcg, hsn, vrows_get, vrows_len, vec_eq, ints_get, ints_len, upi_get, upi_len, up_set1, cnts_len]; (try ((repeat' apply And.intro) <;> intros <;> omega))) fun kr hr => ?_)
           | (with_reducible first | refine s_op fun K' hk => ?_ | refine t_op fun K' hk => ?_ | (refine hk _ ?_; clear hk K') | (refine ht _ ?_; clear ht hf KT KF) | (refine hf _ ?_; clear ht hf KT KF) | ((first | refine s_nil ?_ | refine t_nil ?_); refine hr _ ?_; clear hr kr))
           | ((with_reducible refine n_seqK [0, 1, 2, 3, 4, 5, 6, 7, 8, 9, 10, 11, 12, 13, 14, 15, 18, 22, 23, 31, 41, 45, 46, 47, 55, 76, 98, 116] [26, 28, 34, 37, 50, 139, 140] ?_); simp only [mk_keep, keepL, List.mem_cons, List.not_mem_nil, Nat.reduceEqDiff, Nat.zero_ne_one, Nat.one_ne_zero, reduceCtorEq, or_false, false_or, or_true, true_or, or_self, eq_self, ↓reduceIte])
           | (with_reducible first | refine s_cond fun KT KF ht hf => ?_ | refine s_skip ?_)
           | ((with_reducible refine s_long ?_); simp only [List.cons_append, List.nil_append])
           | (with_reducible first | refine s_exit ?_ | refine s_ret ?_ | refine e_seq ?_ | refine r_seq ?_ | refine n_block ?_ | refine e_block ?_ | refine r_block ?_ | refine e_loop ?_ | refine r_loop ?_ | refine e_round ?_ | refine r_round ?_ | refine s_round ?_ | refine f_block ?_ (by decide) | refine r_res ?_ | refine n_res ?_)
           | (simp only [hgb, go_sem, Int.reduceToNat, ↓reduceIte, reduceCtorEq, Nat.reduceEqDiff, Nat.reduceAdd, Nat.reduceMul, Nat.reduceLT, Nat.reduceLeDiff, Nat.reduceBEq, Int.reduceBEq, Int.reduceBNe, String.reduceBEq, Int.reduceEq, Int.reduceLT, Int.reduceLE, Int.reduceGE, Int.reduceGT, e1, e2, e4, e6, hcg, hsn, vrows_get, vrows_len, vec_eq, ints_get, ints_len, upi_get, upi_len, up_set1, cnts_len, callE, resSV, AV.flat, CV.flat, TV.flat]; clear hgb)
           | simp only [go_sem, Int.reduceToNat, ↓reduceIte, reduceCtorEq, Nat.reduceEqDiff, Nat.reduceAdd, Nat.reduceMul, Nat.reduceLT, Nat.reduceLeDiff, Nat.reduceBEq, Int.reduceBEq, Int.reduceBNe, String.reduceBEq, Int.reduceEq, Int.reduceLT, Int.reduceLE, Int.reduceGE, Int.reduceGT, e1, e2, e4, e6, hcg, hsn, vrows_get, vrows_len, vec_eq, ints_get, ints_len, upi_get, upi_len, up_set1, cnts_len, callE, resSV, AV.flat, CV.flat, TV.flat, hAll]
           | refine Or.inl ⟨_, ⟨fun _ _ => rfl, hn⟩, ?_⟩
           | refine ⟨_, ⟨fun _ _ => rfl, hn⟩, ?_⟩
           | (refine ite_guard (fun hg => ?_) (fun hg => ?_) <;> (try simp only [Bool.not_eq_true, Bool.not_eq_false, Decidable.not_not] at hg) <;> (first | have hgb : (_ : Bool) = _ := hg | have hgb := ff hg | have hgb := tt hg))
           | (refine ⟨fun hc => ht _ ?_, fun hc => hf _ ?_⟩ <;> clear ht hf KT KF)
           | fail)
          refine w_loopG _ (gho_unfold (k := 37) (i := at0) (j := 0) (nm := 82) (sz := 1) (sz' := 1) (rows := srows c.length c.length (gsum d c (l.take k))) (rows' := up (ints (gsum d c (l.take k) at0))) (row := [CV.own 1 (up (ints (gsum d c (l.take k) at0)))]) (by decide) (by decide) (by simp [mk_heap, hL]) hrow0 rfl (by rw [fresh_t]; exact trivial; simp only [freshL, Blk.has, srows_has, hasRows_up]; rfl) (hasRows_up _ _)) ?_
          rw [mk_unfold]
          have hul : (up (ints (gsum d c (l.take k) at0))).length = d := by rw [upi_len, hgd, sums_len]
          have hmod := set_modify (c := .mr 82 0 d) hrow0
          have hg1 : ((srows c.length c.length (gsum d c (l.take k))).set at0 [CV.mr 82 0 d])[at0]? = some [CV.mr 82 0 d] := List.getElem?_set_self (by rw [srows_len]; exact hat)
          have hs0 := sumsJ_zero d g l[k]
          rw [hul, hmod, hgd, ← hs0]
          refine w_loop [0, 1, 4, 6, 7, 9, 10, 11] [34, 37, 82] (σ := Nat) (fun j st => st = mk [(0, V (.sl 1 (vrows l))), (1, V (.sl 1 (vrows c))), (4, .c (.own 1 [])), (6, .c (.mr 34 0 c.length)), (7, .c (.mr 37 0 c.length)), (9, I k), (10, I at0), (11, I j)] [(34, .cells 1 (up (ints (cnts c (l.take (k + 1)))))), (37, .cells 1 ((srows c.length c.length (gsum d c (l.take k))).set at0 [CV.mr 82 0 d])), (82, .cells 1 (up (ints (sumsJ d g l[k] j))))] ∧ j ≤ d) (fun j => d - j) 0 ?_ ?_
          · simp only [go_sem, Int.reduceToNat, ↓reduceIte, reduceCtorEq, Nat.reduceEqDiff, Nat.reduceAdd, Nat.reduceMul, Nat.reduceLT, Nat.reduceLeDiff, Nat.reduceBEq, Int.reduceBEq, Int.reduceBNe, String.reduceBEq, Int.reduceEq, Int.reduceLT, Int.reduceLE, Int.reduceGE, Int.reduceGT, mk_keep, keepL, List.mem_cons, List.not_mem_nil, Nat.reduceEqDiff, Nat.zero_ne_one, Nat.one_ne_zero, reduceCtorEq, or_false, false_or, or_true, true_or, or_self, eq_self, ↓reduceIte]
            first | exact ⟨rfl, Nat.zero_le _⟩ | exact Nat.zero_le _
          · rintro j st' ⟨rfl, hj⟩
            have hsx : ∀ nm, ¬ nm = 82 → hasRows nm ((srows c.length c.length (gsum d c (l.take k))).set at0 [CV.mr 82 0 d]) = false := fun nm h => hasRows_set (srows_has _ _ _) (by simp [hasL, CV.has]; omega)
            have hsi := eq_true (fun nm (h : hasRows nm ((srows c.length c.length (gsum d c (l.take k))).set at0 [CV.mr 82 0 d]) = true) => show nm = 34 ∨ nm = 37 ∨ nm = 82 from .inr (.inr (Decidable.byContradiction fun hne => by rw [hsx nm hne] at h; cases h)))
            by_cases hjt : j < d
            · have k1 := ltI hjt
              have k3 := wUp hjt (by omega)
              have k4 : l[k][j]? = some (l[k].getD j 0) := by rw [List.getD_eq_getElem?_getD, List.getElem?_eq_getElem (by omega)]; rfl
              have k5 := sumsJ_get g l[k] hjt
              have hb1 := sumAt_le hgm j
              have hb2 := may_getD hmk j
              have k6 : IntKind.wrap .i64 (sumAt g j + l[k].getD j 0) = sumAt g j + l[k].getD j 0 := wI (by omega) (by omega)
              have k7 := sumsJ_set g l[k] hjt
              repeat' (first
               | (with_reducible first | refine s_seq ?_ | refine s_block ?_ | refine s_region fun kr hr => ?_)
               | (with_reducible refine s_text tOk [34, 37, 82] (by kernel_rfl) (by simp [HeapIn, namers, namerDst, namerOp, namedOp, namedFn, ownLoad, Blk.has, hasRows, hasL, CV.has, hasRows_up, hasM_up, hasRows_append, e2, e4, k1, k3, k4, k5, k6, k7, hg1, hlk, hsx, hsi, vrows_get, vrows_len, vec_eq, ints_get, ints_len, upi_get, upi_len, up_set1, sumsJ_len, srows_len, List.length_set]; (try ((repeat' apply And.intro) <;> intros <;> omega))) fun kr hr => ?_)
               | (with_reducible first | refine s_op fun K' hk => ?_ | refine t_op fun K' hk => ?_ | (refine hk _ ?_; clear hk K') | (refine ht _ ?_; clear ht hf KT KF) | (refine hf _ ?_; clear ht hf KT KF) | ((first | refine s_nil ?_ | refine t_nil ?_); refine hr _ ?_; clear hr kr))
               | ((with_reducible refine n_seqK [0, 1, 2, 3, 4, 5, 6, 7, 8, 9, 10, 11, 12, 13, 14, 15, 18, 22, 23, 31, 41, 45, 46, 47, 55, 76, 98, 116] [26, 28, 34, 37, 50, 82, 139, 140] ?_); simp only [mk_keep, keepL, List.mem_cons, List.not_mem_nil, Nat.reduceEqDiff, Nat.zero_ne_one, Nat.one_ne_zero, reduceCtorEq, or_false, false_or, or_true, true_or, or_self, eq_self, ↓reduceIte])
               | (with_reducible first | refine s_cond fun KT KF ht hf => ?_ | refine s_skip ?_)
               | ((with_reducible refine s_long ?_); simp only [List.cons_append, List.nil_append])
               | (with_reducible first | refine s_exit ?_ | refine s_ret ?_ | refine e_seq ?_ | refine r_seq ?_ | refine n_block ?_ | refine e_block ?_ | refine r_block ?_ | refine e_loop ?_ | refine r_loop ?_ | refine e_round ?_ | refine r_round ?_ | refine s_round ?_ | refine f_block ?_ (by decide) | refine r_res ?_ | refine n_res ?_)
               | (simp only [hgb, go_sem, Int.reduceToNat, ↓reduceIte, reduceCtorEq, Nat.reduceEqDiff, Nat.reduceAdd, Nat.reduceMul, Nat.reduceLT, Nat.reduceLeDiff, Nat.reduceBEq, Int.reduceBEq, Int.reduceBNe, String.reduceBEq, Int.reduceEq, Int.reduceLT, Int.reduceLE, Int.reduceGE, Int.reduceGT, e2, e4, k1, k3, k4, k5, k6, k7, hg1, hlk, hsx, hsi, vrows_get, vrows_len, vec_eq, ints_get, ints_len, upi_get, upi_len, up_set1, sumsJ_len, srows_len, List.length_set]; clear hgb)
               | simp only [go_sem, Int.reduceToNat, ↓reduceIte, reduceCtorEq, Nat.reduceEqDiff, Nat.reduceAdd, Nat.reduceMul, Nat.reduceLT, Nat.reduceLeDiff, Nat.reduceBEq, Int.reduceBEq, Int.reduceBNe, String.reduceBEq, Int.reduceEq, Int.reduceLT, Int.reduceLE, Int.reduceGE, Int.reduceGT, e2, e4, k1, k3, k4, k5, k6, k7, hg1, hlk, hsx, hsi, vrows_get, vrows_len, vec_eq, ints_get, ints_len, upi_get, upi_len, up_set1, sumsJ_len, srows_len, List.length_set, hAll]
               | (refine ite_guard (fun hg => ?_) (fun hg => ?_) <;> (try simp only [Bool.not_eq_true, Bool.not_eq_false, Decidable.not_not] at hg) <;> (first | have hgb : (_ : Bool) = _ := hg | have hgb := ff hg | have hgb := tt hg))
               | (refine ⟨fun hc => ht _ ?_, fun hc => hf _ ?_⟩ <;> clear ht hf KT KF)
               | fail)
              refine n_loop (j + 1) [0, 1, 4, 6, 7, 9, 10, 11] [34, 37, 82] ⟨?_, hjt⟩ (by omega)
              simp only [mk_keep, keepL, List.mem_cons, List.not_mem_nil, Nat.reduceEqDiff, Nat.zero_ne_one, Nat.one_ne_zero, reduceCtorEq, or_false, false_or, or_true, true_or, or_self, eq_self, ↓reduceIte]
            · have k1 := nltI hjt
              obtain rfl : j = d := by omega
              have hs1 := sumsJ_all j g l[k]
              repeat' (first
               | (with_reducible first | refine s_seq ?_ | refine s_block ?_ | refine s_region fun kr hr => ?_)
               | (with_reducible refine s_text tOk [26, 28, 34, 37, 50, 82, 139, 140, 1000, 1001, 1002, 1003] (by kernel_rfl) (by simp [HeapIn, namers, namerDst, namerOp, namedOp, namedFn, ownLoad, Blk.has, hasRows, hasL, CV.has, hasRows_up, hasM_up, hasRows_append, e2, e3, k1, hlk, vrows_get, vrows_len, vec_eq, ints_len, hs1]; (try ((repeat' apply And.intro) <;> intros <;> omega))) fun kr hr => ?_)
               | (with_reducible first | refine s_op fun K' hk => ?_ | refine t_op fun K' hk => ?_ | (refine hk _ ?_; clear hk K') | (refine ht _ ?_; clear ht hf KT KF) | (refine hf _ ?_; clear ht hf KT KF) | ((first | refine s_nil ?_ | refine t_nil ?_); refine hr _ ?_; clear hr kr))
               | ((with_reducible refine n_seqK [0, 1, 2, 3, 4, 5, 6, 7, 8, 9, 10, 11, 12, 13, 14, 15, 18, 22, 23, 31, 41, 45, 46, 47, 55, 76, 98, 116] [26, 28, 34, 37, 50, 82, 139, 140] ?_); simp only [mk_keep, keepL, List.mem_cons, List.not_mem_nil, Nat.reduceEqDiff, Nat.zero_ne_one, Nat.one_ne_zero, reduceCtorEq, or_false, false_or, or_true, true_or, or_self, eq_self, ↓reduceIte])
               | (with_reducible first | refine s_cond fun KT KF ht hf => ?_ | refine s_skip ?_)
               | ((with_reducible refine s_long ?_); simp only [List.cons_append, List.nil_append])
               | (with_reducible first | refine s_exit ?_ | refine s_ret ?_ | refine e_seq ?_ | refine r_seq ?_ | refine n_block ?_ | refine e_block ?_ | refine r_block ?_ | refine e_loop ?_ | refine r_loop ?_ | refine e_round ?_ | refine r_round ?_ | refine s_round ?_ | refine f_block ?_ (by decide) | refine r_res ?_ | refine n_res ?_)
               | (simp only [hgb, go_sem, Int.reduceToNat, ↓reduceIte, reduceCtorEq, Nat.reduceEqDiff, Nat.reduceAdd, Nat.reduceMul, Nat.reduceLT, Nat.reduceLeDiff, Nat.reduceBEq, Int.reduceBEq, Int.reduceBNe, String.reduceBEq, Int.reduceEq, Int.reduceLT, Int.reduceLE, Int.reduceGE, Int.reduceGT, e2, e3, k1, hlk, vrows_get, vrows_len, vec_eq, ints_len, hs1]; clear hgb)
               | simp only [go_sem, Int.reduceToNat, ↓reduceIte, reduceCtorEq, Nat.reduceEqDiff, Nat.reduceAdd, Nat.reduceMul, Nat.reduceLT, Nat.reduceLeDiff, Nat.reduceBEq, Int.reduceBEq, Int.reduceBNe, String.reduceBEq, Int.reduceEq, Int.reduceLT, Int.reduceLE, Int.reduceGE, Int.reduceGT, e2, e3, k1, hlk, vrows_get, vrows_len, vec_eq, ints_len, hs1, hAll]
               | (refine ite_guard (fun hg => ?_) (fun hg => ?_) <;> (try simp only [Bool.not_eq_true, Bool.not_eq_false, Decidable.not_not] at hg) <;> (first | have hgb : (_ : Bool) = _ := hg | have hgb := ff hg | have hgb := tt hg))
               | (refine ⟨fun hc => ht _ ?_, fun hc => hf _ ?_⟩ <;> clear ht hf KT KF)
               | fail)
              have hnz : up (ints (sums j (g ++ [l[k]]))) ≠ [] := by
                intro h
                have h2 := congrArg List.length h
                rw [upi_len, sums_len] at h2
                simp at h2; omega
              refine n_loopG _ (gho_fold (k := 37) (i := at0) (j := 0) (nm := 82) (sz := 1) (sz' := 1) (rows := (srows c.length c.length (gsum j c (l.take k))).set at0 [CV.mr 82 0 j]) (rows' := up (ints (sums j (g ++ [l[k]])))) (row := [CV.mr 82 0 j]) (by decide) (by simp [mk_heap, hL]) (by simp [mk_heap, hL]) hg1 (by rw [upi_len, sums_len]; rfl) hnz) ?_
              rw [mk_fold]
              refine n_loop (k + 1) [0, 1, 4, 6, 7, 9] [34, 37] ⟨?_, hlt⟩ (by omega)
              have h9 := srows_set (f := gsum j c (l.take k)) (g := gsum j c (l.take (k + 1))) hat (fun i hi => hgs i hi)
              rw [hgd1] at h9
              simp only [go_sem, Int.reduceToNat, ↓reduceIte, reduceCtorEq, Nat.reduceEqDiff, Nat.reduceAdd, Nat.reduceMul, Nat.reduceLT, Nat.reduceLeDiff, Nat.reduceBEq, Int.reduceBEq, Int.reduceBNe, String.reduceBEq, Int.reduceEq, Int.reduceLT, Int.reduceLE, Int.reduceGE, Int.reduceGT, mk_keep, keepL, List.mem_cons, List.not_mem_nil, Nat.reduceEqDiff, Nat.zero_ne_one, Nat.one_ne_zero, reduceCtorEq, or_false, false_or, or_true, true_or, or_self, eq_self, ↓reduceIte, set_modify hg1, List.set_set, h9]
        · have e1 := nltI hlt
          obtain rfl : k = l.length := by omega
          rw [List.take_length]
          repeat' (first
           | (with_reducible first | refine s_seq ?_ | refine s_block ?_ | refine s_region fun kr hr => ?_)
           | (with_reducible refine s_text tOk [26, 28, 34, 37, 50, 139, 140, 1000, 1001, 1002, 1003] (by kernel_rfl) (by simp [HeapIn, namers, namerDst, namerOp, namedOp, namedFn, ownLoad, Blk.has, hasRows, hasL, CV.has, hasRows_up, hasM_up, hasRows_append, e1, vrows_len, srows_has]; (try ((repeat' apply And.intro) <;> intros <;> omega))) fun kr hr => ?_)
           | (with_reducible first | refine s_op fun K' hk => ?_ | refine t_op fun K' hk => ?_ | (refine hk _ ?_; clear hk K') | (refine ht _ ?_; clear ht hf KT KF) | (refine hf _ ?_; clear ht hf KT KF) | ((first | refine s_nil ?_ | refine t_nil ?_); refine hr _ ?_; clear hr kr))
           | ((with_reducible refine n_seqK [0, 1, 2, 3, 4, 5, 6, 7, 8, 9, 10, 11, 12, 13, 14, 15, 18, 22, 23, 31, 41, 45, 46, 47, 55, 76, 98, 116] [26, 28, 34, 37, 50, 139, 140] ?_); simp only [mk_keep, keepL, List.mem_cons, List.not_mem_nil, Nat.reduceEqDiff, Nat.zero_ne_one, Nat.one_ne_zero, reduceCtorEq, or_false, false_or, or_true, true_or, or_self, eq_self, ↓reduceIte])
           | (with_reducible first | refine s_cond fun KT KF ht hf => ?_ | refine s_skip ?_)
           | ((with_reducible refine s_long ?_); simp only [List.cons_append, List.nil_append])
           | (with_reducible first | refine s_exit ?_ | refine s_ret ?_ | refine e_seq ?_ | refine r_seq ?_ | refine n_block ?_ | refine e_block ?_ | refine r_block ?_ | refine e_loop ?_ | refine r_loop ?_ | refine e_round ?_ | refine r_round ?_ | refine s_round ?_ | refine f_block ?_ (by decide) | refine r_res ?_ | refine n_res ?_)
           | (simp only [hgb, go_sem, Int.reduceToNat, ↓reduceIte, reduceCtorEq, Nat.reduceEqDiff, Nat.reduceAdd, Nat.reduceMul, Nat.reduceLT, Nat.reduceLeDiff, Nat.reduceBEq, Int.reduceBEq, Int.reduceBNe, String.reduceBEq, Int.reduceEq, Int.reduceLT, Int.reduceLE, Int.reduceGE, Int.reduceGT, e1, vrows_len, srows_has]; clear hgb)
           | simp only [go_sem, Int.reduceToNat, ↓reduceIte, reduceCtorEq, Nat.reduceEqDiff, Nat.reduceAdd, Nat.reduceMul, Nat.reduceLT, Nat.reduceLeDiff, Nat.reduceBEq, Int.reduceBEq, Int.reduceBNe, String.reduceBEq, Int.reduceEq, Int.reduceLT, Int.reduceLE, Int.reduceGE, Int.reduceGT, e1, vrows_len, srows_has, hAll]
           | (refine ite_guard (fun hg => ?_) (fun hg => ?_) <;> (try simp only [Bool.not_eq_true, Bool.not_eq_false, Decidable.not_not] at hg) <;> (first | have hgb : (_ : Bool) = _ := hg | have hgb := ff hg | have hgb := tt hg))
           | (refine ⟨fun hc => ht _ ?_, fun hc => hf _ ?_⟩ <;> clear ht hf KT KF)
           | fail)
          refine w_loopG _ (gho_freeze (nm := 34) (sz := 1) (rows := up (ints (cnts c l))) (trows := ints (cnts c l)) (by simp [mk_heap, hL]) (viewRows_up _)) ?_
          rw [mk_freeze]
          refine w_loopG _ (gho_freeze (nm := 37) (sz := 1) (rows := srows c.length c.length (gsum d c l)) (trows := vrows ((List.range c.length).map (gsum d c l))) (by simp [mk_heap, hL, del]) (srows_view _ _)) ?_
          rw [mk_freeze]
          refine w_loopG _ (gho_nilName (s := 12) (d := 140) (sz := 1) (by decide) ⟨1, rfl⟩ (by rw [fresh_t]; exact trivial; rfl)) ?_
          rw [mk_nilName]
          have hgl : ((List.range c.length).map (gsum d c l)).length = c.length := by simp
          refine w_loop [1, 4, 6, 7, 12, 13] [140] (σ := Nat) (fun i st => st = mk [(1, V (.sl 1 (vrows c))), (4, .c (.own 1 [])), (6, V (.sl 1 (ints (cnts c l)))), (7, V (.sl 1 (vrows ((List.range c.length).map (gsum d c l))))), (12, .c (.mr 140 0 i)), (13, I i)] [(140, .cells 1 (orows (stepK l c i)))] ∧ i ≤ c.length) (fun i => c.length - i) 0 ?_ ?_
          · have q1 : (ints (cnts c l)).take c.length = ints (cnts c l) := List.take_of_length_le (by rw [ints_len, cnts_len]; omega)
            have q2 : (vrows ((List.range c.length).map (gsum d c l))).take c.length = vrows ((List.range c.length).map (gsum d c l)) := List.take_of_length_le (by rw [vrows_len, hgl]; omega)
            simp only [go_sem, Int.reduceToNat, ↓reduceIte, reduceCtorEq, Nat.reduceEqDiff, Nat.reduceAdd, Nat.reduceMul, Nat.reduceLT, Nat.reduceLeDiff, Nat.reduceBEq, Int.reduceBEq, Int.reduceBNe, String.reduceBEq, Int.reduceEq, Int.reduceLT, Int.reduceLE, Int.reduceGE, Int.reduceGT, mk_keep, keepL, List.mem_cons, List.not_mem_nil, Nat.reduceEqDiff, Nat.zero_ne_one, Nat.one_ne_zero, reduceCtorEq, or_false, false_or, or_true, true_or, or_self, eq_self, ↓reduceIte, SV.frz, CV.frz, ints_len, cnts_len, vrows_len, hgl, q1, q2]
            first | exact ⟨rfl, Nat.zero_le _⟩ | exact Nat.zero_le _
          · rintro i st' ⟨rfl, hi⟩
            by_cases hit : i < c.length
            · have d1 := ltI hit
              have d2 := get_of_lt hit
              have d3 := wUp hit (by omega)
              have hci := hcm _ (List.getElem_mem hit)
              have hcl := hci.2
              have hcd : c.getD i [] = c[i] := by simp [hit]
              have hgi : ∀ v ∈ groupOf c i l, may v = true ∧ v.length = d := fun v hv => hlm v (List.mem_filter.1 hv).1
              have hgll : (groupOf c i l).length ≤ l.length := List.length_filter_le _ _
              have e3 := tt (show (i + 1) * 24 ≤ 140737488355328 by omega)
              have e4 := tt (show i ≤ 9223372036854775806 by omega)
              have hn : (orows (stepK l c i)).length = i := by rw [orows_length, stepK_len]
              have ht : (orows (stepK l c i)).take i = orows (stepK l c i) := List.take_of_length_le (by omega)
              have htw := twin1_own c[i] (hc.at hit)
              have hcg := cnts_get (c := c) (l := l) hit
              have hsg : ((List.range c.length).map (gsum d c l))[i]? = some (sums d (groupOf c i l)) := by simp [hit, gsum]
              rw [hcl] at htw
              have hz := divJ_zero (l := l) (c := c) (i := i) (d := d) (by rw [hcd]; exact hcl)
              rw [hcd] at hz
              have hfr : freshL none 105 [(140, .cells 1 (orows (stepK l c i)))] = true := by simp only [freshL, Blk.has, orows_has]; rfl
              repeat' (first
               | (with_reducible first | refine s_seq ?_ | refine s_block ?_ | refine s_region fun kr hr => ?_)
               | (with_reducible refine s_text tOk [26, 28, 34, 37, 50, 105, 139, 140, 1000, 1001, 1002, 1003] (by kernel_rfl) (by simp [HeapIn, namers, namerDst, namerOp, namedOp, namedFn, ownLoad, Blk.has, hasRows, hasL, CV.has, hasRows_up, hasM_up, hasRows_append, d1, d2, hcl, hz, orows_has, hasRows_up, vrows_get, vrows_len, vec_eq, ints_len]; (try ((repeat' apply And.intro) <;> intros <;> omega))) fun kr hr => ?_)
               | (with_reducible first | refine s_op fun K' hk => ?_ | refine t_op fun K' hk => ?_ | (refine hk _ ?_; clear hk K') | (refine ht _ ?_; clear ht hf KT KF) | (refine hf _ ?_; clear ht hf KT KF) | ((first | refine s_nil ?_ | refine t_nil ?_); refine hr _ ?_; clear hr kr))
               | ((with_reducible refine n_seqK [0, 1, 2, 3, 4, 5, 6, 7, 8, 9, 10, 11, 12, 13, 14, 15, 18, 22, 23, 31, 41, 45, 46, 47, 55, 76, 98, 116] [26, 28, 34, 37, 50, 105, 139, 140] ?_); simp only [mk_keep, keepL, List.mem_cons, List.not_mem_nil, Nat.reduceEqDiff, Nat.zero_ne_one, Nat.one_ne_zero, reduceCtorEq, or_false, false_or, or_true, true_or, or_self, eq_self, ↓reduceIte])
               | (with_reducible first | refine s_cond fun KT KF ht hf => ?_ | refine s_skip ?_)
               | ((with_reducible refine s_long ?_); simp only [List.cons_append, List.nil_append])
               | (with_reducible first | refine s_exit ?_ | refine s_ret ?_ | refine e_seq ?_ | refine r_seq ?_ | refine n_block ?_ | refine e_block ?_ | refine r_block ?_ | refine e_loop ?_ | refine r_loop ?_ | refine e_round ?_ | refine r_round ?_ | refine s_round ?_ | refine f_block ?_ (by decide) | refine r_res ?_ | refine n_res ?_)
               | (simp only [hgb, go_sem, Int.reduceToNat, ↓reduceIte, reduceCtorEq, Nat.reduceEqDiff, Nat.reduceAdd, Nat.reduceMul, Nat.reduceLT, Nat.reduceLeDiff, Nat.reduceBEq, Int.reduceBEq, Int.reduceBNe, String.reduceBEq, Int.reduceEq, Int.reduceLT, Int.reduceLE, Int.reduceGE, Int.reduceGT, d1, d2, hcl, hz, orows_has, hasRows_up, vrows_get, vrows_len, vec_eq, ints_len, callE, resSV, AV.flat, CV.flat, TV.flat]; clear hgb)
               | simp only [go_sem, Int.reduceToNat, ↓reduceIte, reduceCtorEq, Nat.reduceEqDiff, Nat.reduceAdd, Nat.reduceMul, Nat.reduceLT, Nat.reduceLeDiff, Nat.reduceBEq, Int.reduceBEq, Int.reduceBNe, String.reduceBEq, Int.reduceEq, Int.reduceLT, Int.reduceLE, Int.reduceGE, Int.reduceGT, d1, d2, hcl, hz, orows_has, hasRows_up, vrows_get, vrows_len, vec_eq, ints_len, callE, resSV, AV.flat, CV.flat, TV.flat, hAll]
               | refine Or.inr (m_call1 ⟨fun _ _ => rfl, htw⟩ rfl rfl rfl (fun _ => hasRows_up _ _) (fun _ => one_name) (by decide) hfr ?_)
               | refine (m_call1 ⟨fun _ _ => rfl, htw⟩ rfl rfl rfl (fun _ => hasRows_up _ _) (fun _ => one_name) (by decide) hfr ?_)
               | (refine ite_guard (fun hg => ?_) (fun hg => ?_) <;> (try simp only [Bool.not_eq_true, Bool.not_eq_false, Decidable.not_not] at hg) <;> (first | have hgb : (_ : Bool) = _ := hg | have hgb := ff hg | have hgb := tt hg))
               | (refine ⟨fun hc => ht _ ?_, fun hc => hf _ ?_⟩ <;> clear ht hf KT KF)
               | fail)
              by_cases hg0 : groupOf c i l = []
              · have hsr : stepRow l c i = c[i] := by rw [stepRow_none hg0, hcd]
                have e6 := ff (show ¬ ((groupOf c i l).length : Int) > 0 by rw [hg0]; simp)
                have e5 := tt (show (i : Int) < c.length by omega)
                have e7 := tt (show (0 : Int) < d by omega)
                rw [← hsr]
                have hrl : (up (ints (stepRow l c i))).length = d := by rw [upi_len, hsr, hcl]
                refine w_unroll 1 ?_
                repeat' (first
                 | (with_reducible first | refine s_seq ?_ | refine s_block ?_ | refine s_region fun kr hr => ?_)
                 | (with_reducible refine s_text tOk [26, 28, 34, 37, 50, 105, 139, 140, 1000, 1001, 1002, 1003] (by kernel_rfl) (by simp [HeapIn, namers, namerDst, namerOp, namedOp, namedFn, ownLoad, Blk.has, hasRows, hasL, CV.has, hasRows_up, hasM_up, hasRows_append, d1, d3, e3, e4, e5, e6, e7, hn, ht, hcg, cnts_len, orows_has, ints_len, ints_get, upi_len, hcl]; (try ((repeat' apply And.intro) <;> intros <;> omega))) fun kr hr => ?_)
                 | (with_reducible first | refine s_op fun K' hk => ?_ | refine t_op fun K' hk => ?_ | (refine hk _ ?_; clear hk K') | (refine ht _ ?_; clear ht hf KT KF) | (refine hf _ ?_; clear ht hf KT KF) | ((first | refine s_nil ?_ | refine t_nil ?_); refine hr _ ?_; clear hr kr))
                 | ((with_reducible refine n_seqK [0, 1, 2, 3, 4, 5, 6, 7, 8, 9, 10, 11, 12, 13, 14, 15, 18, 22, 23, 31, 41, 45, 46, 47, 55, 76, 98, 116] [26, 28, 34, 37, 50, 105, 139, 140] ?_); simp only [mk_keep, keepL, List.mem_cons, List.not_mem_nil, Nat.reduceEqDiff, Nat.zero_ne_one, Nat.one_ne_zero, reduceCtorEq, or_false, false_or, or_true, true_or, or_self, eq_self, ↓reduceIte])
                 | (with_reducible first | refine s_cond fun KT KF ht hf => ?_ | refine s_skip ?_)
                 | ((with_reducible refine s_long ?_); simp only [List.cons_append, List.nil_append])
                 | (with_reducible first | refine s_exit ?_ | refine s_ret ?_ | refine e_seq ?_ | refine r_seq ?_ | refine n_block ?_ | refine e_block ?_ | refine r_block ?_ | refine e_loop ?_ | refine r_loop ?_ | refine e_round ?_ | refine r_round ?_ | refine s_round ?_ | refine f_block ?_ (by decide) | refine r_res ?_ | refine n_res ?_)
                 | (simp only [hgb, go_sem, Int.reduceToNat, ↓reduceIte, reduceCtorEq, Nat.reduceEqDiff, Nat.reduceAdd, Nat.reduceMul, Nat.reduceLT, Nat.reduceLeDiff, Nat.reduceBEq, Int.reduceBEq, Int.reduceBNe, String.reduceBEq, Int.reduceEq, Int.reduceLT, Int.reduceLE, Int.reduceGE, Int.reduceGT, d1, d3, e3, e4, e5, e6, e7, hn, ht, hcg, cnts_len, orows_has, ints_len, ints_get, upi_len, hcl]; clear hgb)
                 | simp only [go_sem, Int.reduceToNat, ↓reduceIte, reduceCtorEq, Nat.reduceEqDiff, Nat.reduceAdd, Nat.reduceMul, Nat.reduceLT, Nat.reduceLeDiff, Nat.reduceBEq, Int.reduceBEq, Int.reduceBNe, String.reduceBEq, Int.reduceEq, Int.reduceLT, Int.reduceLE, Int.reduceGE, Int.reduceGT, d1, d3, e3, e4, e5, e6, e7, hn, ht, hcg, cnts_len, orows_has, ints_len, ints_get, upi_len, hcl, hAll]
                 | (refine ite_guard (fun hg => ?_) (fun hg => ?_) <;> (try simp only [Bool.not_eq_true, Bool.not_eq_false, Decidable.not_not] at hg) <;> (first | have hgb : (_ : Bool) = _ := hg | have hgb := ff hg | have hgb := tt hg))
                 | (refine ⟨fun hc => ht _ ?_, fun hc => hf _ ?_⟩ <;> clear ht hf KT KF)
                 | fail)
                refine n_loopG _ (gho_foldL (k := 140) (i := i) (j := 0) (nm := 105) (sz := 1) (sz' := 1) (rows := orows (stepK l c i) ++ [[.mr 105 0 d]]) (rows' := up (ints (stepRow l c i))) (row := [.mr 105 0 d]) (by decide) (by simp [mk_heap, hL]) (by simp [mk_heap, hL]) (by rw [List.getElem?_append_right (by omega), hn]; simp) (by rw [hrl]; rfl)) ?_
                rw [mk_fold]
                refine n_loop (i + 1) [1, 4, 6, 7, 12, 13] [140] ⟨?_, hit⟩ (by omega)
                have hmod := modify_last (orows (stepK l c i)) (.mr 105 0 d) (lcell 1 (up (ints (stepRow l c i))))
                rw [hn] at hmod
                simp only [go_sem, Int.reduceToNat, ↓reduceIte, reduceCtorEq, Nat.reduceEqDiff, Nat.reduceAdd, Nat.reduceMul, Nat.reduceLT, Nat.reduceLeDiff, Nat.reduceBEq, Int.reduceBEq, Int.reduceBNe, String.reduceBEq, Int.reduceEq, Int.reduceLT, Int.reduceLE, Int.reduceGE, Int.reduceGT, mk_keep, keepL, List.mem_cons, List.not_mem_nil, Nat.reduceEqDiff, Nat.zero_ne_one, Nat.one_ne_zero, reduceCtorEq, or_false, false_or, or_true, true_or, or_self, eq_self, ↓reduceIte, hmod, stepK_succ, orows_snoc]
              · have hgp : 0 < (groupOf c i l).length := List.length_pos_iff.2 hg0
                have e6 := tt (show ((groupOf c i l).length : Int) > 0 by omega)
                have e5 := tt (show (i : Int) < c.length by omega)
                refine w_loop [1, 4, 6, 7, 12, 13, 14, 15] [105, 140] (σ := Nat) (fun j st => st = mk [(1, V (.sl 1 (vrows c))), (4, .c (.own 1 [])), (6, V (.sl 1 (ints (cnts c l)))), (7, V (.sl 1 (vrows ((List.range c.length).map (gsum d c l))))), (12, .c (.mr 140 0 i)), (13, I i), (14, .c (.mr 105 0 d)), (15, I j)] [(105, .cells 1 (up (ints (divJ l c i d j)))), (140, .cells 1 (orows (stepK l c i)))] ∧ j ≤ d) (fun j => d - j) 0 ?_ ?_
                · simp only [go_sem, Int.reduceToNat, ↓reduceIte, reduceCtorEq, Nat.reduceEqDiff, Nat.reduceAdd, Nat.reduceMul, Nat.reduceLT, Nat.reduceLeDiff, Nat.reduceBEq, Int.reduceBEq, Int.reduceBNe, String.reduceBEq, Int.reduceEq, Int.reduceLT, Int.reduceLE, Int.reduceGE, Int.reduceGT, mk_keep, keepL, List.mem_cons, List.not_mem_nil, Nat.reduceEqDiff, Nat.zero_ne_one, Nat.one_ne_zero, reduceCtorEq, or_false, false_or, or_true, true_or, or_self, eq_self, ↓reduceIte, hz]
                  first | exact ⟨rfl, Nat.zero_le _⟩ | exact Nat.zero_le _
                · rintro j st' ⟨rfl, hj⟩
                  by_cases hjt : j < d
                  · have k1 := ltI hjt
                    have k2 := wUp hjt (by omega)
                    have k3 := sums_get (groupOf c i l) hjt
                    have hsb := sumAt_le (fun v hv k => may_getD (hgi v hv).1 k) j
                    have k4 := Div_spec (sumAt (groupOf c i l) j) ((groupOf c i l).length : Int) (by omega) (by omega)
                    have k5 := divJ_set (l := l) (c := c) (i := i) hjt
                    have k6 : (divJ l c i d j)[j]? = some ((divJ l c i d j)[j]'(by rw [divJ_len]; exact hjt)) := List.getElem?_eq_getElem _
                    repeat' (first
                     | (with_reducible first | refine s_seq ?_ | refine s_block ?_ | refine s_region fun kr hr => ?_)
                     | (with_reducible refine s_text tOk [26, 28, 34, 37, 50, 105, 139, 140, 1000, 1001, 1002, 1003] (by kernel_rfl) (by simp [HeapIn, namers, namerDst, namerOp, namedOp, namedFn, ownLoad, Blk.has, hasRows, hasL, CV.has, hasRows_up, hasM_up, hasRows_append, d1, d2, e5, e6, k1, k2, k3, k5, k6, hcg, hsg, hgl, cnts_len, vrows_get, vrows_len, vec_eq, ints_get, ints_len, upi_get, upi_len, up_set1, divJ_len, sums_len, orows_has]; (try ((repeat' apply And.intro) <;> intros <;> omega))) fun kr hr => ?_)
                     | (with_reducible first | refine s_op fun K' hk => ?_ | refine t_op fun K' hk => ?_ | (refine hk _ ?_; clear hk K') | (refine ht _ ?_; clear ht hf KT KF) | (refine hf _ ?_; clear ht hf KT KF) | ((first | refine s_nil ?_ | refine t_nil ?_); refine hr _ ?_; clear hr kr))
                     | ((with_reducible refine n_seqK [0, 1, 2, 3, 4, 5, 6, 7, 8, 9, 10, 11, 12, 13, 14, 15, 18, 22, 23, 31, 41, 45, 46, 47, 55, 76, 98, 116] [26, 28, 34, 37, 50, 105, 139, 140] ?_); simp only [mk_keep, keepL, List.mem_cons, List.not_mem_nil, Nat.reduceEqDiff, Nat.zero_ne_one, Nat.one_ne_zero, reduceCtorEq, or_false, false_or, or_true, true_or, or_self, eq_self, ↓reduceIte])
                     | (with_reducible first | refine s_cond fun KT KF ht hf => ?_ | refine s_skip ?_)
                     | ((with_reducible refine s_long ?_); simp only [List.cons_append, List.nil_append])
                     | (with_reducible first | refine s_exit ?_ | refine s_ret ?_ | refine e_seq ?_ | refine r_seq ?_ | refine n_block ?_ | refine e_block ?_ | refine r_block ?_ | refine e_loop ?_ | refine r_loop ?_ | refine e_round ?_ | refine r_round ?_ | refine s_round ?_ | refine f_block ?_ (by decide) | refine r_res ?_ | refine n_res ?_)
                     | (simp only [hgb, go_sem, Int.reduceToNat, ↓reduceIte, reduceCtorEq, Nat.reduceEqDiff, Nat.reduceAdd, Nat.reduceMul, Nat.reduceLT, Nat.reduceLeDiff, Nat.reduceBEq, Int.reduceBEq, Int.reduceBNe, String.reduceBEq, Int.reduceEq, Int.reduceLT, Int.reduceLE, Int.reduceGE, Int.reduceGT, d1, d2, e5, e6, k1, k2, k3, k5, k6, hcg, hsg, hgl, cnts_len, vrows_get, vrows_len, vec_eq, ints_get, ints_len, upi_get, upi_len, up_set1, divJ_len, sums_len, orows_has, callE, resSV, AV.flat, CV.flat, TV.flat]; clear hgb)
                     | simp only [go_sem, Int.reduceToNat, ↓reduceIte, reduceCtorEq, Nat.reduceEqDiff, Nat.reduceAdd, Nat.reduceMul, Nat.reduceLT, Nat.reduceLeDiff, Nat.reduceBEq, Int.reduceBEq, Int.reduceBNe, String.reduceBEq, Int.reduceEq, Int.reduceLT, Int.reduceLE, Int.reduceGE, Int.reduceGT, d1, d2, e5, e6, k1, k2, k3, k5, k6, hcg, hsg, hgl, cnts_len, vrows_get, vrows_len, vec_eq, ints_get, ints_len, upi_get, upi_len, up_set1, divJ_len, sums_len, orows_has, callE, resSV, AV.flat, CV.flat, TV.flat, hAll]
                     | refine Or.inl ⟨_, ⟨fun _ _ => rfl, k4⟩, ?_⟩
                     | refine ⟨_, ⟨fun _ _ => rfl, k4⟩, ?_⟩
                     | (refine ite_guard (fun hg => ?_) (fun hg => ?_) <;> (try simp only [Bool.not_eq_true, Bool.not_eq_false, Decidable.not_not] at hg) <;> (first | have hgb : (_ : Bool) = _ := hg | have hgb := ff hg | have hgb := tt hg))
                     | (refine ⟨fun hc => ht _ ?_, fun hc => hf _ ?_⟩ <;> clear ht hf KT KF)
                     | fail)
                    refine n_loop (j + 1) [1, 4, 6, 7, 12, 13, 14, 15] [105, 140] ⟨?_, hjt⟩ (by omega)
                    simp only [mk_keep, keepL, List.mem_cons, List.not_mem_nil, Nat.reduceEqDiff, Nat.zero_ne_one, Nat.one_ne_zero, reduceCtorEq, or_false, false_or, or_true, true_or, or_self, eq_self, ↓reduceIte]
                  · have k1 := nltI hjt
                    obtain rfl : j = d := by omega
                    have k5 := divJ_all (l := l) (c := c) (i := i) (d := j) (by rw [hcd]; exact hcl) hg0
                    rw [k5]
                    have hrl : (up (ints (stepRow l c i))).length = j := by rw [← k5, upi_len, divJ_len]
                    repeat' (first
                     | (with_reducible first | refine s_seq ?_ | refine s_block ?_ | refine s_region fun kr hr => ?_)
                     | (with_reducible refine s_text tOk [26, 28, 34, 37, 50, 105, 139, 140, 1000, 1001, 1002, 1003] (by kernel_rfl) (by simp [HeapIn, namers, namerDst, namerOp, namedOp, namedFn, ownLoad, Blk.has, hasRows, hasL, CV.has, hasRows_up, hasM_up, hasRows_append, d1, d3, k1, e3, e4, hn, ht, orows_has, hasRows_up]; (try ((repeat' apply And.intro) <;> intros <;> omega))) fun kr hr => ?_)
                     | (with_reducible first | refine s_op fun K' hk => ?_ | refine t_op fun K' hk => ?_ | (refine hk _ ?_; clear hk K') | (refine ht _ ?_; clear ht hf KT KF) | (refine hf _ ?_; clear ht hf KT KF) | ((first | refine s_nil ?_ | refine t_nil ?_); refine hr _ ?_; clear hr kr))
                     | ((with_reducible refine n_seqK [0, 1, 2, 3, 4, 5, 6, 7, 8, 9, 10, 11, 12, 13, 14, 15, 18, 22, 23, 31, 41, 45, 46, 47, 55, 76, 98, 116] [26, 28, 34, 37, 50, 105, 139, 140] ?_); simp only [mk_keep, keepL, List.mem_cons, List.not_mem_nil, Nat.reduceEqDiff, Nat.zero_ne_one, Nat.one_ne_zero, reduceCtorEq, or_false, false_or, or_true, true_or, or_self, eq_self, ↓reduceIte])
                     | (with_reducible first | refine s_cond fun KT KF ht hf => ?_ | refine s_skip ?_)
                     | ((with_reducible refine s_long ?_); simp only [List.cons_append, List.nil_append])
                     | (with_reducible first | refine s_exit ?_ | refine s_ret ?_ | refine e_seq ?_ | refine r_seq ?_ | refine n_block ?_ | refine e_block ?_ | refine r_block ?_ | refine e_loop ?_ | refine r_loop ?_ | refine e_round ?_ | refine r_round ?_ | refine s_round ?_ | refine f_block ?_ (by decide) | refine r_res ?_ | refine n_res ?_)
                     | (simp only [hgb, go_sem, Int.reduceToNat, ↓reduceIte, reduceCtorEq, Nat.reduceEqDiff, Nat.reduceAdd, Nat.reduceMul, Nat.reduceLT, Nat.reduceLeDiff, Nat.reduceBEq, Int.reduceBEq, Int.reduceBNe, String.reduceBEq, Int.reduceEq, Int.reduceLT, Int.reduceLE, Int.reduceGE, Int.reduceGT, d1, d3, k1, e3, e4, hn, ht, orows_has, hasRows_up]; clear hgb)
                     | simp only [go_sem, Int.reduceToNat, ↓reduceIte, reduceCtorEq, Nat.reduceEqDiff, Nat.reduceAdd, Nat.reduceMul, Nat.reduceLT, Nat.reduceLeDiff, Nat.reduceBEq, Int.reduceBEq, Int.reduceBNe, String.reduceBEq, Int.reduceEq, Int.reduceLT, Int.reduceLE, Int.reduceGE, Int.reduceGT, d1, d3, k1, e3, e4, hn, ht, orows_has, hasRows_up, hAll]
                     | (refine ite_guard (fun hg => ?_) (fun hg => ?_) <;> (try simp only [Bool.not_eq_true, Bool.not_eq_false, Decidable.not_not] at hg) <;> (first | have hgb : (_ : Bool) = _ := hg | have hgb := ff hg | have hgb := tt hg))
                     | (refine ⟨fun hc => ht _ ?_, fun hc => hf _ ?_⟩ <;> clear ht hf KT KF)
                     | fail)
                    refine n_loopG _ (gho_foldL (k := 140) (i := i) (j := 0) (nm := 105) (sz := 1) (sz' := 1) (rows := orows (stepK l c i) ++ [[.mr 105 0 j]]) (rows' := up (ints (stepRow l c i))) (row := [.mr 105 0 j]) (by decide) (by simp [mk_heap, hL]) (by simp [mk_heap, hL]) (by rw [List.getElem?_append_right (by omega), hn]; simp) (by rw [hrl]; rfl)) ?_
                    rw [mk_fold]
                    refine n_loop (i + 1) [1, 4, 6, 7, 12, 13] [140] ⟨?_, hit⟩ (by omega)
                    have hmod := modify_last (orows (stepK l c i)) (.mr 105 0 j) (lcell 1 (up (ints (stepRow l c i))))
                    rw [hn] at hmod
                    simp only [go_sem, Int.reduceToNat, ↓reduceIte, reduceCtorEq, Nat.reduceEqDiff, Nat.reduceAdd, Nat.reduceMul, Nat.reduceLT, Nat.reduceLeDiff, Nat.reduceBEq, Int.reduceBEq, Int.reduceBNe, String.reduceBEq, Int.reduceEq, Int.reduceLT, Int.reduceLE, Int.reduceGE, Int.reduceGT, mk_keep, keepL, List.mem_cons, List.not_mem_nil, Nat.reduceEqDiff, Nat.zero_ne_one, Nat.one_ne_zero, reduceCtorEq, or_false, false_or, or_true, true_or, or_self, eq_self, ↓reduceIte, hmod, stepK_succ, orows_snoc]
            · have d1 := nltI hit
              obtain rfl : i = c.length := by omega
              rw [show stepK l c c.length = stepF l c from rfl]
              repeat' (first
               | (with_reducible first | refine s_seq ?_ | refine s_block ?_ | refine s_region fun kr hr => ?_)
               | (with_reducible refine s_text tOk [26, 28, 34, 37, 50, 139, 140, 1000, 1001, 1002, 1003] (by kernel_rfl) (by simp [HeapIn, namers, namerDst, namerOp, namedOp, namedFn, ownLoad, Blk.has, hasRows, hasL, CV.has, hasRows_up, hasM_up, hasRows_append, d1, vrows_len, orows_has]; (try ((repeat' apply And.intro) <;> intros <;> omega))) fun kr hr => ?_)
               | (with_reducible first | refine s_op fun K' hk => ?_ | refine t_op fun K' hk => ?_ | (refine hk _ ?_; clear hk K') | (refine ht _ ?_; clear ht hf KT KF) | (refine hf _ ?_; clear ht hf KT KF) | ((first | refine s_nil ?_ | refine t_nil ?_); refine hr _ ?_; clear hr kr))
               | ((with_reducible refine n_seqK [0, 1, 2, 3, 4, 5, 6, 7, 8, 9, 10, 11, 12, 13, 14, 15, 18, 22, 23, 31, 41, 45, 46, 47, 55, 76, 98, 116] [26, 28, 34, 37, 50, 139, 140] ?_); simp only [mk_keep, keepL, List.mem_cons, List.not_mem_nil, Nat.reduceEqDiff, Nat.zero_ne_one, Nat.one_ne_zero, reduceCtorEq, or_false, false_or, or_true, true_or, or_self, eq_self, ↓reduceIte])
               | (with_reducible first | refine s_cond fun KT KF ht hf => ?_ | refine s_skip ?_)
               | ((with_reducible refine s_long ?_); simp only [List.cons_append, List.nil_append])
               | (with_reducible first | refine s_exit ?_ | refine s_ret ?_ | refine e_seq ?_ | refine r_seq ?_ | refine n_block ?_ | refine e_block ?_ | refine r_block ?_ | refine e_loop ?_ | refine r_loop ?_ | refine e_round ?_ | refine r_round ?_ | refine s_round ?_ | refine f_block ?_ (by decide) | refine r_res ?_ | refine n_res ?_)
               | (simp only [hgb, go_sem, Int.reduceToNat, ↓reduceIte, reduceCtorEq, Nat.reduceEqDiff, Nat.reduceAdd, Nat.reduceMul, Nat.reduceLT, Nat.reduceLeDiff, Nat.reduceBEq, Int.reduceBEq, Int.reduceBNe, String.reduceBEq, Int.reduceEq, Int.reduceLT, Int.reduceLE, Int.reduceGE, Int.reduceGT, d1, vrows_len, orows_has]; clear hgb)
               | simp only [go_sem, Int.reduceToNat, ↓reduceIte, reduceCtorEq, Nat.reduceEqDiff, Nat.reduceAdd, Nat.reduceMul, Nat.reduceLT, Nat.reduceLeDiff, Nat.reduceBEq, Int.reduceBEq, Int.reduceBNe, String.reduceBEq, Int.reduceEq, Int.reduceLT, Int.reduceLE, Int.reduceGE, Int.reduceGT, d1, vrows_len, orows_has, hAll]
               | (refine ite_guard (fun hg => ?_) (fun hg => ?_) <;> (try simp only [Bool.not_eq_true, Bool.not_eq_false, Decidable.not_not] at hg) <;> (first | have hgb : (_ : Bool) = _ := hg | have hgb := ff hg | have hgb := tt hg))
               | (refine ⟨fun hc => ht _ ?_, fun hc => hf _ ?_⟩ <;> clear ht hf KT KF)
               | fail)
theorem step2_spec (l c : List (List Int)) (hl : SizedAll l) (hc : SizedAll c) (hb : l.length + c.length ≤ 5864062014634) : Spec Try.prog 16 [.v (.t (vecs l)), .v (.t (vecs c))] [] [.v (.t (vecs (stepOf l c)))] [] := by
  unfold stepOf
  by_cases hok : okStep l c = true
  · rw [if_pos hok]
    have h := step2_own l c hl hc hb hok
    have e : (orows (stepF l c)).length = c.length := by rw [orows_length, stepF_len]
    rw [← e] at h
    exact h.tree (orows_view _)
  · rw [if_neg hok]
    simp only [Bool.not_eq_true] at hok
    exact step2_nil l c hl hc hb hok
end Go.Proofs.Ytlnilonlaedafaa.Fx
