/- A step: centroids moved to the means of their rows. -/
import Derived.Test.YtlnilonlaedafaaFxAdd
namespace Go.Proofs.Ytlnilonlaedafaa.Fx
open Go Go.RowKit
set_option maxRecDepth 100000
set_option linter.unusedSimpArgs false
set_option linter.unusedVariables false
/-- The rows whose nearest is the i-th. -/
def groupOf (c : List (List Int)) (i : Nat) (l : List (List Int)) : List (List Int) := l.filter fun v => at' v c == i
def stepRow (l c : List (List Int)) (i : Nat) : List Int := if groupOf c i l = [] then c.getD i [] else (sums (c.getD i []).length (groupOf c i l)).map (· / ((groupOf c i l).length : Int))
def stepF (l c : List (List Int)) : List (List Int) := (List.range c.length).map (stepRow l c)
def okStep (l c : List (List Int)) : Bool := !(l.length == 0) && !(c.length == 0) && okRows (l ++ c)
/-- The groups of some rows, each held by its cell. -/
def grows (c l : List (List Int)) : List (List CV) := (List.range c.length).map fun i => [CV.own 1 (up (vrows (groupOf c i l)))]
theorem grows_len (c l : List (List Int)) : (grows c l).length = c.length := by simp [grows]
theorem grows_nil (c : List (List Int)) : List.replicate c.length [CV.own 1 []] = grows c [] := by
  symm; rw [List.eq_replicate_iff]; simp [grows, groupOf, up, vrows]
theorem grows_get {c l : List (List Int)} {i : Nat} (h : i < c.length) : (grows c l)[i]? = some [CV.own 1 (up (vrows (groupOf c i l)))] := by simp [grows, h]
theorem hasRows_map {nm : Nat} (f : Nat → List (List TV)) : ∀ (l : List Nat), hasRows nm (l.map fun i => [CV.own 1 (up (f i))]) = false
  | [] => rfl
  | a :: t => by
    simp only [List.map_cons, hasRows, hasL, CV.has, hasRows_up, Bool.or_self, Bool.false_or]
    exact hasRows_map f t
theorem grows_has {nm : Nat} (c l : List (List Int)) : hasRows nm (grows c l) = false := hasRows_map _ _
theorem viewRows_map (f : Nat → List (List TV)) : ∀ (l : List Nat), viewRows (l.map fun i => [CV.own 1 (up (f i))]) = some (l.map fun i => [TV.sl 1 (f i)])
  | [] => rfl
  | a :: t => by
    simp only [List.map_cons, viewRows, viewL, CV.view, viewRows_up]
    rw [viewRows_map f t]
/-- The groups, as trees. -/
def gtrees (c l : List (List Int)) : List (List TV) := (List.range c.length).map fun i => [TV.sl 1 (vrows (groupOf c i l))]
theorem grows_view (c l : List (List Int)) : viewRows (grows c l) = some (gtrees c l) := viewRows_map _ _
theorem gtrees_get {c l : List (List Int)} {i : Nat} (h : i < c.length) : (gtrees c l)[i]? = some [TV.sl 1 (vrows (groupOf c i l))] := by simp [gtrees, h]
theorem gtrees_len (c l : List (List Int)) : (gtrees c l).length = c.length := by simp [gtrees]
theorem group_snoc (c l : List (List Int)) (v : List Int) (i : Nat) : groupOf c i (l ++ [v]) = if at' v c = i then groupOf c i l ++ [v] else groupOf c i l := by
  unfold groupOf
  rw [List.filter_append]
  split
  · rename_i h; simp [h]
  · rename_i h; simp [h]
theorem grows_snoc {c l : List (List Int)} {v : List Int} (h : at' v c < c.length) : (grows c l).set (at' v c) [CV.own 1 (up (vrows (groupOf c (at' v c) l ++ [v])))] = grows c (l ++ [v]) := by
  apply List.ext_getElem
  · simp [grows]
  · intro i h1 h2
    by_cases e : at' v c = i
    · subst e; simp [grows, group_snoc]
    · rw [List.getElem_set_ne e]; simp [grows, group_snoc, e]
theorem set_modify {rows : List (List CV)} {i : Nat} {c x : CV} (h : rows[i]? = some [x]) : rows.modify i (·.set 0 c) = rows.set i [c] := by
  apply List.ext_getElem?
  intro j
  rw [List.getElem?_modify]
  by_cases e : i = j
  · subst e
    rw [h, List.getElem?_set_self (List.getElem?_eq_some_iff.1 h).1]; simp
  · rw [List.getElem?_set_ne e]
    cases hj : rows[j]? with
    | none => rfl
    | some r => simp [e]
theorem upv_one (v : List Int) : up (vrows [v]) = [[CV.t (.sl 1 (ints v))]] := rfl
theorem okStep_lens {l c : List (List Int)} (h : okStep l c = true) : 0 < l.length ∧ 0 < c.length ∧ ∃ d, d ≤ 64 ∧ (∀ v ∈ l, may v = true ∧ v.length = d) ∧ ∀ v ∈ c, may v = true ∧ v.length = d := by
  simp only [okStep, Bool.and_eq_true, Bool.not_eq_true', beq_eq_false_iff_ne, ne_eq] at h
  obtain ⟨⟨h1, h2⟩, h3⟩ := h
  simp only [okRows, Bool.and_eq_true, List.all_eq_true, okRow, decide_eq_true_eq] at h3
  obtain ⟨h3, _⟩ := h3
  have hd64 : (hd (l ++ c)).length ≤ 64 := by
    cases l with
    | nil => simp at h1
    | cons a t =>
      have := (h3 a (by simp)).1
      simp only [may, Bool.and_eq_true, decide_eq_true_eq] at this
      simp only [List.cons_append, hd]; omega
  exact ⟨by omega, by omega, (hd (l ++ c)).length, hd64, fun v hv => h3 v (by simp [hv]), fun v hv => h3 v (by simp [hv])⟩
theorem SizedAll.app {l c : List (List Int)} (hl : SizedAll l) (hc : SizedAll c) (hb : l.length + c.length ≤ 5864062014634) : SizedAll (l ++ c) :=
  ⟨by simp; omega, fun v hv => by
    rcases List.mem_append.1 hv with h | h
    · exact hl.2 v h
    · exact hc.2 v h⟩
theorem vrows_app (l c : List (List Int)) : vrows l ++ vrows c = vrows (l ++ c) := by simp [vrows]
theorem upv_app (l c : List (List Int)) : up (vrows l) ++ up (vrows c) = up (vrows (l ++ c)) := by simp [vrows, up]
theorem hasRows_set {nm i : Nat} {rows : List (List CV)} {r : List CV} (h : hasRows nm rows = false) (hr : hasL nm r = false) : hasRows nm (rows.set i r) = false := by
  induction rows generalizing i with
  | nil => rfl
  | cons a t ih =>
    simp only [hasRows, Bool.or_eq_false_iff] at h
    cases i with
    | zero => simp only [List.set_cons_zero, hasRows, hr, h.2, Bool.or_self]
    | succ i => simp only [List.set_cons_succ, hasRows, h.1, ih h.2, Bool.or_self]
theorem step_nil (l c : List (List Int)) (hl : SizedAll l) (hc : SizedAll c) (hb : l.length + c.length ≤ 5864062014634) (hno : okStep l c = false) : Spec Try.prog 14 [.v (.t (vecs l)), .v (.t (vecs c))] [] [.v (.t (vecs []))] [] := by
  refine spec_by Try.func14 rfl mixed tOk evOk (n := 100) rfl (by simp) (by simp) ?_
  rw [initSt_mk, show Try.f14.results.toList = [.tmp 4] from rfl]
  simp only [initL, AV.sv, List.map_cons, List.map_nil, Nat.reduceAdd, Nat.zero_add, vecs_eq]
  by_cases h1 : (l.length : Int) = 0
  · have f1 := tt h1
    repeat' (first
     | (with_reducible first | refine s_seq ?_ | refine s_block ?_ | refine s_region fun kr hr => ?_)
     | (with_reducible refine s_text tOk [25, 27, 33, 50, 51, 62, 96, 97, 1000, 1001, 1002, 1003] (by kernel_rfl) (by simp [HeapIn, namers, namerDst, namerOp, namedOp, namedFn, ownLoad, Blk.has, hasRows, hasL, CV.has, hasRows_up, hasM_up, hasRows_append, vrows_len, f1]; (try ((repeat' apply And.intro) <;> intros <;> omega))) fun kr hr => ?_)
     | (with_reducible first | refine s_op fun K' hk => ?_ | refine t_op fun K' hk => ?_ | (refine hk _ ?_; clear hk K') | (refine ht _ ?_; clear ht hf KT KF) | (refine hf _ ?_; clear ht hf KT KF) | ((first | refine s_nil ?_ | refine t_nil ?_); refine hr _ ?_; clear hr kr))
     | ((with_reducible refine n_seqK [0, 1, 2, 3, 4, 5, 6, 7, 8, 9, 10, 11, 12, 13, 14, 17, 22, 23, 30, 34, 35, 36, 37, 42, 43, 44, 54, 55, 56, 57, 68, 73, 74, 75, 76] [25, 27, 33, 50, 51, 62, 96, 97] ?_); simp only [mk_keep, keepL, List.mem_cons, List.not_mem_nil, Nat.reduceEqDiff, Nat.zero_ne_one, Nat.one_ne_zero, reduceCtorEq, or_false, false_or, or_true, true_or, or_self, eq_self, ↓reduceIte])
     | (with_reducible first | refine s_cond fun KT KF ht hf => ?_ | refine s_skip ?_)
     | ((with_reducible refine s_long ?_); simp only [List.cons_append, List.nil_append])
     | (with_reducible first | refine s_exit ?_ | refine s_ret ?_ | refine e_seq ?_ | refine r_seq ?_ | refine n_block ?_ | refine e_block ?_ | refine r_block ?_ | refine e_loop ?_ | refine r_loop ?_ | refine e_round ?_ | refine r_round ?_ | refine s_round ?_ | refine f_block ?_ (by decide) | refine r_res ?_ | refine n_res ?_)
     | (simp only [hgb, go_sem, Int.reduceToNat, ↓reduceIte, reduceCtorEq, Nat.reduceEqDiff, Nat.reduceAdd, Nat.reduceMul, Nat.reduceLT, Nat.reduceLeDiff, Nat.reduceBEq, Int.reduceBEq, Int.reduceBNe, String.reduceBEq, Int.reduceEq, Int.reduceLT, Int.reduceLE, Int.reduceGE, Int.reduceGT, vrows_len, f1]; clear hgb)
     | simp only [go_sem, Int.reduceToNat, ↓reduceIte, reduceCtorEq, Nat.reduceEqDiff, Nat.reduceAdd, Nat.reduceMul, Nat.reduceLT, Nat.reduceLeDiff, Nat.reduceBEq, Int.reduceBEq, Int.reduceBNe, String.reduceBEq, Int.reduceEq, Int.reduceLT, Int.reduceLE, Int.reduceGE, Int.reduceGT, vrows_len, f1, hAll]
     | (refine ite_guard (fun hg => ?_) (fun hg => ?_) <;> (try simp only [Bool.not_eq_true, Bool.not_eq_false, Decidable.not_not] at hg) <;> (first | have hgb : (_ : Bool) = _ := hg | have hgb := ff hg | have hgb := tt hg))
     | (refine ⟨fun hc => ht _ ?_, fun hc => hf _ ?_⟩ <;> clear ht hf KT KF)
     | fail)
    rfl
  · have f1 := ff h1
    by_cases h2 : (c.length : Int) = 0
    · have f2 := tt h2
      repeat' (first
       | (with_reducible first | refine s_seq ?_ | refine s_block ?_ | refine s_region fun kr hr => ?_)
       | (with_reducible refine s_text tOk [25, 27, 33, 50, 51, 62, 96, 97, 1000, 1001, 1002, 1003] (by kernel_rfl) (by simp [HeapIn, namers, namerDst, namerOp, namedOp, namedFn, ownLoad, Blk.has, hasRows, hasL, CV.has, hasRows_up, hasM_up, hasRows_append, vrows_len, f1, f2]; (try ((repeat' apply And.intro) <;> intros <;> omega))) fun kr hr => ?_)
       | (with_reducible first | refine s_op fun K' hk => ?_ | refine t_op fun K' hk => ?_ | (refine hk _ ?_; clear hk K') | (refine ht _ ?_; clear ht hf KT KF) | (refine hf _ ?_; clear ht hf KT KF) | ((first | refine s_nil ?_ | refine t_nil ?_); refine hr _ ?_; clear hr kr))
       | ((with_reducible refine n_seqK [0, 1, 2, 3, 4, 5, 6, 7, 8, 9, 10, 11, 12, 13, 14, 17, 22, 23, 30, 34, 35, 36, 37, 42, 43, 44, 54, 55, 56, 57, 68, 73, 74, 75, 76] [25, 27, 33, 50, 51, 62, 96, 97] ?_); simp only [mk_keep, keepL, List.mem_cons, List.not_mem_nil, Nat.reduceEqDiff, Nat.zero_ne_one, Nat.one_ne_zero, reduceCtorEq, or_false, false_or, or_true, true_or, or_self, eq_self, ↓reduceIte])
       | (with_reducible first | refine s_cond fun KT KF ht hf => ?_ | refine s_skip ?_)
       | ((with_reducible refine s_long ?_); simp only [List.cons_append, List.nil_append])
       | (with_reducible first | refine s_exit ?_ | refine s_ret ?_ | refine e_seq ?_ | refine r_seq ?_ | refine n_block ?_ | refine e_block ?_ | refine r_block ?_ | refine e_loop ?_ | refine r_loop ?_ | refine e_round ?_ | refine r_round ?_ | refine s_round ?_ | refine f_block ?_ (by decide) | refine r_res ?_ | refine n_res ?_)
       | (simp only [hgb, go_sem, Int.reduceToNat, ↓reduceIte, reduceCtorEq, Nat.reduceEqDiff, Nat.reduceAdd, Nat.reduceMul, Nat.reduceLT, Nat.reduceLeDiff, Nat.reduceBEq, Int.reduceBEq, Int.reduceBNe, String.reduceBEq, Int.reduceEq, Int.reduceLT, Int.reduceLE, Int.reduceGE, Int.reduceGT, vrows_len, f1, f2]; clear hgb)
       | simp only [go_sem, Int.reduceToNat, ↓reduceIte, reduceCtorEq, Nat.reduceEqDiff, Nat.reduceAdd, Nat.reduceMul, Nat.reduceLT, Nat.reduceLeDiff, Nat.reduceBEq, Int.reduceBEq, Int.reduceBNe, String.reduceBEq, Int.reduceEq, Int.reduceLT, Int.reduceLE, Int.reduceGE, Int.reduceGT, vrows_len, f1, f2, hAll]
       | (refine ite_guard (fun hg => ?_) (fun hg => ?_) <;> (try simp only [Bool.not_eq_true, Bool.not_eq_false, Decidable.not_not] at hg) <;> (first | have hgb : (_ : Bool) = _ := hg | have hgb := ff hg | have hgb := tt hg))
       | (refine ⟨fun hc => ht _ ?_, fun hc => hf _ ?_⟩ <;> clear ht hf KT KF)
       | fail)
      rfl
    · have f2 := ff h2
      have g1 : ¬ l.length = 0 := by omega
      have g2 : ¬ c.length = 0 := by omega
      have h3 : okRows (l ++ c) = false := by simpa [okStep, g1, g2] using hno
      have b1 := tt (show l.length * 24 ≤ 140737488355328 by omega)
      have b2 := tt (show l.length ≤ 9223372036854775807 by omega)
      have b3 := tt (show (l.length + c.length) * 24 ≤ 140737488355328 by omega)
      have b4 := tt (show l.length + c.length ≤ 9223372036854775807 by omega)
      have hrow := rows_spec (l ++ c) (hl.app hc hb)
      rw [vecs_eq] at hrow
      have t1 : (vrows l).take l.length = vrows l := List.take_of_length_le (by simp [vrows_len])
      have t2 : (vrows (l ++ c)).take (l.length + c.length) = vrows (l ++ c) := List.take_of_length_le (by simp [vrows_len])
      repeat' (first
       | (with_reducible first | refine s_seq ?_ | refine s_block ?_ | refine s_region fun kr hr => ?_)
       | (with_reducible refine s_text tOk [25, 27, 33, 50, 51, 62, 96, 97, 1000, 1001, 1002, 1003] (by kernel_rfl) (by simp [HeapIn, namers, namerDst, namerOp, namedOp, namedFn, ownLoad, Blk.has, hasRows, hasL, CV.has, hasRows_up, hasM_up, hasRows_append, vrows_len, f1, f2, h3, b1, b2, b3, b4, t1, t2, upv_len, upv_app, vrows_app]; (try ((repeat' apply And.intro) <;> intros <;> omega))) fun kr hr => ?_)
       | (with_reducible first | refine s_op fun K' hk => ?_ | refine t_op fun K' hk => ?_ | (refine hk _ ?_; clear hk K') | (refine ht _ ?_; clear ht hf KT KF) | (refine hf _ ?_; clear ht hf KT KF) | ((first | refine s_nil ?_ | refine t_nil ?_); refine hr _ ?_; clear hr kr))
       | ((with_reducible refine n_seqK [0, 1, 2, 3, 4, 5, 6, 7, 8, 9, 10, 11, 12, 13, 14, 17, 22, 23, 30, 34, 35, 36, 37, 42, 43, 44, 54, 55, 56, 57, 68, 73, 74, 75, 76] [25, 27, 33, 50, 51, 62, 96, 97] ?_); simp only [mk_keep, keepL, List.mem_cons, List.not_mem_nil, Nat.reduceEqDiff, Nat.zero_ne_one, Nat.one_ne_zero, reduceCtorEq, or_false, false_or, or_true, true_or, or_self, eq_self, ↓reduceIte])
       | (with_reducible first | refine s_cond fun KT KF ht hf => ?_ | refine s_skip ?_)
       | ((with_reducible refine s_long ?_); simp only [List.cons_append, List.nil_append])
       | (with_reducible first | refine s_exit ?_ | refine s_ret ?_ | refine e_seq ?_ | refine r_seq ?_ | refine n_block ?_ | refine e_block ?_ | refine r_block ?_ | refine e_loop ?_ | refine r_loop ?_ | refine e_round ?_ | refine r_round ?_ | refine s_round ?_ | refine f_block ?_ (by decide) | refine r_res ?_ | refine n_res ?_)
       | (simp only [hgb, go_sem, Int.reduceToNat, ↓reduceIte, reduceCtorEq, Nat.reduceEqDiff, Nat.reduceAdd, Nat.reduceMul, Nat.reduceLT, Nat.reduceLeDiff, Nat.reduceBEq, Int.reduceBEq, Int.reduceBNe, String.reduceBEq, Int.reduceEq, Int.reduceLT, Int.reduceLE, Int.reduceGE, Int.reduceGT, vrows_len, f1, f2, h3, b1, b2, b3, b4, t1, t2, upv_len, upv_app, vrows_app, callE, resSV, AV.flat, CV.flat, TV.flat]; clear hgb)
       | simp only [go_sem, Int.reduceToNat, ↓reduceIte, reduceCtorEq, Nat.reduceEqDiff, Nat.reduceAdd, Nat.reduceMul, Nat.reduceLT, Nat.reduceLeDiff, Nat.reduceBEq, Int.reduceBEq, Int.reduceBNe, String.reduceBEq, Int.reduceEq, Int.reduceLT, Int.reduceLE, Int.reduceGE, Int.reduceGT, vrows_len, f1, f2, h3, b1, b2, b3, b4, t1, t2, upv_len, upv_app, vrows_app, callE, resSV, AV.flat, CV.flat, TV.flat, hAll]
       | refine Or.inl ⟨_, ⟨fun _ _ => rfl, hrow⟩, ?_⟩
       | refine ⟨_, ⟨fun _ _ => rfl, hrow⟩, ?_⟩
       | (refine ite_guard (fun hg => ?_) (fun hg => ?_) <;> (try simp only [Bool.not_eq_true, Bool.not_eq_false, Decidable.not_not] at hg) <;> (first | have hgb : (_ : Bool) = _ := hg | have hgb := ff hg | have hgb := tt hg))
       | (refine ⟨fun hc => ht _ ?_, fun hc => hf _ ?_⟩ <;> clear ht hf KT KF)
       | fail)
      rfl
/-- The i-th row, its first j components divided. -/
def divJ (l c : List (List Int)) (i d j : Nat) : List Int := (List.range d).map fun k => if k < j then sumAt (groupOf c i l) k / ((groupOf c i l).length : Int) else (c.getD i []).getD k 0
theorem divJ_zero {l c : List (List Int)} {i d : Nat} (h : (c.getD i []).length = d) : divJ l c i d 0 = c.getD i [] := by
  subst h
  apply List.ext_getElem
  · simp [divJ]
  · intro k h1 h2
    simp only [divJ, List.getElem_map, List.getElem_range, Nat.not_lt_zero, if_false]
    rw [List.getD_eq_getElem?_getD, List.getElem?_eq_getElem h2]; rfl
theorem divJ_all {l c : List (List Int)} {i d : Nat} (h : (c.getD i []).length = d) (hg : groupOf c i l ≠ []) : divJ l c i d d = stepRow l c i := by
  subst h
  rw [stepRow, if_neg hg, sums, List.map_map]
  refine List.map_congr_left fun k hk => ?_
  rw [List.mem_range] at hk
  rw [if_pos hk]; rfl
theorem divJ_set {l c : List (List Int)} {i d j : Nat} (h : j < d) : (divJ l c i d j).set j (sumAt (groupOf c i l) j / ((groupOf c i l).length : Int)) = divJ l c i d (j + 1) := by
  apply List.ext_getElem
  · simp [divJ]
  · intro k h1 h2
    by_cases e : j = k
    · subst e; simp [divJ]
    · rw [List.getElem_set_ne e]; simp [divJ]; grind
theorem divJ_len (l c : List (List Int)) (i d j : Nat) : (divJ l c i d j).length = d := by simp [divJ]
theorem stepRow_none {l c : List (List Int)} {i : Nat} (h : groupOf c i l = []) : stepRow l c i = c.getD i [] := if_pos h
theorem sums_get {d k : Nat} (g : List (List Int)) (h : k < d) : (sums d g)[k]? = some (sumAt g k) := by simp [sums, h]
/-- The first k rows of a step. -/
def stepK (l c : List (List Int)) (k : Nat) : List (List Int) := (List.range k).map (stepRow l c)
theorem stepK_succ (l c : List (List Int)) (k : Nat) : stepK l c (k + 1) = stepK l c k ++ [stepRow l c k] := by simp [stepK, List.range_succ]
theorem stepK_len (l c : List (List Int)) (k : Nat) : (stepK l c k).length = k := by simp [stepK]
theorem add_tree (g : List (List Int)) (d : Nat) (h0 : 0 < g.length) (hg : ∀ v ∈ g, may v = true ∧ v.length = d) (hl : g.length ≤ 5864062014634) : Spec Try.prog 43 [.v (.t (.sl 1 (vrows g)))] [] [.v (.t (.sl 1 (ints (sums d g))))] [] := by
  have h := add_spec g d h0 hg hl
  have e : (up (ints (sums d g))).length = d := by rw [upi_len, sums_len]
  have h2 : Spec Try.prog 43 [.v (.t (vecs g))] [] [.v (.mr 12 0 (up (ints (sums d g))).length)] [(12, .cells 1 (up (ints (sums d g))))] := by rw [e]; exact h
  exact h2.tree (viewRows_up _)
set_option maxHeartbeats 4000000 in
theorem step_own (l c : List (List Int)) (hl : SizedAll l) (hc : SizedAll c) (hb : l.length + c.length ≤ 5864062014634) (hok : okStep l c = true) : Spec Try.prog 14 [.v (.t (vecs l)), .v (.t (vecs c))] [] [.v (.mr 97 0 c.length)] [(97, .cells 1 (orows (stepF l c)))] := by
  obtain ⟨hl0, hc0, d, hd, hlm, hcm⟩ := okStep_lens hok
  have f1 := ff (show ¬ (l.length : Int) = 0 by omega)
  have f2 := ff (show ¬ (c.length : Int) = 0 by omega)
  have h3 : okRows (l ++ c) = true := by simp only [okStep, Bool.and_eq_true] at hok; exact hok.2
  have b1 := tt (show l.length * 24 ≤ 140737488355328 by omega)
  have b2 := tt (show l.length ≤ 9223372036854775807 by omega)
  have b3 := tt (show (l.length + c.length) * 24 ≤ 140737488355328 by omega)
  have b4 := tt (show l.length + c.length ≤ 9223372036854775807 by omega)
  have b5 := tt (show 0 ≤ (c.length : Int) by omega)
  have b6 := tt (show (c.length : Int) ≤ 9223372036854775807 by omega)
  have b7 := tt (show (c.length : Int) * 24 ≤ 140737488355328 by omega)
  have hrow := rows_spec (l ++ c) (hl.app hc hb)
  rw [vecs_eq] at hrow
  have t1 : (vrows l).take l.length = vrows l := List.take_of_length_le (by simp [vrows_len])
  have t2 : (vrows (l ++ c)).take (l.length + c.length) = vrows (l ++ c) := List.take_of_length_le (by simp [vrows_len])
  have g0 := grows_nil c
  refine spec_by Try.func14 rfl mixed tOk evOk (n := 100) rfl (by simp) (by simp) ?_
  rw [initSt_mk, show Try.f14.results.toList = [.tmp 4] from rfl]
  simp only [initL, AV.sv, List.map_cons, List.map_nil, Nat.reduceAdd, Nat.zero_add, vecs_eq]
  repeat' (first
   | (with_reducible first | refine s_seq ?_ | refine s_block ?_ | refine s_region fun kr hr => ?_)
   | (with_reducible refine s_text tOk [25, 27, 33, 50, 51, 62, 96, 97, 1000, 1001, 1002, 1003] (by kernel_rfl) (by simp [HeapIn, namers, namerDst, namerOp, namedOp, namedFn, ownLoad, Blk.has, hasRows, hasL, CV.has, hasRows_up, hasM_up, hasRows_append, vrows_len, f1, f2, h3, b1, b2, b3, b4, b5, b6, b7, t1, t2, g0, grows_has, upv_len, upv_app, vrows_app]; (try ((repeat' apply And.intro) <;> intros <;> omega))) fun kr hr => ?_)
   | (with_reducible first | refine s_op fun K' hk => ?_ | refine t_op fun K' hk => ?_ | (refine hk _ ?_; clear hk K') | (refine ht _ ?_; clear ht hf KT KF) | (refine hf _ ?_; clear ht hf KT KF) | ((first | refine s_nil ?_ | refine t_nil ?_); refine hr _ ?_; clear hr kr))
   | ((with_reducible refine n_seqK [0, 1, 2, 3, 4, 5, 6, 7, 8, 9, 10, 11, 12, 13, 14, 17, 22, 23, 30, 34, 35, 36, 37, 42, 43, 44, 54, 55, 56, 57, 68, 73, 74, 75, 76] [25, 27, 33, 50, 51, 62, 96, 97] ?_); simp only [mk_keep, keepL, List.mem_cons, List.not_mem_nil, Nat.reduceEqDiff, Nat.zero_ne_one, Nat.one_ne_zero, reduceCtorEq, or_false, false_or, or_true, true_or, or_self, eq_self, ↓reduceIte])
   | (with_reducible first | refine s_cond fun KT KF ht hf => ?_ | refine s_skip ?_)
   | ((with_reducible refine s_long ?_); simp only [List.cons_append, List.nil_append])
   | (with_reducible first | refine s_exit ?_ | refine s_ret ?_ | refine e_seq ?_ | refine r_seq ?_ | refine n_block ?_ | refine e_block ?_ | refine r_block ?_ | refine e_loop ?_ | refine r_loop ?_ | refine e_round ?_ | refine r_round ?_ | refine s_round ?_ | refine f_block ?_ (by decide) | refine r_res ?_ | refine n_res ?_)
   | (simp only [hgb, go_sem, Int.reduceToNat, ↓reduceIte, reduceCtorEq, Nat.reduceEqDiff, Nat.reduceAdd, Nat.reduceMul, Nat.reduceLT, Nat.reduceLeDiff, Nat.reduceBEq, Int.reduceBEq, Int.reduceBNe, String.reduceBEq, Int.reduceEq, Int.reduceLT, Int.reduceLE, Int.reduceGE, Int.reduceGT, vrows_len, f1, f2, h3, b1, b2, b3, b4, b5, b6, b7, t1, t2, g0, grows_has, upv_len, upv_app, vrows_app, callE, resSV, AV.flat, CV.flat, TV.flat]; clear hgb)
   | simp only [go_sem, Int.reduceToNat, ↓reduceIte, reduceCtorEq, Nat.reduceEqDiff, Nat.reduceAdd, Nat.reduceMul, Nat.reduceLT, Nat.reduceLeDiff, Nat.reduceBEq, Int.reduceBEq, Int.reduceBNe, String.reduceBEq, Int.reduceEq, Int.reduceLT, Int.reduceLE, Int.reduceGE, Int.reduceGT, vrows_len, f1, f2, h3, b1, b2, b3, b4, b5, b6, b7, t1, t2, g0, grows_has, upv_len, upv_app, vrows_app, callE, resSV, AV.flat, CV.flat, TV.flat, hAll]
   | refine Or.inl ⟨_, ⟨fun _ _ => rfl, hrow⟩, ?_⟩
   | refine ⟨_, ⟨fun _ _ => rfl, hrow⟩, ?_⟩
   | (refine ite_guard (fun hg => ?_) (fun hg => ?_) <;> (try simp only [Bool.not_eq_true, Bool.not_eq_false, Decidable.not_not] at hg) <;> (first | have hgb : (_ : Bool) = _ := hg | have hgb := ff hg | have hgb := tt hg))
   | (refine ⟨fun hc => ht _ ?_, fun hc => hf _ ?_⟩ <;> clear ht hf KT KF)
   | fail)
  refine w_loop [0, 1, 4, 5, 34, 35, 36] [33] (σ := Nat) (fun k st => st = mk [(0, V (.sl 1 (vrows l))), (1, V (.sl 1 (vrows c))), (4, .c (.own 1 [])), (5, .c (.mr 33 0 c.length)), (34, V (.sl 1 (vrows l))), (35, I l.length), (36, I k)] [(33, .cells 1 (grows c (l.take k)))] ∧ k ≤ l.length) (fun k => l.length - k) 0 ?_ ?_
  · simp only [go_sem, Int.reduceToNat, ↓reduceIte, reduceCtorEq, Nat.reduceEqDiff, Nat.reduceAdd, Nat.reduceMul, Nat.reduceLT, Nat.reduceLeDiff, Nat.reduceBEq, Int.reduceBEq, Int.reduceBNe, String.reduceBEq, Int.reduceEq, Int.reduceLT, Int.reduceLE, Int.reduceGE, Int.reduceGT, mk_keep, keepL, List.mem_cons, List.not_mem_nil, Nat.reduceEqDiff, Nat.zero_ne_one, Nat.one_ne_zero, reduceCtorEq, or_false, false_or, or_true, true_or, or_self, eq_self, ↓reduceIte]
    first | exact ⟨rfl, Nat.zero_le _⟩ | exact Nat.zero_le _
  · rintro k st' ⟨rfl, hk⟩
    by_cases hlt : k < l.length
    · have c1 := ltI hlt
      have c2 := get_of_lt hlt
      have c3 := wUp hlt (by omega)
      obtain ⟨ha, hat⟩ := at_eq l[k] hc0
      have hn := near_spec l[k] c (hl.at hlt) hc
      rw [ha, vecs_eq, vec_eq] at hn
      have c4 := tt (show (at' l[k] c : Int) < c.length by omega)
      generalize hat' : at' l[k] c = at0 at *
      repeat refine s_seq ?_
      refine s_region fun kr hr => ?_
      refine s_ghost _ (gho_unfold (k := 33) (i := at0) (j := 0) (nm := 15) (sz := 1) (sz' := 1) (rows := grows c (l.take k)) (rows' := up (vrows (groupOf c at0 (l.take k)))) (row := [CV.own 1 (up (vrows (groupOf c at0 (l.take k))))]) (by decide) (by decide) (by simp [mk_heap, hL]) (grows_get hat) rfl (by rw [fresh_t]; exact trivial; simp only [freshL, Blk.has, grows_has]; rfl) (hasRows_up _ _)) ?_
      rw [mk_unfold]
      have hmod := set_modify (c := .mr 15 0 (up (vrows (groupOf c at0 (l.take k)))).length) (grows_get (l := l.take k) hat)
      have hg1 : ((grows c (l.take k)).set at0 [CV.mr 15 0 (up (vrows (groupOf c at0 (l.take k)))).length])[at0]? = some [CV.mr 15 0 (up (vrows (groupOf c at0 (l.take k)))).length] := List.getElem?_set_self (by rw [grows_len]; exact hat)
      have hul := upv_len (groupOf c at0 (l.take k))
      generalize hgr : groupOf c at0 (l.take k) = g at *
      have hgl : g.length ≤ k := by rw [← hgr]; exact Nat.le_trans (List.length_filter_le _ _) (by simp; omega)
      have hgt : (vrows g).take g.length = vrows g := List.take_of_length_le (by simp [vrows_len])
      have e1 := tt (show (g.length + 1) * 24 ≤ 140737488355328 by omega)
      have e2 := tt (show g.length ≤ 9223372036854775806 by omega)
      rw [hul] at hg1
      rw [hmod]
      have hsx : ∀ nm, ¬ nm = 15 → hasRows nm ((grows c (l.take k)).set at0 [CV.mr 15 0 g.length]) = false := fun nm h => hasRows_set (grows_has _ _) (by simp [hasL, CV.has]; omega)
      repeat' (first
       | (with_reducible first | refine s_seq ?_ | refine s_block ?_ | refine s_region fun kr hr => ?_)
       | (with_reducible refine s_text tOk [15, 25, 27, 33, 50, 51, 62, 96, 97, 1000, 1001, 1002, 1003] (by kernel_rfl) (by simp [HeapIn, namers, namerDst, namerOp, namedOp, namedFn, ownLoad, Blk.has, hasRows, hasL, CV.has, hasRows_up, hasM_up, hasRows_append, c1, c2, c3, c4, hg1, hul, hgt, hsx, e1, e2, grows_len, grows_has, vrows_get, vrows_len, vec_eq, upv_snoc, List.length_set, List.set_set]; (try ((repeat' apply And.intro) <;> intros <;> omega))) fun kr hr => ?_)
       | (with_reducible first | refine s_op fun K' hk => ?_ | refine t_op fun K' hk => ?_ | (refine hk _ ?_; clear hk K') | (refine ht _ ?_; clear ht hf KT KF) | (refine hf _ ?_; clear ht hf KT KF) | ((first | refine s_nil ?_ | refine t_nil ?_); refine hr _ ?_; clear hr kr))
       | ((with_reducible refine n_seqK [0, 1, 2, 3, 4, 5, 6, 7, 8, 9, 10, 11, 12, 13, 14, 17, 22, 23, 30, 34, 35, 36, 37, 42, 43, 44, 54, 55, 56, 57, 68, 73, 74, 75, 76] [15, 25, 27, 33, 50, 51, 62, 96, 97] ?_); simp only [mk_keep, keepL, List.mem_cons, List.not_mem_nil, Nat.reduceEqDiff, Nat.zero_ne_one, Nat.one_ne_zero, reduceCtorEq, or_false, false_or, or_true, true_or, or_self, eq_self, ↓reduceIte])
       | (with_reducible first | refine s_cond fun KT KF ht hf => ?_ | refine s_skip ?_)
       | ((with_reducible refine s_long ?_); simp only [List.cons_append, List.nil_append])
       | (with_reducible first | refine s_exit ?_ | refine s_ret ?_ | refine e_seq ?_ | refine r_seq ?_ | refine n_block ?_ | refine e_block ?_ | refine r_block ?_ | refine e_loop ?_ | refine r_loop ?_ | refine e_round ?_ | refine r_round ?_ | refine s_round ?_ | refine f_block ?_ (by decide) | refine r_res ?_ | refine n_res ?_)
       | (simp only [hgb, go_sem, Int.reduceToNat, ↓reduceIte, reduceCtorEq, Nat.reduceEqDiff, Nat.reduceAdd, Nat.reduceMul, Nat.reduceLT, Nat.reduceLeDiff, Nat.reduceBEq, Int.reduceBEq, Int.reduceBNe, String.reduceBEq, Int.reduceEq, Int.reduceLT, Int.reduceLE, Int.reduceGE, Int.reduceGT, c1, c2, c3, c4, hg1, hul, hgt, hsx, e1, e2, grows_len, grows_has, vrows_get, vrows_len, vec_eq, upv_snoc, List.length_set, List.set_set, callE, resSV, AV.flat, CV.flat, TV.flat]; clear hgb)
       | simp only [go_sem, Int.reduceToNat, ↓reduceIte, reduceCtorEq, Nat.reduceEqDiff, Nat.reduceAdd, Nat.reduceMul, Nat.reduceLT, Nat.reduceLeDiff, Nat.reduceBEq, Int.reduceBEq, Int.reduceBNe, String.reduceBEq, Int.reduceEq, Int.reduceLT, Int.reduceLE, Int.reduceGE, Int.reduceGT, c1, c2, c3, c4, hg1, hul, hgt, hsx, e1, e2, grows_len, grows_has, vrows_get, vrows_len, vec_eq, upv_snoc, List.length_set, List.set_set, callE, resSV, AV.flat, CV.flat, TV.flat, hAll]
       | refine Or.inl ⟨_, ⟨fun _ _ => rfl, hn⟩, ?_⟩
       | refine ⟨_, ⟨fun _ _ => rfl, hn⟩, ?_⟩
       | (refine ite_guard (fun hg => ?_) (fun hg => ?_) <;> (try simp only [Bool.not_eq_true, Bool.not_eq_false, Decidable.not_not] at hg) <;> (first | have hgb : (_ : Bool) = _ := hg | have hgb := ff hg | have hgb := tt hg))
       | (refine ⟨fun hc => ht _ ?_, fun hc => hf _ ?_⟩ <;> clear ht hf KT KF)
       | fail)
      have hap : up (vrows (g ++ [l[k]])) ≠ [] := by simp [up, vrows]
      have hal : (up (vrows (g ++ [l[k]]))).length = g.length + 1 := by rw [upv_len]; simp
      have hg2 : ((grows c (l.take k)).set at0 [CV.mr 51 0 (g.length + 1)])[at0]? = some [CV.mr 51 0 (g.length + 1)] := List.getElem?_set_self (by rw [grows_len]; exact hat)
      refine n_loopG _ (gho_fold (k := 33) (i := at0) (j := 0) (nm := 51) (sz := 1) (sz' := 1) (rows := (grows c (l.take k)).set at0 [CV.mr 51 0 (g.length + 1)]) (rows' := up (vrows (g ++ [l[k]]))) (row := [CV.mr 51 0 (g.length + 1)]) (by decide) (by simp [mk_heap, hL]) (by simp [mk_heap, hL]) hg2 (by rw [hal]; rfl) hap) ?_
      rw [mk_fold]
      refine n_loop (k + 1) [0, 1, 4, 5, 34, 35, 36] [33] ⟨?_, hlt⟩ (by omega)
      have h9 := grows_snoc (c := c) (l := l.take k) (v := l[k]) (by rw [hat']; exact hat)
      rw [hat', hgr, ← List.take_succ_eq_append_getElem hlt] at h9
      simp only [go_sem, Int.reduceToNat, ↓reduceIte, reduceCtorEq, Nat.reduceEqDiff, Nat.reduceAdd, Nat.reduceMul, Nat.reduceLT, Nat.reduceLeDiff, Nat.reduceBEq, Int.reduceBEq, Int.reduceBNe, String.reduceBEq, Int.reduceEq, Int.reduceLT, Int.reduceLE, Int.reduceGE, Int.reduceGT, mk_keep, keepL, List.mem_cons, List.not_mem_nil, Nat.reduceEqDiff, Nat.zero_ne_one, Nat.one_ne_zero, reduceCtorEq, or_false, false_or, or_true, true_or, or_self, eq_self, ↓reduceIte, set_modify hg2, List.set_set, h9]
    · have c1 := nltI hlt
      obtain rfl : k = l.length := by omega
      rw [List.take_length]
      repeat' (first
       | (with_reducible first | refine s_seq ?_ | refine s_block ?_ | refine s_region fun kr hr => ?_)
       | (with_reducible refine s_text tOk [25, 27, 33, 50, 51, 62, 96, 97, 1000, 1001, 1002, 1003] (by kernel_rfl) (by simp [HeapIn, namers, namerDst, namerOp, namedOp, namedFn, ownLoad, Blk.has, hasRows, hasL, CV.has, hasRows_up, hasM_up, hasRows_append, c1, vrows_len, grows_has]; (try ((repeat' apply And.intro) <;> intros <;> omega))) fun kr hr => ?_)
       | (with_reducible first | refine s_op fun K' hk => ?_ | refine t_op fun K' hk => ?_ | (refine hk _ ?_; clear hk K') | (refine ht _ ?_; clear ht hf KT KF) | (refine hf _ ?_; clear ht hf KT KF) | ((first | refine s_nil ?_ | refine t_nil ?_); refine hr _ ?_; clear hr kr))
       | ((with_reducible refine n_seqK [0, 1, 2, 3, 4, 5, 6, 7, 8, 9, 10, 11, 12, 13, 14, 17, 22, 23, 30, 34, 35, 36, 37, 42, 43, 44, 54, 55, 56, 57, 68, 73, 74, 75, 76] [25, 27, 33, 50, 51, 62, 96, 97] ?_); simp only [mk_keep, keepL, List.mem_cons, List.not_mem_nil, Nat.reduceEqDiff, Nat.zero_ne_one, Nat.one_ne_zero, reduceCtorEq, or_false, false_or, or_true, true_or, or_self, eq_self, ↓reduceIte])
       | (with_reducible first | refine s_cond fun KT KF ht hf => ?_ | refine s_skip ?_)
       | ((with_reducible refine s_long ?_); simp only [List.cons_append, List.nil_append])
       | (with_reducible first | refine s_exit ?_ | refine s_ret ?_ | refine e_seq ?_ | refine r_seq ?_ | refine n_block ?_ | refine e_block ?_ | refine r_block ?_ | refine e_loop ?_ | refine r_loop ?_ | refine e_round ?_ | refine r_round ?_ | refine s_round ?_ | refine f_block ?_ (by decide) | refine r_res ?_ | refine n_res ?_)
       | (simp only [hgb, go_sem, Int.reduceToNat, ↓reduceIte, reduceCtorEq, Nat.reduceEqDiff, Nat.reduceAdd, Nat.reduceMul, Nat.reduceLT, Nat.reduceLeDiff, Nat.reduceBEq, Int.reduceBEq, Int.reduceBNe, String.reduceBEq, Int.reduceEq, Int.reduceLT, Int.reduceLE, Int.reduceGE, Int.reduceGT, c1, vrows_len, grows_has]; clear hgb)
       | simp only [go_sem, Int.reduceToNat, ↓reduceIte, reduceCtorEq, Nat.reduceEqDiff, Nat.reduceAdd, Nat.reduceMul, Nat.reduceLT, Nat.reduceLeDiff, Nat.reduceBEq, Int.reduceBEq, Int.reduceBNe, String.reduceBEq, Int.reduceEq, Int.reduceLT, Int.reduceLE, Int.reduceGE, Int.reduceGT, c1, vrows_len, grows_has, hAll]
       | (refine ite_guard (fun hg => ?_) (fun hg => ?_) <;> (try simp only [Bool.not_eq_true, Bool.not_eq_false, Decidable.not_not] at hg) <;> (first | have hgb : (_ : Bool) = _ := hg | have hgb := ff hg | have hgb := tt hg))
       | (refine ⟨fun hc => ht _ ?_, fun hc => hf _ ?_⟩ <;> clear ht hf KT KF)
       | fail)
      refine w_loopG _ (gho_freeze (nm := 33) (sz := 1) (rows := grows c l) (trows := gtrees c l) (by simp [mk_heap, hL]) (grows_view c l)) ?_
      rw [mk_freeze]
      refine w_loopG _ (gho_nilName (s := 9) (d := 97) (sz := 1) (by decide) ⟨1, rfl⟩ (by rw [fresh_t]; exact trivial; rfl)) ?_
      rw [mk_nilName]
      refine w_loop [4, 5, 9, 54, 55, 56] [97] (σ := Nat) (fun i st => st = mk [(4, .c (.own 1 [])), (5, V (.sl 1 (gtrees c l))), (9, .c (.mr 97 0 i)), (54, V (.sl 1 (vrows c))), (55, I c.length), (56, I i)] [(97, .cells 1 (orows (stepK l c i)))] ∧ i ≤ c.length) (fun i => c.length - i) 0 ?_ ?_
      · have hgt0 : (gtrees c l).take c.length = gtrees c l := List.take_of_length_le (by rw [gtrees_len]; omega)
        simp only [go_sem, Int.reduceToNat, ↓reduceIte, reduceCtorEq, Nat.reduceEqDiff, Nat.reduceAdd, Nat.reduceMul, Nat.reduceLT, Nat.reduceLeDiff, Nat.reduceBEq, Int.reduceBEq, Int.reduceBNe, String.reduceBEq, Int.reduceEq, Int.reduceLT, Int.reduceLE, Int.reduceGE, Int.reduceGT, mk_keep, keepL, List.mem_cons, List.not_mem_nil, Nat.reduceEqDiff, Nat.zero_ne_one, Nat.one_ne_zero, reduceCtorEq, or_false, false_or, or_true, true_or, or_self, eq_self, ↓reduceIte, SV.frz, CV.frz, gtrees_len, hgt0]
        first | exact ⟨rfl, Nat.zero_le _⟩ | exact Nat.zero_le _
      · rintro i st' ⟨rfl, hi⟩
        by_cases hit : i < c.length
        · have d1 := ltI hit
          have d2 := get_of_lt hit
          have d3 := wUp hit (by omega)
          have hci := hcm _ (List.getElem_mem hit)
          have hcl := hci.2
          have hcd : c.getD i [] = c[i] := by simp [hit]
          have hgt := gtrees_get (l := l) hit
          have hgi : ∀ v ∈ groupOf c i l, may v = true ∧ v.length = d := fun v hv => hlm v (List.mem_filter.1 hv).1
          have hgl : (groupOf c i l).length ≤ l.length := List.length_filter_le _ _
          have e1 := tt (show d * 8 ≤ 140737488355328 by omega)
          have e2 := tt (show d ≤ 9223372036854775807 by omega)
          have e3 := tt (show (i + 1) * 24 ≤ 140737488355328 by omega)
          have e4 := tt (show i ≤ 9223372036854775806 by omega)
          have hn : (orows (stepK l c i)).length = i := by rw [orows_length, stepK_len]
          have ht : (orows (stepK l c i)).take i = orows (stepK l c i) := List.take_of_length_le (by omega)
          have e5 := tt (show (i : Int) < c.length by omega)
          by_cases hg0 : groupOf c i l = []
          · have e6 := ff (show ¬ ((groupOf c i l).length : Int) > 0 by rw [hg0]; simp)
            repeat' (first
             | (with_reducible first | refine s_seq ?_ | refine s_block ?_ | refine s_region fun kr hr => ?_)
             | (with_reducible refine s_text tOk [25, 27, 33, 50, 51, 62, 96, 97, 1000, 1001, 1002, 1003] (by kernel_rfl) (by simp [HeapIn, namers, namerDst, namerOp, namedOp, namedFn, ownLoad, Blk.has, hasRows, hasL, CV.has, hasRows_up, hasM_up, hasRows_append, d1, d2, d3, hcl, hgt, e1, e2, e3, e4, e5, e6, hn, ht, gtrees_len, orows_has, vrows_get, vrows_len, vec_eq, ints_len]; (try ((repeat' apply And.intro) <;> intros <;> omega))) fun kr hr => ?_)
             | (with_reducible first | refine s_op fun K' hk => ?_ | refine t_op fun K' hk => ?_ | (refine hk _ ?_; clear hk K') | (refine ht _ ?_; clear ht hf KT KF) | (refine hf _ ?_; clear ht hf KT KF) | ((first | refine s_nil ?_ | refine t_nil ?_); refine hr _ ?_; clear hr kr))
             | ((with_reducible refine n_seqK [0, 1, 2, 3, 4, 5, 6, 7, 8, 9, 10, 11, 12, 13, 14, 17, 22, 23, 30, 34, 35, 36, 37, 42, 43, 44, 54, 55, 56, 57, 68, 73, 74, 75, 76] [25, 27, 33, 50, 51, 62, 96, 97] ?_); simp only [mk_keep, keepL, List.mem_cons, List.not_mem_nil, Nat.reduceEqDiff, Nat.zero_ne_one, Nat.one_ne_zero, reduceCtorEq, or_false, false_or, or_true, true_or, or_self, eq_self, ↓reduceIte])
             | (with_reducible first | refine s_cond fun KT KF ht hf => ?_ | refine s_skip ?_)
             | ((with_reducible refine s_long ?_); simp only [List.cons_append, List.nil_append])
             | (with_reducible first | refine s_exit ?_ | refine s_ret ?_ | refine e_seq ?_ | refine r_seq ?_ | refine n_block ?_ | refine e_block ?_ | refine r_block ?_ | refine e_loop ?_ | refine r_loop ?_ | refine e_round ?_ | refine r_round ?_ | refine s_round ?_ | refine f_block ?_ (by decide) | refine r_res ?_ | refine n_res ?_)
             | (simp only [hgb, go_sem, Int.reduceToNat, ↓reduceIte, reduceCtorEq, Nat.reduceEqDiff, Nat.reduceAdd, Nat.reduceMul, Nat.reduceLT, Nat.reduceLeDiff, Nat.reduceBEq, Int.reduceBEq, Int.reduceBNe, String.reduceBEq, Int.reduceEq, Int.reduceLT, Int.reduceLE, Int.reduceGE, Int.reduceGT, d1, d2, d3, hcl, hgt, e1, e2, e3, e4, e5, e6, hn, ht, gtrees_len, orows_has, vrows_get, vrows_len, vec_eq, ints_len]; clear hgb)
             | simp only [go_sem, Int.reduceToNat, ↓reduceIte, reduceCtorEq, Nat.reduceEqDiff, Nat.reduceAdd, Nat.reduceMul, Nat.reduceLT, Nat.reduceLeDiff, Nat.reduceBEq, Int.reduceBEq, Int.reduceBNe, String.reduceBEq, Int.reduceEq, Int.reduceLT, Int.reduceLE, Int.reduceGE, Int.reduceGT, d1, d2, d3, hcl, hgt, e1, e2, e3, e4, e5, e6, hn, ht, gtrees_len, orows_has, vrows_get, vrows_len, vec_eq, ints_len, hAll]
             | (refine ite_guard (fun hg => ?_) (fun hg => ?_) <;> (try simp only [Bool.not_eq_true, Bool.not_eq_false, Decidable.not_not] at hg) <;> (first | have hgb : (_ : Bool) = _ := hg | have hgb := ff hg | have hgb := tt hg))
             | (refine ⟨fun hc => ht _ ?_, fun hc => hf _ ?_⟩ <;> clear ht hf KT KF)
             | fail)
            have hsr : stepRow l c i = c[i] := by rw [stepRow_none hg0, hcd]
            have hrl : (up (ints (stepRow l c i))).length = d := by rw [upi_len, hsr, hcl]
            rw [← hsr]
            refine n_loopG _ (gho_foldL (k := 97) (i := i) (j := 0) (nm := 62) (sz := 1) (sz' := 1) (rows := orows (stepK l c i) ++ [[.mr 62 0 d]]) (rows' := up (ints (stepRow l c i))) (row := [.mr 62 0 d]) (by decide) (by simp [mk_heap, hL]) (by simp [mk_heap, hL]) (by rw [List.getElem?_append_right (by omega), hn]; simp) (by rw [hrl]; rfl)) ?_
            rw [mk_fold]
            refine n_loop (i + 1) [4, 5, 9, 54, 55, 56] [97] ⟨?_, hit⟩ (by omega)
            have hmod := modify_last (orows (stepK l c i)) (.mr 62 0 d) (lcell 1 (up (ints (stepRow l c i))))
            rw [hn] at hmod
            simp only [go_sem, Int.reduceToNat, ↓reduceIte, reduceCtorEq, Nat.reduceEqDiff, Nat.reduceAdd, Nat.reduceMul, Nat.reduceLT, Nat.reduceLeDiff, Nat.reduceBEq, Int.reduceBEq, Int.reduceBNe, String.reduceBEq, Int.reduceEq, Int.reduceLT, Int.reduceLE, Int.reduceGE, Int.reduceGT, mk_keep, keepL, List.mem_cons, List.not_mem_nil, Nat.reduceEqDiff, Nat.zero_ne_one, Nat.one_ne_zero, reduceCtorEq, or_false, false_or, or_true, true_or, or_self, eq_self, ↓reduceIte, hmod, stepK_succ, orows_snoc]
          · have hgp : 0 < (groupOf c i l).length := List.length_pos_iff.2 hg0
            have e6 := tt (show ((groupOf c i l).length : Int) > 0 by omega)
            have hadd := add_tree _ d hgp hgi (by omega)
            repeat' (first
             | (with_reducible first | refine s_seq ?_ | refine s_block ?_ | refine s_region fun kr hr => ?_)
             | (with_reducible refine s_text tOk [25, 27, 33, 50, 51, 62, 96, 97, 1000, 1001, 1002, 1003] (by kernel_rfl) (by simp [HeapIn, namers, namerDst, namerOp, namedOp, namedFn, ownLoad, Blk.has, hasRows, hasL, CV.has, hasRows_up, hasM_up, hasRows_append, d1, d2, d3, hcl, hgt, e1, e2, e3, e4, e5, e6, hn, ht, gtrees_len, orows_has, vrows_get, vrows_len, vec_eq, ints_len, sums_len]; (try ((repeat' apply And.intro) <;> intros <;> omega))) fun kr hr => ?_)
             | (with_reducible first | refine s_op fun K' hk => ?_ | refine t_op fun K' hk => ?_ | (refine hk _ ?_; clear hk K') | (refine ht _ ?_; clear ht hf KT KF) | (refine hf _ ?_; clear ht hf KT KF) | ((first | refine s_nil ?_ | refine t_nil ?_); refine hr _ ?_; clear hr kr))
             | ((with_reducible refine n_seqK [0, 1, 2, 3, 4, 5, 6, 7, 8, 9, 10, 11, 12, 13, 14, 17, 22, 23, 30, 34, 35, 36, 37, 42, 43, 44, 54, 55, 56, 57, 68, 73, 74, 75, 76] [25, 27, 33, 50, 51, 62, 96, 97] ?_); simp only [mk_keep, keepL, List.mem_cons, List.not_mem_nil, Nat.reduceEqDiff, Nat.zero_ne_one, Nat.one_ne_zero, reduceCtorEq, or_false, false_or, or_true, true_or, or_self, eq_self, ↓reduceIte])
             | (with_reducible first | refine s_cond fun KT KF ht hf => ?_ | refine s_skip ?_)
             | ((with_reducible refine s_long ?_); simp only [List.cons_append, List.nil_append])
             | (with_reducible first | refine s_exit ?_ | refine s_ret ?_ | refine e_seq ?_ | refine r_seq ?_ | refine n_block ?_ | refine e_block ?_ | refine r_block ?_ | refine e_loop ?_ | refine r_loop ?_ | refine e_round ?_ | refine r_round ?_ | refine s_round ?_ | refine f_block ?_ (by decide) | refine r_res ?_ | refine n_res ?_)
             | (simp only [hgb, go_sem, Int.reduceToNat, ↓reduceIte, reduceCtorEq, Nat.reduceEqDiff, Nat.reduceAdd, Nat.reduceMul, Nat.reduceLT, Nat.reduceLeDiff, Nat.reduceBEq, Int.reduceBEq, Int.reduceBNe, String.reduceBEq, Int.reduceEq, Int.reduceLT, Int.reduceLE, Int.reduceGE, Int.reduceGT, d1, d2, d3, hcl, hgt, e1, e2, e3, e4, e5, e6, hn, ht, gtrees_len, orows_has, vrows_get, vrows_len, vec_eq, ints_len, sums_len, callE, resSV, AV.flat, CV.flat, TV.flat]; clear hgb)
             | simp only [go_sem, Int.reduceToNat, ↓reduceIte, reduceCtorEq, Nat.reduceEqDiff, Nat.reduceAdd, Nat.reduceMul, Nat.reduceLT, Nat.reduceLeDiff, Nat.reduceBEq, Int.reduceBEq, Int.reduceBNe, String.reduceBEq, Int.reduceEq, Int.reduceLT, Int.reduceLE, Int.reduceGE, Int.reduceGT, d1, d2, d3, hcl, hgt, e1, e2, e3, e4, e5, e6, hn, ht, gtrees_len, orows_has, vrows_get, vrows_len, vec_eq, ints_len, sums_len, callE, resSV, AV.flat, CV.flat, TV.flat, hAll]
             | refine Or.inl ⟨_, ⟨fun _ _ => rfl, hadd⟩, ?_⟩
             | refine ⟨_, ⟨fun _ _ => rfl, hadd⟩, ?_⟩
             | (refine ite_guard (fun hg => ?_) (fun hg => ?_) <;> (try simp only [Bool.not_eq_true, Bool.not_eq_false, Decidable.not_not] at hg) <;> (first | have hgb : (_ : Bool) = _ := hg | have hgb := ff hg | have hgb := tt hg))
             | (refine ⟨fun hc => ht _ ?_, fun hc => hf _ ?_⟩ <;> clear ht hf KT KF)
             | fail)
            have hz := divJ_zero (l := l) (c := c) (i := i) (d := d) (by rw [hcd]; exact hcl)
            rw [hcd] at hz
            refine w_loop [4, 5, 9, 10, 12, 54, 55, 56, 73, 74, 75] [62, 97] (σ := Nat) (fun j st => st = mk [(4, .c (.own 1 [])), (5, V (.sl 1 (gtrees c l))), (9, .c (.mr 97 0 i)), (10, I i), (12, .c (.mr 62 0 d)), (54, V (.sl 1 (vrows c))), (55, I c.length), (56, I i), (73, V (.sl 1 (ints (sums d (groupOf c i l))))), (74, I d), (75, I j)] [(62, .cells 1 (up (ints (divJ l c i d j)))), (97, .cells 1 (orows (stepK l c i)))] ∧ j ≤ d) (fun j => d - j) 0 ?_ ?_
            · simp only [go_sem, Int.reduceToNat, ↓reduceIte, reduceCtorEq, Nat.reduceEqDiff, Nat.reduceAdd, Nat.reduceMul, Nat.reduceLT, Nat.reduceLeDiff, Nat.reduceBEq, Int.reduceBEq, Int.reduceBNe, String.reduceBEq, Int.reduceEq, Int.reduceLT, Int.reduceLE, Int.reduceGE, Int.reduceGT, mk_keep, keepL, List.mem_cons, List.not_mem_nil, Nat.reduceEqDiff, Nat.zero_ne_one, Nat.one_ne_zero, reduceCtorEq, or_false, false_or, or_true, true_or, or_self, eq_self, ↓reduceIte, hz]
              first | exact ⟨rfl, Nat.zero_le _⟩ | exact Nat.zero_le _
            · rintro j st' ⟨rfl, hj⟩
              by_cases hjt : j < d
              · have k1 := ltI hjt
                have k2 := wUp hjt (by omega)
                have k3 := sums_get (groupOf c i l) hjt
                have hsb := sumAt_le (fun v hv k => may_getD (hgi v hv).1 k) j
                have k4 := div_spec (sumAt (groupOf c i l) j) ((groupOf c i l).length : Int) (by omega) (by omega)
                have k5 := divJ_set (l := l) (c := c) (i := i) hjt
                have k6 : (divJ l c i d j)[j]? = some ((divJ l c i d j)[j]'(by rw [divJ_len]; exact hjt)) := List.getElem?_eq_getElem _
                repeat' (first
                 | (with_reducible first | refine s_seq ?_ | refine s_block ?_ | refine s_region fun kr hr => ?_)
                 | (with_reducible refine s_text tOk [25, 27, 33, 50, 51, 62, 96, 97, 1000, 1001, 1002, 1003] (by kernel_rfl) (by simp [HeapIn, namers, namerDst, namerOp, namedOp, namedFn, ownLoad, Blk.has, hasRows, hasL, CV.has, hasRows_up, hasM_up, hasRows_append, d1, d2, e5, k1, k2, k3, k5, k6, hgt, gtrees_len, vrows_len, ints_get, ints_len, upi_get, upi_len, up_set1, divJ_len, sums_len]; (try ((repeat' apply And.intro) <;> intros <;> omega))) fun kr hr => ?_)
                 | (with_reducible first | refine s_op fun K' hk => ?_ | refine t_op fun K' hk => ?_ | (refine hk _ ?_; clear hk K') | (refine ht _ ?_; clear ht hf KT KF) | (refine hf _ ?_; clear ht hf KT KF) | ((first | refine s_nil ?_ | refine t_nil ?_); refine hr _ ?_; clear hr kr))
                 | ((with_reducible refine n_seqK [0, 1, 2, 3, 4, 5, 6, 7, 8, 9, 10, 11, 12, 13, 14, 17, 22, 23, 30, 34, 35, 36, 37, 42, 43, 44, 54, 55, 56, 57, 68, 73, 74, 75, 76] [25, 27, 33, 50, 51, 62, 96, 97] ?_); simp only [mk_keep, keepL, List.mem_cons, List.not_mem_nil, Nat.reduceEqDiff, Nat.zero_ne_one, Nat.one_ne_zero, reduceCtorEq, or_false, false_or, or_true, true_or, or_self, eq_self, ↓reduceIte])
                 | (with_reducible first | refine s_cond fun KT KF ht hf => ?_ | refine s_skip ?_)
                 | ((with_reducible refine s_long ?_); simp only [List.cons_append, List.nil_append])
                 | (with_reducible first | refine s_exit ?_ | refine s_ret ?_ | refine e_seq ?_ | refine r_seq ?_ | refine n_block ?_ | refine e_block ?_ | refine r_block ?_ | refine e_loop ?_ | refine r_loop ?_ | refine e_round ?_ | refine r_round ?_ | refine s_round ?_ | refine f_block ?_ (by decide) | refine r_res ?_ | refine n_res ?_)
                 | (simp only [hgb, go_sem, Int.reduceToNat, ↓reduceIte, reduceCtorEq, Nat.reduceEqDiff, Nat.reduceAdd, Nat.reduceMul, Nat.reduceLT, Nat.reduceLeDiff, Nat.reduceBEq, Int.reduceBEq, Int.reduceBNe, String.reduceBEq, Int.reduceEq, Int.reduceLT, Int.reduceLE, Int.reduceGE, Int.reduceGT, d1, d2, e5, k1, k2, k3, k5, k6, hgt, gtrees_len, vrows_len, ints_get, ints_len, upi_get, upi_len, up_set1, divJ_len, sums_len, callE, resSV, AV.flat, CV.flat, TV.flat]; clear hgb)
                 | simp only [go_sem, Int.reduceToNat, ↓reduceIte, reduceCtorEq, Nat.reduceEqDiff, Nat.reduceAdd, Nat.reduceMul, Nat.reduceLT, Nat.reduceLeDiff, Nat.reduceBEq, Int.reduceBEq, Int.reduceBNe, String.reduceBEq, Int.reduceEq, Int.reduceLT, Int.reduceLE, Int.reduceGE, Int.reduceGT, d1, d2, e5, k1, k2, k3, k5, k6, hgt, gtrees_len, vrows_len, ints_get, ints_len, upi_get, upi_len, up_set1, divJ_len, sums_len, callE, resSV, AV.flat, CV.flat, TV.flat, hAll]
                 | refine Or.inl ⟨_, ⟨fun _ _ => rfl, k4⟩, ?_⟩
                 | refine ⟨_, ⟨fun _ _ => rfl, k4⟩, ?_⟩
                 | (refine ite_guard (fun hg => ?_) (fun hg => ?_) <;> (try simp only [Bool.not_eq_true, Bool.not_eq_false, Decidable.not_not] at hg) <;> (first | have hgb : (_ : Bool) = _ := hg | have hgb := ff hg | have hgb := tt hg))
                 | (refine ⟨fun hc => ht _ ?_, fun hc => hf _ ?_⟩ <;> clear ht hf KT KF)
                 | fail)
                refine n_loop (j + 1) [4, 5, 9, 10, 12, 54, 55, 56, 73, 74, 75] [62, 97] ⟨?_, hjt⟩ (by omega)
                simp only [mk_keep, keepL, List.mem_cons, List.not_mem_nil, Nat.reduceEqDiff, Nat.zero_ne_one, Nat.one_ne_zero, reduceCtorEq, or_false, false_or, or_true, true_or, or_self, eq_self, ↓reduceIte]
              · have k1 := nltI hjt
                obtain rfl : j = d := by omega
                have k5 := divJ_all (l := l) (c := c) (i := i) (d := j) (by rw [hcd]; exact hcl) hg0
                rw [k5]
                have hrl : (up (ints (stepRow l c i))).length = j := by rw [← k5, upi_len, divJ_len]
                repeat' (first
                 | (with_reducible first | refine s_seq ?_ | refine s_block ?_ | refine s_region fun kr hr => ?_)
                 | (with_reducible refine s_text tOk [25, 27, 33, 50, 51, 62, 96, 97, 1000, 1001, 1002, 1003] (by kernel_rfl) (by simp [HeapIn, namers, namerDst, namerOp, namedOp, namedFn, ownLoad, Blk.has, hasRows, hasL, CV.has, hasRows_up, hasM_up, hasRows_append, d1, d2, d3, k1, e3, e4, hn, ht, orows_has]; (try ((repeat' apply And.intro) <;> intros <;> omega))) fun kr hr => ?_)
                 | (with_reducible first | refine s_op fun K' hk => ?_ | refine t_op fun K' hk => ?_ | (refine hk _ ?_; clear hk K') | (refine ht _ ?_; clear ht hf KT KF) | (refine hf _ ?_; clear ht hf KT KF) | ((first | refine s_nil ?_ | refine t_nil ?_); refine hr _ ?_; clear hr kr))
                 | ((with_reducible refine n_seqK [0, 1, 2, 3, 4, 5, 6, 7, 8, 9, 10, 11, 12, 13, 14, 17, 22, 23, 30, 34, 35, 36, 37, 42, 43, 44, 54, 55, 56, 57, 68, 73, 74, 75, 76] [25, 27, 33, 50, 51, 62, 96, 97] ?_); simp only [mk_keep, keepL, List.mem_cons, List.not_mem_nil, Nat.reduceEqDiff, Nat.zero_ne_one, Nat.one_ne_zero, reduceCtorEq, or_false, false_or, or_true, true_or, or_self, eq_self, ↓reduceIte])
                 | (with_reducible first | refine s_cond fun KT KF ht hf => ?_ | refine s_skip ?_)
                 | ((with_reducible refine s_long ?_); simp only [List.cons_append, List.nil_append])
                 | (with_reducible first | refine s_exit ?_ | refine s_ret ?_ | refine e_seq ?_ | refine r_seq ?_ | refine n_block ?_ | refine e_block ?_ | refine r_block ?_ | refine e_loop ?_ | refine r_loop ?_ | refine e_round ?_ | refine r_round ?_ | refine s_round ?_ | refine f_block ?_ (by decide) | refine r_res ?_ | refine n_res ?_)
                 | (simp only [hgb, go_sem, Int.reduceToNat, ↓reduceIte, reduceCtorEq, Nat.reduceEqDiff, Nat.reduceAdd, Nat.reduceMul, Nat.reduceLT, Nat.reduceLeDiff, Nat.reduceBEq, Int.reduceBEq, Int.reduceBNe, String.reduceBEq, Int.reduceEq, Int.reduceLT, Int.reduceLE, Int.reduceGE, Int.reduceGT, d1, d2, d3, k1, e3, e4, hn, ht, orows_has]; clear hgb)
                 | simp only [go_sem, Int.reduceToNat, ↓reduceIte, reduceCtorEq, Nat.reduceEqDiff, Nat.reduceAdd, Nat.reduceMul, Nat.reduceLT, Nat.reduceLeDiff, Nat.reduceBEq, Int.reduceBEq, Int.reduceBNe, String.reduceBEq, Int.reduceEq, Int.reduceLT, Int.reduceLE, Int.reduceGE, Int.reduceGT, d1, d2, d3, k1, e3, e4, hn, ht, orows_has, hAll]
                 | (refine ite_guard (fun hg => ?_) (fun hg => ?_) <;> (try simp only [Bool.not_eq_true, Bool.not_eq_false, Decidable.not_not] at hg) <;> (first | have hgb : (_ : Bool) = _ := hg | have hgb := ff hg | have hgb := tt hg))
                 | (refine ⟨fun hc => ht _ ?_, fun hc => hf _ ?_⟩ <;> clear ht hf KT KF)
                 | fail)
                refine n_loopG _ (gho_foldL (k := 97) (i := i) (j := 0) (nm := 62) (sz := 1) (sz' := 1) (rows := orows (stepK l c i) ++ [[.mr 62 0 j]]) (rows' := up (ints (stepRow l c i))) (row := [.mr 62 0 j]) (by decide) (by simp [mk_heap, hL]) (by simp [mk_heap, hL]) (by rw [List.getElem?_append_right (by omega), hn]; simp) (by rw [hrl]; rfl)) ?_
                rw [mk_fold]
                refine n_loop (i + 1) [4, 5, 9, 54, 55, 56] [97] ⟨?_, hit⟩ (by omega)
                have hmod := modify_last (orows (stepK l c i)) (.mr 62 0 j) (lcell 1 (up (ints (stepRow l c i))))
                rw [hn] at hmod
                simp only [go_sem, Int.reduceToNat, ↓reduceIte, reduceCtorEq, Nat.reduceEqDiff, Nat.reduceAdd, Nat.reduceMul, Nat.reduceLT, Nat.reduceLeDiff, Nat.reduceBEq, Int.reduceBEq, Int.reduceBNe, String.reduceBEq, Int.reduceEq, Int.reduceLT, Int.reduceLE, Int.reduceGE, Int.reduceGT, mk_keep, keepL, List.mem_cons, List.not_mem_nil, Nat.reduceEqDiff, Nat.zero_ne_one, Nat.one_ne_zero, reduceCtorEq, or_false, false_or, or_true, true_or, or_self, eq_self, ↓reduceIte, hmod, stepK_succ, orows_snoc]
        · have d1 := nltI hit
          obtain rfl : i = c.length := by omega
          rw [show stepK l c c.length = stepF l c from rfl]
          repeat' (first
           | (with_reducible first | refine s_seq ?_ | refine s_block ?_ | refine s_region fun kr hr => ?_)
           | (with_reducible refine s_text tOk [25, 27, 33, 50, 51, 62, 96, 97, 1000, 1001, 1002, 1003] (by kernel_rfl) (by simp [HeapIn, namers, namerDst, namerOp, namedOp, namedFn, ownLoad, Blk.has, hasRows, hasL, CV.has, hasRows_up, hasM_up, hasRows_append, d1, orows_has]; (try ((repeat' apply And.intro) <;> intros <;> omega))) fun kr hr => ?_)
           | (with_reducible first | refine s_op fun K' hk => ?_ | refine t_op fun K' hk => ?_ | (refine hk _ ?_; clear hk K') | (refine ht _ ?_; clear ht hf KT KF) | (refine hf _ ?_; clear ht hf KT KF) | ((first | refine s_nil ?_ | refine t_nil ?_); refine hr _ ?_; clear hr kr))
           | ((with_reducible refine n_seqK [0, 1, 2, 3, 4, 5, 6, 7, 8, 9, 10, 11, 12, 13, 14, 17, 22, 23, 30, 34, 35, 36, 37, 42, 43, 44, 54, 55, 56, 57, 68, 73, 74, 75, 76] [25, 27, 33, 50, 51, 62, 96, 97] ?_); simp only [mk_keep, keepL, List.mem_cons, List.not_mem_nil, Nat.reduceEqDiff, Nat.zero_ne_one, Nat.one_ne_zero, reduceCtorEq, or_false, false_or, or_true, true_or, or_self, eq_self, ↓reduceIte])
           | (with_reducible first | refine s_cond fun KT KF ht hf => ?_ | refine s_skip ?_)
           | ((with_reducible refine s_long ?_); simp only [List.cons_append, List.nil_append])
           | (with_reducible first | refine s_exit ?_ | refine s_ret ?_ | refine e_seq ?_ | refine r_seq ?_ | refine n_block ?_ | refine e_block ?_ | refine r_block ?_ | refine e_loop ?_ | refine r_loop ?_ | refine e_round ?_ | refine r_round ?_ | refine s_round ?_ | refine f_block ?_ (by decide) | refine r_res ?_ | refine n_res ?_)
           | (simp only [hgb, go_sem, Int.reduceToNat, ↓reduceIte, reduceCtorEq, Nat.reduceEqDiff, Nat.reduceAdd, Nat.reduceMul, Nat.reduceLT, Nat.reduceLeDiff, Nat.reduceBEq, Int.reduceBEq, Int.reduceBNe, String.reduceBEq, Int.reduceEq, Int.reduceLT, Int.reduceLE, Int.reduceGE, Int.reduceGT, d1, orows_has]; clear hgb)
           | simp only [go_sem, Int.reduceToNat, ↓reduceIte, reduceCtorEq, Nat.reduceEqDiff, Nat.reduceAdd, Nat.reduceMul, Nat.reduceLT, Nat.reduceLeDiff, Nat.reduceBEq, Int.reduceBEq, Int.reduceBNe, String.reduceBEq, Int.reduceEq, Int.reduceLT, Int.reduceLE, Int.reduceGE, Int.reduceGT, d1, orows_has, hAll]
           | (refine ite_guard (fun hg => ?_) (fun hg => ?_) <;> (try simp only [Bool.not_eq_true, Bool.not_eq_false, Decidable.not_not] at hg) <;> (first | have hgb : (_ : Bool) = _ := hg | have hgb := ff hg | have hgb := tt hg))
           | (refine ⟨fun hc => ht _ ?_, fun hc => hf _ ?_⟩ <;> clear ht hf KT KF)
           | fail)
theorem stepF_len (l c : List (List Int)) : (stepF l c).length = c.length := by simp [stepF]
/-- What a step tells. -/
def stepOf (l c : List (List Int)) : List (List Int) := if okStep l c = true then stepF l c else []
theorem step_spec (l c : List (List Int)) (hl : SizedAll l) (hc : SizedAll c) (hb : l.length + c.length ≤ 5864062014634) : Spec Try.prog 14 [.v (.t (vecs l)), .v (.t (vecs c))] [] [.v (.t (vecs (stepOf l c)))] [] := by
  unfold stepOf
  by_cases hok : okStep l c = true
  · rw [if_pos hok]
    have h := step_own l c hl hc hb hok
    have e : (orows (stepF l c)).length = c.length := by rw [orows_length, stepF_len]
    rw [← e] at h
    exact h.tree (orows_view _)
  · rw [if_neg hok]
    simp only [Bool.not_eq_true] at hok
    exact step_nil l c hl hc hb hok
end Go.Proofs.Ytlnilonlaedafaa.Fx
