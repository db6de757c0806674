/- The document's fusion by scores. -/
import Derived.Test.YtgmjgognpabmdaaFxIds
import Derived.Test.YtgmjgognpabmdaaFxWeighAll
import Derived.Test.YtgmjgognpabmdaaFxRef07b
-- ren_map
namespace Go.Proofs.Ytgmjgognpabmdaa.Fx
open Go Go.RowKit
set_option maxRecDepth 100000
set_option linter.unusedSimpArgs false
set_option linter.unusedVariables false
/-- A score weighed and added: the sum, and whether it is over. -/
def wst (wt mt n s : Int) : Int × Bool := ((addF n (wNum mt (mulOf wt s).1)).1, wOver mt (mulOf wt s).1 false || !decide ((mulOf wt s).2 = 0) || !(addF n (wNum mt (mulOf wt s).1)).2)
/-- An id's sum over so many rankings. -/
def cB (ls : List (List Ht)) (ms ws : List Int) (i : Int) : Nat → Int × Bool
  | 0 => (0, false)
  | k + 1 => match (ls.getD k []).find? (fun z => z.1 == i) with
    | some z => ((wst (ws.getD k 0) (ms.getD k 0) (cB ls ms ws i k).1 z.2).1, (cB ls ms ws i k).2 || (wst (ws.getD k 0) (ms.getD k 0) (cB ls ms ws i k).1 z.2).2)
    | none => cB ls ms ws i k
theorem cB_mono (ls : List (List Ht)) (ms ws : List Int) (i : Int) (k : Nat) (h : (cB ls ms ws i k).2 = true) : ∀ j, (cB ls ms ws i (k + j)).2 = true
  | 0 => h
  | j + 1 => by
    have ih := cB_mono ls ms ws i k h j
    rw [← Nat.add_assoc, cB]
    split
    · rw [ih]; rfl
    · exact ih
theorem wrap_in (a : Int) : In64 (IntKind.wrap .i64 a) := (wrap_rng a).1
theorem addF_in (a b : Int) : In64 (addF a b).1 := wrap_in _
theorem wNum_in (mt n : Int) (h : In64 n) : In64 (wNum mt n) := by unfold wNum; split; exact wrap_in _; exact h
theorem cB_in (ls : List (List Ht)) (ms ws : List Int) (i : Int) : ∀ k, In64 (cB ls ms ws i k).1
  | 0 => by simp [cB, In64]
  | k + 1 => by
    rw [cB]
    split
    · exact addF_in _ _
    · exact cB_in ls ms ws i k
theorem cB_none {ls : List (List Ht)} {ms ws : List Int} {i : Int} {k : Nat} (hk : k < ls.length) (h : ls[k].findIdx? (fun z => z.1 == i) = none) : cB ls ms ws i (k + 1) = cB ls ms ws i k := by
  rw [cB, List.getD_eq_getElem?_getD, get_of_lt hk, Option.getD_some]
  rw [List.findIdx?_eq_none_iff] at h
  rw [List.find?_eq_none.2 fun z hz => by rw [h z hz]; simp]
theorem find_at {α : Type} {p : α → Bool} : ∀ {l : List α} {j : Nat}, l.findIdx? p = some j → ∃ h : j < l.length, l.find? p = some l[j]
  | [], j, h => by simp at h
  | x :: l, j, h => by
    rw [List.findIdx?_cons] at h
    cases hp : p x with
    | true =>
      rw [hp] at h
      simp only [if_true, Option.some.injEq] at h
      subst h
      exact ⟨by simp, by rw [List.find?_cons, hp]; rfl⟩
    | false =>
      rw [hp] at h
      simp only [Bool.false_eq_true, if_false, Option.map_eq_some_iff] at h
      obtain ⟨q, hq, rfl⟩ := h
      obtain ⟨h1, h2⟩ := find_at hq
      exact ⟨by simpa using h1, by rw [List.find?_cons, hp]; simpa using h2⟩
theorem cB_some {ls : List (List Ht)} {ms ws : List Int} {i : Int} {k j : Nat} (hk : k < ls.length) (hm : k < ms.length) (hw : k < ws.length) (h : ls[k].findIdx? (fun z => z.1 == i) = some j) :
    ∃ hj : j < ls[k].length, cB ls ms ws i (k + 1) = ((wst ws[k] ms[k] (cB ls ms ws i k).1 ls[k][j].2).1, (cB ls ms ws i k).2 || (wst ws[k] ms[k] (cB ls ms ws i k).1 ls[k][j].2).2) := by
  obtain ⟨hj, hf⟩ := find_at h
  refine ⟨hj, ?_⟩
  rw [cB, List.getD_eq_getElem?_getD, get_of_lt hk, Option.getD_some, hf]
  simp only [List.getD_eq_getElem?_getD, get_of_lt hm, get_of_lt hw, Option.getD_some]
/-- What the document's fusion by scores answers, where the lists are alike. -/
def rwR (ls : List (List Ht)) (ms ws : List Int) : List Ht × Int :=
  if (riseS (idsL ls)).any (fun i => (cB ls ms ws i ls.length).2) = true then ([], 10) else (srt 2 ((riseS (idsL ls)).map fun i => (i, (cB ls ms ws i ls.length).1)), 0)
theorem rweigh_len (ls : List (List Ht)) (ms ws : List Int) (h : ¬ (ms.length = ls.length ∧ ws.length = ls.length)) : Spec Try.prog 33 [.v (.t (.sl 1 (lists ls))), .v (.t (.sl 1 (ints ms))), .v (.t (.sl 1 (ints ws)))] [] [.v (.t (.sl 2 [])), .v (.t (.int .i64 250))] [] := by
  by_cases h1 : ms.length = ls.length
  · have f1 := tt (show (ms.length : Int) = ls.length by omega)
    have f2 := ff (show ¬ (ws.length : Int) = ls.length by omega)
    refine spec_by Try.func33 rfl mixed tOk evOk (n := 130) rfl (by simp) (by simp) ?_
    rw [initSt_mk, show Try.f33.results.toList = [.tmp 6, .tmp 7] from rfl]
    simp only [initL, AV.sv, List.map_cons, List.map_nil, Nat.reduceAdd, Nat.zero_add]
    repeat' (first
     | (with_reducible first | refine s_seq ?_ | refine s_block ?_ | refine s_region fun kr hr => ?_)
     | (with_reducible refine s_text tOk [126, 127, 1000, 1001, 1002, 1003] (by kernel_rfl) (by simp [HeapIn, namers, namerDst, namerOp, namedOp, namedFn, ownLoad, Blk.has, hasRows, hasL, CV.has, hasRows_up, hasM_up, hasRows_append, lists_len, ints_len, f1, f2]; (try ((repeat' apply And.intro) <;> intros <;> omega))) fun kr hr => ?_)
     | (with_reducible first | refine s_op fun K' hk => ?_ | refine t_op fun K' hk => ?_ | (refine hk _ ?_; clear hk K') | (refine ht _ ?_; clear ht hf KT KF) | (refine hf _ ?_; clear ht hf KT KF) | ((first | refine s_nil ?_ | refine t_nil ?_); refine hr _ ?_; clear hr kr))
     | ((with_reducible refine n_seqK [0, 1, 2, 3, 4, 5, 6, 7, 8, 9, 10, 11, 12, 13, 14, 15, 16, 17, 18, 23, 25, 30, 34, 44, 48, 51, 52, 54, 58, 59, 60, 73, 102, 107, 117] [126, 127] ?_); simp only [mk_keep, keepL, List.mem_cons, List.not_mem_nil, Nat.reduceEqDiff, Nat.zero_ne_one, Nat.one_ne_zero, reduceCtorEq, or_false, false_or, or_true, true_or, or_self, eq_self, ↓reduceIte])
     | (with_reducible first | refine s_cond fun KT KF ht hf => ?_ | refine s_skip ?_)
     | ((with_reducible refine s_long ?_); simp only [List.cons_append, List.nil_append])
     | (with_reducible first | refine s_exit ?_ | refine s_ret ?_ | refine e_seq ?_ | refine r_seq ?_ | refine n_block ?_ | refine e_block ?_ | refine r_block ?_ | refine e_loop ?_ | refine r_loop ?_ | refine e_round ?_ | refine r_round ?_ | refine s_round ?_ | refine f_block ?_ (by decide) | refine r_res ?_ | refine n_res ?_)
     | (simp only [hgb, go_sem, Int.reduceToNat, ↓reduceIte, reduceCtorEq, Nat.reduceEqDiff, Nat.reduceAdd, Nat.reduceMul, Nat.reduceLT, Nat.reduceLeDiff, Nat.reduceBEq, Int.reduceBEq, Int.reduceBNe, String.reduceBEq, Int.reduceEq, Int.reduceLT, Int.reduceLE, Int.reduceGE, Int.reduceGT, lists_len, ints_len, f1, f2]; clear hgb)
     | simp only [go_sem, Int.reduceToNat, ↓reduceIte, reduceCtorEq, Nat.reduceEqDiff, Nat.reduceAdd, Nat.reduceMul, Nat.reduceLT, Nat.reduceLeDiff, Nat.reduceBEq, Int.reduceBEq, Int.reduceBNe, String.reduceBEq, Int.reduceEq, Int.reduceLT, Int.reduceLE, Int.reduceGE, Int.reduceGT, lists_len, ints_len, f1, f2, hAll]
     | (refine ite_guard (fun hg => ?_) (fun hg => ?_) <;> (try simp only [Bool.not_eq_true, Bool.not_eq_false, Decidable.not_not] at hg) <;> (first | have hgb : (_ : Bool) = _ := hg | have hgb := ff hg | have hgb := tt hg))
     | (refine ⟨fun hc => ht _ ?_, fun hc => hf _ ?_⟩ <;> clear ht hf KT KF)
     | fail)
  · have f1 := ff (show ¬ (ms.length : Int) = ls.length by omega)
    refine spec_by Try.func33 rfl mixed tOk evOk (n := 130) rfl (by simp) (by simp) ?_
    rw [initSt_mk, show Try.f33.results.toList = [.tmp 6, .tmp 7] from rfl]
    simp only [initL, AV.sv, List.map_cons, List.map_nil, Nat.reduceAdd, Nat.zero_add]
    repeat' (first
     | (with_reducible first | refine s_seq ?_ | refine s_block ?_ | refine s_region fun kr hr => ?_)
     | (with_reducible refine s_text tOk [126, 127, 1000, 1001, 1002, 1003] (by kernel_rfl) (by simp [HeapIn, namers, namerDst, namerOp, namedOp, namedFn, ownLoad, Blk.has, hasRows, hasL, CV.has, hasRows_up, hasM_up, hasRows_append, lists_len, ints_len, f1]; (try ((repeat' apply And.intro) <;> intros <;> omega))) fun kr hr => ?_)
     | (with_reducible first | refine s_op fun K' hk => ?_ | refine t_op fun K' hk => ?_ | (refine hk _ ?_; clear hk K') | (refine ht _ ?_; clear ht hf KT KF) | (refine hf _ ?_; clear ht hf KT KF) | ((first | refine s_nil ?_ | refine t_nil ?_); refine hr _ ?_; clear hr kr))
     | ((with_reducible refine n_seqK [0, 1, 2, 3, 4, 5, 6, 7, 8, 9, 10, 11, 12, 13, 14, 15, 16, 17, 18, 23, 25, 30, 34, 44, 48, 51, 52, 54, 58, 59, 60, 73, 102, 107, 117] [126, 127] ?_); simp only [mk_keep, keepL, List.mem_cons, List.not_mem_nil, Nat.reduceEqDiff, Nat.zero_ne_one, Nat.one_ne_zero, reduceCtorEq, or_false, false_or, or_true, true_or, or_self, eq_self, ↓reduceIte])
     | (with_reducible first | refine s_cond fun KT KF ht hf => ?_ | refine s_skip ?_)
     | ((with_reducible refine s_long ?_); simp only [List.cons_append, List.nil_append])
     | (with_reducible first | refine s_exit ?_ | refine s_ret ?_ | refine e_seq ?_ | refine r_seq ?_ | refine n_block ?_ | refine e_block ?_ | refine r_block ?_ | refine e_loop ?_ | refine r_loop ?_ | refine e_round ?_ | refine r_round ?_ | refine s_round ?_ | refine f_block ?_ (by decide) | refine r_res ?_ | refine n_res ?_)
     | (simp only [hgb, go_sem, Int.reduceToNat, ↓reduceIte, reduceCtorEq, Nat.reduceEqDiff, Nat.reduceAdd, Nat.reduceMul, Nat.reduceLT, Nat.reduceLeDiff, Nat.reduceBEq, Int.reduceBEq, Int.reduceBNe, String.reduceBEq, Int.reduceEq, Int.reduceLT, Int.reduceLE, Int.reduceGE, Int.reduceGT, lists_len, ints_len, f1]; clear hgb)
     | simp only [go_sem, Int.reduceToNat, ↓reduceIte, reduceCtorEq, Nat.reduceEqDiff, Nat.reduceAdd, Nat.reduceMul, Nat.reduceLT, Nat.reduceLeDiff, Nat.reduceBEq, Int.reduceBEq, Int.reduceBNe, String.reduceBEq, Int.reduceEq, Int.reduceLT, Int.reduceLE, Int.reduceGE, Int.reduceGT, lists_len, ints_len, f1, hAll]
     | (refine ite_guard (fun hg => ?_) (fun hg => ?_) <;> (try simp only [Bool.not_eq_true, Bool.not_eq_false, Decidable.not_not] at hg) <;> (first | have hgb : (_ : Bool) = _ := hg | have hgb := ff hg | have hgb := tt hg))
     | (refine ⟨fun hc => ht _ ?_, fun hc => hf _ ?_⟩ <;> clear ht hf KT KF)
     | fail)
theorem rweigh_met (ls : List (List Ht)) (ms ws : List Int) (h1 : ms.length = ls.length) (h2 : ws.length = ls.length) (h3 : ms.any badM = true) (hn : ls.length ≤ 4611686018427387904) : Spec Try.prog 33 [.v (.t (.sl 1 (lists ls))), .v (.t (.sl 1 (ints ms))), .v (.t (.sl 1 (ints ws)))] [] [.v (.t (.sl 2 [])), .v (.t (.int .i64 250))] [] := by
  have f1 := tt (show (ms.length : Int) = ls.length by omega)
  have f2 := tt (show (ws.length : Int) = ls.length by omega)
  refine spec_by Try.func33 rfl mixed tOk evOk (n := 130) rfl (by simp) (by simp) ?_
  rw [initSt_mk, show Try.f33.results.toList = [.tmp 6, .tmp 7] from rfl]
  simp only [initL, AV.sv, List.map_cons, List.map_nil, Nat.reduceAdd, Nat.zero_add]
  repeat' (first
   | (with_reducible first | refine s_seq ?_ | refine s_block ?_ | refine s_region fun kr hr => ?_)
   | (with_reducible refine s_text tOk [126, 127, 1000, 1001, 1002, 1003] (by kernel_rfl) (by simp [HeapIn, namers, namerDst, namerOp, namedOp, namedFn, ownLoad, Blk.has, hasRows, hasL, CV.has, hasRows_up, hasM_up, hasRows_append, lists_len, ints_len, f1, f2]; (try ((repeat' apply And.intro) <;> intros <;> omega))) fun kr hr => ?_)
   | (with_reducible first | refine s_op fun K' hk => ?_ | refine t_op fun K' hk => ?_ | (refine hk _ ?_; clear hk K') | (refine ht _ ?_; clear ht hf KT KF) | (refine hf _ ?_; clear ht hf KT KF) | ((first | refine s_nil ?_ | refine t_nil ?_); refine hr _ ?_; clear hr kr))
   | ((with_reducible refine n_seqK [0, 1, 2, 3, 4, 5, 6, 7, 8, 9, 10, 11, 12, 13, 14, 15, 16, 17, 18, 23, 25, 30, 34, 44, 48, 51, 52, 54, 58, 59, 60, 73, 102, 107, 117] [126, 127] ?_); simp only [mk_keep, keepL, List.mem_cons, List.not_mem_nil, Nat.reduceEqDiff, Nat.zero_ne_one, Nat.one_ne_zero, reduceCtorEq, or_false, false_or, or_true, true_or, or_self, eq_self, ↓reduceIte])
   | (with_reducible first | refine s_cond fun KT KF ht hf => ?_ | refine s_skip ?_)
   | ((with_reducible refine s_long ?_); simp only [List.cons_append, List.nil_append])
   | (with_reducible first | refine s_exit ?_ | refine s_ret ?_ | refine e_seq ?_ | refine r_seq ?_ | refine n_block ?_ | refine e_block ?_ | refine r_block ?_ | refine e_loop ?_ | refine r_loop ?_ | refine e_round ?_ | refine r_round ?_ | refine s_round ?_ | refine f_block ?_ (by decide) | refine r_res ?_ | refine n_res ?_)
   | (simp only [hgb, go_sem, Int.reduceToNat, ↓reduceIte, reduceCtorEq, Nat.reduceEqDiff, Nat.reduceAdd, Nat.reduceMul, Nat.reduceLT, Nat.reduceLeDiff, Nat.reduceBEq, Int.reduceBEq, Int.reduceBNe, String.reduceBEq, Int.reduceEq, Int.reduceLT, Int.reduceLE, Int.reduceGE, Int.reduceGT, lists_len, ints_len, f1, f2]; clear hgb)
   | simp only [go_sem, Int.reduceToNat, ↓reduceIte, reduceCtorEq, Nat.reduceEqDiff, Nat.reduceAdd, Nat.reduceMul, Nat.reduceLT, Nat.reduceLeDiff, Nat.reduceBEq, Int.reduceBEq, Int.reduceBNe, String.reduceBEq, Int.reduceEq, Int.reduceLT, Int.reduceLE, Int.reduceGE, Int.reduceGT, lists_len, ints_len, f1, f2, hAll]
   | (refine ite_guard (fun hg => ?_) (fun hg => ?_) <;> (try simp only [Bool.not_eq_true, Bool.not_eq_false, Decidable.not_not] at hg) <;> (first | have hgb : (_ : Bool) = _ := hg | have hgb := ff hg | have hgb := tt hg))
   | (refine ⟨fun hc => ht _ ?_, fun hc => hf _ ?_⟩ <;> clear ht hf KT KF)
   | fail)
  refine w_loop [0, 1, 2, 8] [] (σ := Nat) (fun k st => st = mk [(0, V (.sl 1 (lists ls))), (1, V (.sl 1 (ints ms))), (2, V (.sl 1 (ints ws))), (8, I k)] [] ∧ k ≤ ms.length ∧ ∀ j (h : j < ms.length), j < k → badM ms[j] = false) (fun k => ms.length - k) 0 ?_ ?_
  · refine ⟨?_, Nat.zero_le _, fun j _ h => by omega⟩
    simp only [go_sem, Int.reduceToNat, ↓reduceIte, reduceCtorEq, Nat.reduceEqDiff, Nat.reduceAdd, Nat.reduceMul, Nat.reduceLT, Nat.reduceLeDiff, Nat.reduceBEq, Int.reduceBEq, Int.reduceBNe, String.reduceBEq, Int.reduceEq, Int.reduceLT, Int.reduceLE, Int.reduceGE, Int.reduceGT, mk_keep, keepL, List.mem_cons, List.not_mem_nil, Nat.reduceEqDiff, Nat.zero_ne_one, Nat.one_ne_zero, reduceCtorEq, or_false, false_or, or_true, true_or, or_self, eq_self, ↓reduceIte]
    try rfl
  rintro k st' ⟨rfl, hk9, hall⟩
  by_cases hlt : k < ms.length
  · have g1 := ltI hlt
    have g2 : (ints ms)[k]? = some [.int .i64 ms[k]] := by rw [ints_get, get_of_lt hlt]; rfl
    have g3 := wUp hlt (by omega)
    cases hb : badM ms[k] with
    | true =>
      by_cases hb1 : ms[k] < 1
      · have g4 := tt hb1
        repeat' (first
         | (with_reducible first | refine s_seq ?_ | refine s_block ?_ | refine s_region fun kr hr => ?_)
         | (with_reducible refine s_text tOk [126, 127, 1000, 1001, 1002, 1003] (by kernel_rfl) (by simp [HeapIn, namers, namerDst, namerOp, namedOp, namedFn, ownLoad, Blk.has, hasRows, hasL, CV.has, hasRows_up, hasM_up, hasRows_append, ints_len, g1, g2, g3, g4]; (try ((repeat' apply And.intro) <;> intros <;> omega))) fun kr hr => ?_)
         | (with_reducible first | refine s_op fun K' hk => ?_ | refine t_op fun K' hk => ?_ | (refine hk _ ?_; clear hk K') | (refine ht _ ?_; clear ht hf KT KF) | (refine hf _ ?_; clear ht hf KT KF) | ((first | refine s_nil ?_ | refine t_nil ?_); refine hr _ ?_; clear hr kr))
         | ((with_reducible refine n_seqK [0, 1, 2, 3, 4, 5, 6, 7, 8, 9, 10, 11, 12, 13, 14, 15, 16, 17, 18, 23, 25, 30, 34, 44, 48, 51, 52, 54, 58, 59, 60, 73, 102, 107, 117] [126, 127] ?_); simp only [mk_keep, keepL, List.mem_cons, List.not_mem_nil, Nat.reduceEqDiff, Nat.zero_ne_one, Nat.one_ne_zero, reduceCtorEq, or_false, false_or, or_true, true_or, or_self, eq_self, ↓reduceIte])
         | (with_reducible first | refine s_cond fun KT KF ht hf => ?_ | refine s_skip ?_)
         | ((with_reducible refine s_long ?_); simp only [List.cons_append, List.nil_append])
         | (with_reducible first | refine s_exit ?_ | refine s_ret ?_ | refine e_seq ?_ | refine r_seq ?_ | refine n_block ?_ | refine e_block ?_ | refine r_block ?_ | refine e_loop ?_ | refine r_loop ?_ | refine e_round ?_ | refine r_round ?_ | refine s_round ?_ | refine f_block ?_ (by decide) | refine r_res ?_ | refine n_res ?_)
         | (simp only [hgb, go_sem, Int.reduceToNat, ↓reduceIte, reduceCtorEq, Nat.reduceEqDiff, Nat.reduceAdd, Nat.reduceMul, Nat.reduceLT, Nat.reduceLeDiff, Nat.reduceBEq, Int.reduceBEq, Int.reduceBNe, String.reduceBEq, Int.reduceEq, Int.reduceLT, Int.reduceLE, Int.reduceGE, Int.reduceGT, ints_len, g1, g2, g3, g4]; clear hgb)
         | simp only [go_sem, Int.reduceToNat, ↓reduceIte, reduceCtorEq, Nat.reduceEqDiff, Nat.reduceAdd, Nat.reduceMul, Nat.reduceLT, Nat.reduceLeDiff, Nat.reduceBEq, Int.reduceBEq, Int.reduceBNe, String.reduceBEq, Int.reduceEq, Int.reduceLT, Int.reduceLE, Int.reduceGE, Int.reduceGT, ints_len, g1, g2, g3, g4, hAll]
         | (refine ite_guard (fun hg => ?_) (fun hg => ?_) <;> (try simp only [Bool.not_eq_true, Bool.not_eq_false, Decidable.not_not] at hg) <;> (first | have hgb : (_ : Bool) = _ := hg | have hgb := ff hg | have hgb := tt hg))
         | (refine ⟨fun hc => ht _ ?_, fun hc => hf _ ?_⟩ <;> clear ht hf KT KF)
         | fail)
      · have g4 := ff hb1
        have g5 := tt (show ms[k] > 3 by simp [badM] at hb; omega)
        repeat' (first
         | (with_reducible first | refine s_seq ?_ | refine s_block ?_ | refine s_region fun kr hr => ?_)
         | (with_reducible refine s_text tOk [126, 127, 1000, 1001, 1002, 1003] (by kernel_rfl) (by simp [HeapIn, namers, namerDst, namerOp, namedOp, namedFn, ownLoad, Blk.has, hasRows, hasL, CV.has, hasRows_up, hasM_up, hasRows_append, ints_len, g1, g2, g3, g4, g5]; (try ((repeat' apply And.intro) <;> intros <;> omega))) fun kr hr => ?_)
         | (with_reducible first | refine s_op fun K' hk => ?_ | refine t_op fun K' hk => ?_ | (refine hk _ ?_; clear hk K') | (refine ht _ ?_; clear ht hf KT KF) | (refine hf _ ?_; clear ht hf KT KF) | ((first | refine s_nil ?_ | refine t_nil ?_); refine hr _ ?_; clear hr kr))
         | ((with_reducible refine n_seqK [0, 1, 2, 3, 4, 5, 6, 7, 8, 9, 10, 11, 12, 13, 14, 15, 16, 17, 18, 23, 25, 30, 34, 44, 48, 51, 52, 54, 58, 59, 60, 73, 102, 107, 117] [126, 127] ?_); simp only [mk_keep, keepL, List.mem_cons, List.not_mem_nil, Nat.reduceEqDiff, Nat.zero_ne_one, Nat.one_ne_zero, reduceCtorEq, or_false, false_or, or_true, true_or, or_self, eq_self, ↓reduceIte])
         | (with_reducible first | refine s_cond fun KT KF ht hf => ?_ | refine s_skip ?_)
         | ((with_reducible refine s_long ?_); simp only [List.cons_append, List.nil_append])
         | (with_reducible first | refine s_exit ?_ | refine s_ret ?_ | refine e_seq ?_ | refine r_seq ?_ | refine n_block ?_ | refine e_block ?_ | refine r_block ?_ | refine e_loop ?_ | refine r_loop ?_ | refine e_round ?_ | refine r_round ?_ | refine s_round ?_ | refine f_block ?_ (by decide) | refine r_res ?_ | refine n_res ?_)
         | (simp only [hgb, go_sem, Int.reduceToNat, ↓reduceIte, reduceCtorEq, Nat.reduceEqDiff, Nat.reduceAdd, Nat.reduceMul, Nat.reduceLT, Nat.reduceLeDiff, Nat.reduceBEq, Int.reduceBEq, Int.reduceBNe, String.reduceBEq, Int.reduceEq, Int.reduceLT, Int.reduceLE, Int.reduceGE, Int.reduceGT, ints_len, g1, g2, g3, g4, g5]; clear hgb)
         | simp only [go_sem, Int.reduceToNat, ↓reduceIte, reduceCtorEq, Nat.reduceEqDiff, Nat.reduceAdd, Nat.reduceMul, Nat.reduceLT, Nat.reduceLeDiff, Nat.reduceBEq, Int.reduceBEq, Int.reduceBNe, String.reduceBEq, Int.reduceEq, Int.reduceLT, Int.reduceLE, Int.reduceGE, Int.reduceGT, ints_len, g1, g2, g3, g4, g5, hAll]
         | (refine ite_guard (fun hg => ?_) (fun hg => ?_) <;> (try simp only [Bool.not_eq_true, Bool.not_eq_false, Decidable.not_not] at hg) <;> (first | have hgb : (_ : Bool) = _ := hg | have hgb := ff hg | have hgb := tt hg))
         | (refine ⟨fun hc => ht _ ?_, fun hc => hf _ ?_⟩ <;> clear ht hf KT KF)
         | fail)
    | false =>
      have g4 := ff (show ¬ ms[k] < 1 by simp [badM] at hb; omega)
      have g5 := ff (show ¬ ms[k] > 3 by simp [badM] at hb; omega)
      repeat' (first
       | (with_reducible first | refine s_seq ?_ | refine s_block ?_ | refine s_region fun kr hr => ?_)
       | (with_reducible refine s_text tOk [126, 127, 1000, 1001, 1002, 1003] (by kernel_rfl) (by simp [HeapIn, namers, namerDst, namerOp, namedOp, namedFn, ownLoad, Blk.has, hasRows, hasL, CV.has, hasRows_up, hasM_up, hasRows_append, ints_len, g1, g2, g3, g4, g5]; (try ((repeat' apply And.intro) <;> intros <;> omega))) fun kr hr => ?_)
       | (with_reducible first | refine s_op fun K' hk => ?_ | refine t_op fun K' hk => ?_ | (refine hk _ ?_; clear hk K') | (refine ht _ ?_; clear ht hf KT KF) | (refine hf _ ?_; clear ht hf KT KF) | ((first | refine s_nil ?_ | refine t_nil ?_); refine hr _ ?_; clear hr kr))
       | ((with_reducible refine n_seqK [0, 1, 2, 3, 4, 5, 6, 7, 8, 9, 10, 11, 12, 13, 14, 15, 16, 17, 18, 23, 25, 30, 34, 44, 48, 51, 52, 54, 58, 59, 60, 73, 102, 107, 117] [126, 127] ?_); simp only [mk_keep, keepL, List.mem_cons, List.not_mem_nil, Nat.reduceEqDiff, Nat.zero_ne_one, Nat.one_ne_zero, reduceCtorEq, or_false, false_or, or_true, true_or, or_self, eq_self, ↓reduceIte])
       | (with_reducible first | refine s_cond fun KT KF ht hf => ?_ | refine s_skip ?_)
       | ((with_reducible refine s_long ?_); simp only [List.cons_append, List.nil_append])
       | (with_reducible first | refine s_exit ?_ | refine s_ret ?_ | refine e_seq ?_ | refine r_seq ?_ | refine n_block ?_ | refine e_block ?_ | refine r_block ?_ | refine e_loop ?_ | refine r_loop ?_ | refine e_round ?_ | refine r_round ?_ | refine s_round ?_ | refine f_block ?_ (by decide) | refine r_res ?_ | refine n_res ?_)
       | (simp only [hgb, go_sem, Int.reduceToNat, ↓reduceIte, reduceCtorEq, Nat.reduceEqDiff, Nat.reduceAdd, Nat.reduceMul, Nat.reduceLT, Nat.reduceLeDiff, Nat.reduceBEq, Int.reduceBEq, Int.reduceBNe, String.reduceBEq, Int.reduceEq, Int.reduceLT, Int.reduceLE, Int.reduceGE, Int.reduceGT, ints_len, g1, g2, g3, g4, g5]; clear hgb)
       | simp only [go_sem, Int.reduceToNat, ↓reduceIte, reduceCtorEq, Nat.reduceEqDiff, Nat.reduceAdd, Nat.reduceMul, Nat.reduceLT, Nat.reduceLeDiff, Nat.reduceBEq, Int.reduceBEq, Int.reduceBNe, String.reduceBEq, Int.reduceEq, Int.reduceLT, Int.reduceLE, Int.reduceGE, Int.reduceGT, ints_len, g1, g2, g3, g4, g5, hAll]
       | (refine ite_guard (fun hg => ?_) (fun hg => ?_) <;> (try simp only [Bool.not_eq_true, Bool.not_eq_false, Decidable.not_not] at hg) <;> (first | have hgb : (_ : Bool) = _ := hg | have hgb := ff hg | have hgb := tt hg))
       | (refine ⟨fun hc => ht _ ?_, fun hc => hf _ ?_⟩ <;> clear ht hf KT KF)
       | fail)
      refine n_loop (k + 1) [0, 1, 2, 8] [] ⟨?_, hlt, fun j h hj => ?_⟩ (by omega)
      · simp only [go_sem, Int.reduceToNat, ↓reduceIte, reduceCtorEq, Nat.reduceEqDiff, Nat.reduceAdd, Nat.reduceMul, Nat.reduceLT, Nat.reduceLeDiff, Nat.reduceBEq, Int.reduceBEq, Int.reduceBNe, String.reduceBEq, Int.reduceEq, Int.reduceLT, Int.reduceLE, Int.reduceGE, Int.reduceGT, mk_keep, keepL, List.mem_cons, List.not_mem_nil, Nat.reduceEqDiff, Nat.zero_ne_one, Nat.one_ne_zero, reduceCtorEq, or_false, false_or, or_true, true_or, or_self, eq_self, ↓reduceIte]
      · rcases Nat.lt_or_eq_of_le (Nat.lt_succ_iff.1 hj) with h1 | rfl
        · exact hall j h h1
        · exact hb
  · exfalso
    obtain ⟨x, hx, hb⟩ := List.any_eq_true.1 h3
    obtain ⟨j, hj, rfl⟩ := List.mem_iff_getElem.1 hx
    rw [hall j hj (by omega)] at hb
    cases hb
set_option maxHeartbeats 8000000 in
theorem rweigh_ok (ls : List (List Ht)) (ms ws : List Int) (h1 : ms.length = ls.length) (h2 : ws.length = ls.length) (h3 : ms.any badM = false) (hl : tot ls * 16 ≤ 140737488355328) (hn : ls.length ≤ 4611686018427387904) (hw : ∀ w ∈ ws, In64 w) (hz : ∀ l ∈ ls, ∀ z ∈ l, In64 z.2) :
    Spec Try.prog 33 [.v (.t (.sl 1 (lists ls))), .v (.t (.sl 1 (ints ms))), .v (.t (.sl 1 (ints ws)))] [] [.v (.t (.sl 2 (hrows (rwR ls ms ws).1))), .v (.t (.int .i64 (rwR ls ms ws).2))] [] := by
  have f1 := tt (show (ms.length : Int) = ls.length by omega)
  have f2 := tt (show (ws.length : Int) = ls.length by omega)
  have hids := ids_spec ls (by omega) hn
  have hilen : (riseS (idsL ls)).length ≤ tot ls := by have := riseS_len (idsL ls); rw [idsL_len] at this; exact this
  have hover : ∀ i k, i ∈ riseS (idsL ls) → k ≤ ls.length → (cB ls ms ws i k).2 = true → rwR ls ms ws = ([], 10) := by
    intro i k hi hk hc
    have := cB_mono ls ms ws i k hc (ls.length - k)
    rw [show k + (ls.length - k) = ls.length by omega] at this
    unfold rwR
    rw [if_pos (List.any_eq_true.2 ⟨i, hi, this⟩)]
  have hnover : (∀ i ∈ riseS (idsL ls), (cB ls ms ws i ls.length).2 = false) → rwR ls ms ws = (srt 2 ((riseS (idsL ls)).map fun i => (i, (cB ls ms ws i ls.length).1)), 0) := by
    intro h
    unfold rwR
    rw [if_neg]
    rw [Bool.not_eq_true, List.any_eq_false]
    intro i hi; rw [h i hi]; simp
  obtain ⟨⟨R, e9⟩, hR⟩ : ∃ R, rwR ls ms ws = R := ⟨_, rfl⟩
  rw [hR] at hover hnover ⊢
  obtain ⟨idl9, hidl⟩ : ∃ x, riseS (idsL ls) = x := ⟨_, rfl⟩
  rw [hidl] at hids hilen hover hnover
  clear hR
  simp only
  refine spec_by Try.func33 rfl mixed tOk evOk (n := 130) rfl (by simp) (by simp) ?_
  rw [initSt_mk, show Try.f33.results.toList = [.tmp 6, .tmp 7] from rfl]
  simp only [initL, AV.sv, List.map_cons, List.map_nil, Nat.reduceAdd, Nat.zero_add]
  repeat' (first
   | (with_reducible first | refine s_seq ?_ | refine s_block ?_ | refine s_region fun kr hr => ?_)
   | (with_reducible refine s_text tOk [126, 127, 1000, 1001, 1002, 1003] (by kernel_rfl) (by simp [HeapIn, namers, namerDst, namerOp, namedOp, namedFn, ownLoad, Blk.has, hasRows, hasL, CV.has, hasRows_up, hasM_up, hasRows_append, lists_len, ints_len, f1, f2]; (try ((repeat' apply And.intro) <;> intros <;> omega))) fun kr hr => ?_)
   | (with_reducible first | refine s_op fun K' hk => ?_ | refine t_op fun K' hk => ?_ | (refine hk _ ?_; clear hk K') | (refine ht _ ?_; clear ht hf KT KF) | (refine hf _ ?_; clear ht hf KT KF) | ((first | refine s_nil ?_ | refine t_nil ?_); refine hr _ ?_; clear hr kr))
   | ((with_reducible refine n_seqK [0, 1, 2, 3, 4, 5, 6, 7, 8, 9, 10, 11, 12, 13, 14, 15, 16, 17, 18, 23, 25, 30, 34, 44, 48, 51, 52, 54, 58, 59, 60, 73, 102, 107, 117] [126, 127] ?_); simp only [mk_keep, keepL, List.mem_cons, List.not_mem_nil, Nat.reduceEqDiff, Nat.zero_ne_one, Nat.one_ne_zero, reduceCtorEq, or_false, false_or, or_true, true_or, or_self, eq_self, ↓reduceIte])
   | (with_reducible first | refine s_cond fun KT KF ht hf => ?_ | refine s_skip ?_)
   | ((with_reducible refine s_long ?_); simp only [List.cons_append, List.nil_append])
   | (with_reducible first | refine s_exit ?_ | refine s_ret ?_ | refine e_seq ?_ | refine r_seq ?_ | refine n_block ?_ | refine e_block ?_ | refine r_block ?_ | refine e_loop ?_ | refine r_loop ?_ | refine e_round ?_ | refine r_round ?_ | refine s_round ?_ | refine f_block ?_ (by decide) | refine r_res ?_ | refine n_res ?_)
   | (simp only [hgb, go_sem, Int.reduceToNat, ↓reduceIte, reduceCtorEq, Nat.reduceEqDiff, Nat.reduceAdd, Nat.reduceMul, Nat.reduceLT, Nat.reduceLeDiff, Nat.reduceBEq, Int.reduceBEq, Int.reduceBNe, String.reduceBEq, Int.reduceEq, Int.reduceLT, Int.reduceLE, Int.reduceGE, Int.reduceGT, lists_len, ints_len, f1, f2]; clear hgb)
   | simp only [go_sem, Int.reduceToNat, ↓reduceIte, reduceCtorEq, Nat.reduceEqDiff, Nat.reduceAdd, Nat.reduceMul, Nat.reduceLT, Nat.reduceLeDiff, Nat.reduceBEq, Int.reduceBEq, Int.reduceBNe, String.reduceBEq, Int.reduceEq, Int.reduceLT, Int.reduceLE, Int.reduceGE, Int.reduceGT, lists_len, ints_len, f1, f2, hAll]
   | (refine ite_guard (fun hg => ?_) (fun hg => ?_) <;> (try simp only [Bool.not_eq_true, Bool.not_eq_false, Decidable.not_not] at hg) <;> (first | have hgb : (_ : Bool) = _ := hg | have hgb := ff hg | have hgb := tt hg))
   | (refine ⟨fun hc => ht _ ?_, fun hc => hf _ ?_⟩ <;> clear ht hf KT KF)
   | fail)
  refine w_loop [0, 1, 2, 8] [] (σ := Nat) (fun k st => st = mk [(0, V (.sl 1 (lists ls))), (1, V (.sl 1 (ints ms))), (2, V (.sl 1 (ints ws))), (8, I k)] [] ∧ k ≤ ms.length) (fun k => ms.length - k) 0 ?_ ?_
  · refine ⟨?_, Nat.zero_le _⟩
    simp only [go_sem, Int.reduceToNat, ↓reduceIte, reduceCtorEq, Nat.reduceEqDiff, Nat.reduceAdd, Nat.reduceMul, Nat.reduceLT, Nat.reduceLeDiff, Nat.reduceBEq, Int.reduceBEq, Int.reduceBNe, String.reduceBEq, Int.reduceEq, Int.reduceLT, Int.reduceLE, Int.reduceGE, Int.reduceGT, mk_keep, keepL, List.mem_cons, List.not_mem_nil, Nat.reduceEqDiff, Nat.zero_ne_one, Nat.one_ne_zero, reduceCtorEq, or_false, false_or, or_true, true_or, or_self, eq_self, ↓reduceIte]
    try rfl
  rintro k st' ⟨rfl, hk9⟩
  by_cases hlt : k < ms.length
  · have g1 := ltI hlt
    have g2 : (ints ms)[k]? = some [.int .i64 ms[k]] := by rw [ints_get, get_of_lt hlt]; rfl
    have g3 := wUp hlt (by omega)
    have hb : badM ms[k] = false := by rw [List.any_eq_false] at h3; simpa using h3 ms[k] (List.getElem_mem _)
    have g4 := ff (show ¬ ms[k] < 1 by simp [badM] at hb; omega)
    have g5 := ff (show ¬ ms[k] > 3 by simp [badM] at hb; omega)
    repeat' (first
     | (with_reducible first | refine s_seq ?_ | refine s_block ?_ | refine s_region fun kr hr => ?_)
     | (with_reducible refine s_text tOk [126, 127, 1000, 1001, 1002, 1003] (by kernel_rfl) (by simp [HeapIn, namers, namerDst, namerOp, namedOp, namedFn, ownLoad, Blk.has, hasRows, hasL, CV.has, hasRows_up, hasM_up, hasRows_append, ints_len, g1, g2, g3, g4, g5]; (try ((repeat' apply And.intro) <;> intros <;> omega))) fun kr hr => ?_)
     | (with_reducible first | refine s_op fun K' hk => ?_ | refine t_op fun K' hk => ?_ | (refine hk _ ?_; clear hk K') | (refine ht _ ?_; clear ht hf KT KF) | (refine hf _ ?_; clear ht hf KT KF) | ((first | refine s_nil ?_ | refine t_nil ?_); refine hr _ ?_; clear hr kr))
     | ((with_reducible refine n_seqK [0, 1, 2, 3, 4, 5, 6, 7, 8, 9, 10, 11, 12, 13, 14, 15, 16, 17, 18, 23, 25, 30, 34, 44, 48, 51, 52, 54, 58, 59, 60, 73, 102, 107, 117] [126, 127] ?_); simp only [mk_keep, keepL, List.mem_cons, List.not_mem_nil, Nat.reduceEqDiff, Nat.zero_ne_one, Nat.one_ne_zero, reduceCtorEq, or_false, false_or, or_true, true_or, or_self, eq_self, ↓reduceIte])
     | (with_reducible first | refine s_cond fun KT KF ht hf => ?_ | refine s_skip ?_)
     | ((with_reducible refine s_long ?_); simp only [List.cons_append, List.nil_append])
     | (with_reducible first | refine s_exit ?_ | refine s_ret ?_ | refine e_seq ?_ | refine r_seq ?_ | refine n_block ?_ | refine e_block ?_ | refine r_block ?_ | refine e_loop ?_ | refine r_loop ?_ | refine e_round ?_ | refine r_round ?_ | refine s_round ?_ | refine f_block ?_ (by decide) | refine r_res ?_ | refine n_res ?_)
     | (simp only [hgb, go_sem, Int.reduceToNat, ↓reduceIte, reduceCtorEq, Nat.reduceEqDiff, Nat.reduceAdd, Nat.reduceMul, Nat.reduceLT, Nat.reduceLeDiff, Nat.reduceBEq, Int.reduceBEq, Int.reduceBNe, String.reduceBEq, Int.reduceEq, Int.reduceLT, Int.reduceLE, Int.reduceGE, Int.reduceGT, ints_len, g1, g2, g3, g4, g5]; clear hgb)
     | simp only [go_sem, Int.reduceToNat, ↓reduceIte, reduceCtorEq, Nat.reduceEqDiff, Nat.reduceAdd, Nat.reduceMul, Nat.reduceLT, Nat.reduceLeDiff, Nat.reduceBEq, Int.reduceBEq, Int.reduceBNe, String.reduceBEq, Int.reduceEq, Int.reduceLT, Int.reduceLE, Int.reduceGE, Int.reduceGT, ints_len, g1, g2, g3, g4, g5, hAll]
     | (refine ite_guard (fun hg => ?_) (fun hg => ?_) <;> (try simp only [Bool.not_eq_true, Bool.not_eq_false, Decidable.not_not] at hg) <;> (first | have hgb : (_ : Bool) = _ := hg | have hgb := ff hg | have hgb := tt hg))
     | (refine ⟨fun hc => ht _ ?_, fun hc => hf _ ?_⟩ <;> clear ht hf KT KF)
     | fail)
    refine n_loop (k + 1) [0, 1, 2, 8] [] ⟨?_, hlt⟩ (by omega)
    simp only [go_sem, Int.reduceToNat, ↓reduceIte, reduceCtorEq, Nat.reduceEqDiff, Nat.reduceAdd, Nat.reduceMul, Nat.reduceLT, Nat.reduceLeDiff, Nat.reduceBEq, Int.reduceBEq, Int.reduceBNe, String.reduceBEq, Int.reduceEq, Int.reduceLT, Int.reduceLE, Int.reduceGE, Int.reduceGT, mk_keep, keepL, List.mem_cons, List.not_mem_nil, Nat.reduceEqDiff, Nat.zero_ne_one, Nat.one_ne_zero, reduceCtorEq, or_false, false_or, or_true, true_or, or_self, eq_self, ↓reduceIte]
  obtain rfl : k = ms.length := by omega
  have g1 := nltI hlt
  repeat' (first
   | (with_reducible first | refine s_seq ?_ | refine s_block ?_ | refine s_region fun kr hr => ?_)
   | (with_reducible refine s_text tOk [126, 127, 1000, 1001, 1002, 1003] (by kernel_rfl) (by simp [HeapIn, namers, namerDst, namerOp, namedOp, namedFn, ownLoad, Blk.has, hasRows, hasL, CV.has, hasRows_up, hasM_up, hasRows_append, ints_len, g1]; (try ((repeat' apply And.intro) <;> intros <;> omega))) fun kr hr => ?_)
   | (with_reducible first | refine s_op fun K' hk => ?_ | refine t_op fun K' hk => ?_ | (refine hk _ ?_; clear hk K') | (refine ht _ ?_; clear ht hf KT KF) | (refine hf _ ?_; clear ht hf KT KF) | ((first | refine s_nil ?_ | refine t_nil ?_); refine hr _ ?_; clear hr kr))
   | ((with_reducible refine n_seqK [0, 1, 2, 3, 4, 5, 6, 7, 8, 9, 10, 11, 12, 13, 14, 15, 16, 17, 18, 23, 25, 30, 34, 44, 48, 51, 52, 54, 58, 59, 60, 73, 102, 107, 117] [126, 127] ?_); simp only [mk_keep, keepL, List.mem_cons, List.not_mem_nil, Nat.reduceEqDiff, Nat.zero_ne_one, Nat.one_ne_zero, reduceCtorEq, or_false, false_or, or_true, true_or, or_self, eq_self, ↓reduceIte])
   | (with_reducible first | refine s_cond fun KT KF ht hf => ?_ | refine s_skip ?_)
   | ((with_reducible refine s_long ?_); simp only [List.cons_append, List.nil_append])
   | (with_reducible first | refine s_exit ?_ | refine s_ret ?_ | refine e_seq ?_ | refine r_seq ?_ | refine n_block ?_ | refine e_block ?_ | refine r_block ?_ | refine e_loop ?_ | refine r_loop ?_ | refine e_round ?_ | refine r_round ?_ | refine s_round ?_ | refine f_block ?_ (by decide) | refine r_res ?_ | refine n_res ?_)
   | (simp only [hgb, go_sem, Int.reduceToNat, ↓reduceIte, reduceCtorEq, Nat.reduceEqDiff, Nat.reduceAdd, Nat.reduceMul, Nat.reduceLT, Nat.reduceLeDiff, Nat.reduceBEq, Int.reduceBEq, Int.reduceBNe, String.reduceBEq, Int.reduceEq, Int.reduceLT, Int.reduceLE, Int.reduceGE, Int.reduceGT, ints_len, g1, callE, resSV, AV.flat, CV.flat, TV.flat]; clear hgb)
   | simp only [go_sem, Int.reduceToNat, ↓reduceIte, reduceCtorEq, Nat.reduceEqDiff, Nat.reduceAdd, Nat.reduceMul, Nat.reduceLT, Nat.reduceLeDiff, Nat.reduceBEq, Int.reduceBEq, Int.reduceBNe, String.reduceBEq, Int.reduceEq, Int.reduceLT, Int.reduceLE, Int.reduceGE, Int.reduceGT, ints_len, g1, callE, resSV, AV.flat, CV.flat, TV.flat, hAll]
   | refine Or.inl ⟨_, ⟨fun _ _ => rfl, hids⟩, ?_⟩
   | refine ⟨_, ⟨fun _ _ => rfl, hids⟩, ?_⟩
   | (refine ite_guard (fun hg => ?_) (fun hg => ?_) <;> (try simp only [Bool.not_eq_true, Bool.not_eq_false, Decidable.not_not] at hg) <;> (first | have hgb : (_ : Bool) = _ := hg | have hgb := ff hg | have hgb := tt hg))
   | (refine ⟨fun hc => ht _ ?_, fun hc => hf _ ?_⟩ <;> clear ht hf KT KF)
   | fail)
  refine w_loopG _ (gho_nilName (s := 9) (d := 127) (sz := 2) (by decide) ⟨2, rfl⟩ (by rw [fresh_t]; exact trivial; rfl)) ?_
  rw [mk_nilName]
  refine w_loop [0, 1, 2, 9, 10, 11] [127] (σ := Nat) (fun j st => st = mk [(0, V (.sl 1 (lists ls))), (1, V (.sl 1 (ints ms))), (2, V (.sl 1 (ints ws))), (9, .c (.mr 127 0 j)), (10, V (.sl 1 (ints idl9))), (11, I j)] [(127, .cells 2 (up (hrows ((idl9.take j).map fun i => (i, (cB ls ms ws i ls.length).1)))))] ∧ j ≤ idl9.length ∧ ∀ i ∈ idl9.take j, (cB ls ms ws i ls.length).2 = false) (fun j => idl9.length - j) 0 ?_ ?_
  · refine ⟨?_, Nat.zero_le _, by simp⟩
    simp only [go_sem, Int.reduceToNat, ↓reduceIte, reduceCtorEq, Nat.reduceEqDiff, Nat.reduceAdd, Nat.reduceMul, Nat.reduceLT, Nat.reduceLeDiff, Nat.reduceBEq, Int.reduceBEq, Int.reduceBNe, String.reduceBEq, Int.reduceEq, Int.reduceLT, Int.reduceLE, Int.reduceGE, Int.reduceGT, mk_keep, keepL, List.mem_cons, List.not_mem_nil, Nat.reduceEqDiff, Nat.zero_ne_one, Nat.one_ne_zero, reduceCtorEq, or_false, false_or, or_true, true_or, or_self, eq_self, ↓reduceIte]
    rfl
  rintro j st' ⟨rfl, hj9, hno⟩
  have hlj : ((idl9.take j).map fun i => (i, (cB ls ms ws i ls.length).1)).length = j := by rw [List.length_map, List.length_take]; omega
  by_cases hjl : j < idl9.length
  · have p1 := ltI hjl
    have p2 : (ints idl9)[j]? = some [.int .i64 idl9[j]] := by rw [ints_get, get_of_lt hjl]; rfl
    have p3 := wUp hjl (by omega)
    have htk : (idl9.take (j + 1)).map (fun i => (i, (cB ls ms ws i ls.length).1)) = (idl9.take j).map (fun i => (i, (cB ls ms ws i ls.length).1)) ++ [(idl9[j], (cB ls ms ws idl9[j] ls.length).1)] := by
      rw [List.take_succ_eq_append_getElem hjl, List.map_append]; rfl
    have htm : ∀ i ∈ idl9.take (j + 1), i ∈ idl9.take j ∨ i = idl9[j] := by
      intro i hi
      rw [List.take_succ_eq_append_getElem hjl, List.mem_append, List.mem_singleton] at hi
      exact hi
    obtain ⟨O, hO⟩ : ∃ O, (idl9.take j).map (fun i => (i, (cB ls ms ws i ls.length).1)) = O := ⟨_, rfl⟩
    obtain ⟨O', hO'⟩ : ∃ O, (idl9.take (j + 1)).map (fun i => (i, (cB ls ms ws i ls.length).1)) = O := ⟨_, rfl⟩
    rw [hO, hO'] at htk
    rw [hO] at hlj ⊢
    have hi : idl9[j] ∈ idl9 := List.getElem_mem _
    obtain ⟨i, hi9⟩ : ∃ i, idl9[j] = i := ⟨_, rfl⟩
    rw [hi9] at p2 hi htm htk
    repeat' (first
     | (with_reducible first | refine s_seq ?_ | refine s_block ?_ | refine s_region fun kr hr => ?_)
     | (with_reducible refine s_text tOk [126, 127, 1000, 1001, 1002, 1003] (by kernel_rfl) (by simp [HeapIn, namers, namerDst, namerOp, namedOp, namedFn, ownLoad, Blk.has, hasRows, hasL, CV.has, hasRows_up, hasM_up, hasRows_append, lists_len, ints_len, p1]; (try ((repeat' apply And.intro) <;> intros <;> omega))) fun kr hr => ?_)
     | (with_reducible first | refine s_op fun K' hk => ?_ | refine t_op fun K' hk => ?_ | (refine hk _ ?_; clear hk K') | (refine ht _ ?_; clear ht hf KT KF) | (refine hf _ ?_; clear ht hf KT KF) | ((first | refine s_nil ?_ | refine t_nil ?_); refine hr _ ?_; clear hr kr))
     | ((with_reducible refine n_seqK [0, 1, 2, 3, 4, 5, 6, 7, 8, 9, 10, 11, 12, 13, 14, 15, 16, 17, 18, 23, 25, 30, 34, 44, 48, 51, 52, 54, 58, 59, 60, 73, 102, 107, 117] [126, 127] ?_); simp only [mk_keep, keepL, List.mem_cons, List.not_mem_nil, Nat.reduceEqDiff, Nat.zero_ne_one, Nat.one_ne_zero, reduceCtorEq, or_false, false_or, or_true, true_or, or_self, eq_self, ↓reduceIte])
     | (with_reducible first | refine s_cond fun KT KF ht hf => ?_ | refine s_skip ?_)
     | ((with_reducible refine s_long ?_); simp only [List.cons_append, List.nil_append])
     | (with_reducible first | refine s_exit ?_ | refine s_ret ?_ | refine e_seq ?_ | refine r_seq ?_ | refine n_block ?_ | refine e_block ?_ | refine r_block ?_ | refine e_loop ?_ | refine r_loop ?_ | refine e_round ?_ | refine r_round ?_ | refine s_round ?_ | refine f_block ?_ (by decide) | refine r_res ?_ | refine n_res ?_)
     | (simp only [hgb, go_sem, Int.reduceToNat, ↓reduceIte, reduceCtorEq, Nat.reduceEqDiff, Nat.reduceAdd, Nat.reduceMul, Nat.reduceLT, Nat.reduceLeDiff, Nat.reduceBEq, Int.reduceBEq, Int.reduceBNe, String.reduceBEq, Int.reduceEq, Int.reduceLT, Int.reduceLE, Int.reduceGE, Int.reduceGT, lists_len, ints_len, p1]; clear hgb)
     | simp only [go_sem, Int.reduceToNat, ↓reduceIte, reduceCtorEq, Nat.reduceEqDiff, Nat.reduceAdd, Nat.reduceMul, Nat.reduceLT, Nat.reduceLeDiff, Nat.reduceBEq, Int.reduceBEq, Int.reduceBNe, String.reduceBEq, Int.reduceEq, Int.reduceLT, Int.reduceLE, Int.reduceGE, Int.reduceGT, lists_len, ints_len, p1, hAll]
     | (refine ite_guard (fun hg => ?_) (fun hg => ?_) <;> (try simp only [Bool.not_eq_true, Bool.not_eq_false, Decidable.not_not] at hg) <;> (first | have hgb : (_ : Bool) = _ := hg | have hgb := ff hg | have hgb := tt hg))
     | (refine ⟨fun hc => ht _ ?_, fun hc => hf _ ?_⟩ <;> clear ht hf KT KF)
     | fail)
    refine w_loop [0, 1, 2, 9, 10, 11, 12, 13] [127] (σ := Nat) (fun k st => st = mk [(0, V (.sl 1 (lists ls))), (1, V (.sl 1 (ints ms))), (2, V (.sl 1 (ints ws))), (9, .c (.mr 127 0 j)), (10, V (.sl 1 (ints idl9))), (11, I j), (12, I (cB ls ms ws i k).1), (13, I k)] [(127, .cells 2 (up (hrows O)))] ∧ k ≤ ls.length ∧ (cB ls ms ws i k).2 = false) (fun k => ls.length - k) 0 ?_ ?_
    · refine ⟨?_, Nat.zero_le _, rfl⟩
      simp only [go_sem, Int.reduceToNat, ↓reduceIte, reduceCtorEq, Nat.reduceEqDiff, Nat.reduceAdd, Nat.reduceMul, Nat.reduceLT, Nat.reduceLeDiff, Nat.reduceBEq, Int.reduceBEq, Int.reduceBNe, String.reduceBEq, Int.reduceEq, Int.reduceLT, Int.reduceLE, Int.reduceGE, Int.reduceGT, mk_keep, keepL, List.mem_cons, List.not_mem_nil, Nat.reduceEqDiff, Nat.zero_ne_one, Nat.one_ne_zero, reduceCtorEq, or_false, false_or, or_true, true_or, or_self, eq_self, ↓reduceIte]
      rfl
    rintro k st' ⟨rfl, hk, hcf⟩
    by_cases hkl : k < ls.length
    · have q1 := ltI hkl
      have q2 : (lists ls)[k]? = some [.sl 2 (hrows ls[k])] := by rw [lists_get, get_of_lt hkl]; rfl
      have q3 := wUp hkl (by omega)
      have hkm : k < ms.length := by omega
      have hkw : k < ws.length := by omega
      have hlen := len_tot hkl
      have hat := at_spec ls[k] i (by omega)
      cases hf : ls[k].findIdx? (fun z => z.1 == i) with
      | none =>
        rw [atI_none hf] at hat
        have hcn := cB_none (ms := ms) (ws := ws) hkl hf
        repeat' (first
         | (with_reducible first | refine s_seq ?_ | refine s_block ?_ | refine s_region fun kr hr => ?_)
         | (with_reducible refine s_text tOk [126, 127, 1000, 1001, 1002, 1003] (by kernel_rfl) (by simp [HeapIn, namers, namerDst, namerOp, namedOp, namedFn, ownLoad, Blk.has, hasRows, hasL, CV.has, hasRows_up, hasM_up, hasRows_append, lists_len, ints_len, q1, q2, q3, p2]; (try ((repeat' apply And.intro) <;> intros <;> omega))) fun kr hr => ?_)
         | (with_reducible first | refine s_op fun K' hk => ?_ | refine t_op fun K' hk => ?_ | (refine hk _ ?_; clear hk K') | (refine ht _ ?_; clear ht hf KT KF) | (refine hf _ ?_; clear ht hf KT KF) | ((first | refine s_nil ?_ | refine t_nil ?_); refine hr _ ?_; clear hr kr))
         | ((with_reducible refine n_seqK [0, 1, 2, 3, 4, 5, 6, 7, 8, 9, 10, 11, 12, 13, 14, 15, 16, 17, 18, 23, 25, 30, 34, 44, 48, 51, 52, 54, 58, 59, 60, 73, 102, 107, 117] [126, 127] ?_); simp only [mk_keep, keepL, List.mem_cons, List.not_mem_nil, Nat.reduceEqDiff, Nat.zero_ne_one, Nat.one_ne_zero, reduceCtorEq, or_false, false_or, or_true, true_or, or_self, eq_self, ↓reduceIte])
         | (with_reducible first | refine s_cond fun KT KF ht hf => ?_ | refine s_skip ?_)
         | ((with_reducible refine s_long ?_); simp only [List.cons_append, List.nil_append])
         | (with_reducible first | refine s_exit ?_ | refine s_ret ?_ | refine e_seq ?_ | refine r_seq ?_ | refine n_block ?_ | refine e_block ?_ | refine r_block ?_ | refine e_loop ?_ | refine r_loop ?_ | refine e_round ?_ | refine r_round ?_ | refine s_round ?_ | refine f_block ?_ (by decide) | refine r_res ?_ | refine n_res ?_)
         | (simp only [hgb, go_sem, Int.reduceToNat, ↓reduceIte, reduceCtorEq, Nat.reduceEqDiff, Nat.reduceAdd, Nat.reduceMul, Nat.reduceLT, Nat.reduceLeDiff, Nat.reduceBEq, Int.reduceBEq, Int.reduceBNe, String.reduceBEq, Int.reduceEq, Int.reduceLT, Int.reduceLE, Int.reduceGE, Int.reduceGT, lists_len, ints_len, q1, q2, q3, p2, callE, resSV, AV.flat, CV.flat, TV.flat]; clear hgb)
         | simp only [go_sem, Int.reduceToNat, ↓reduceIte, reduceCtorEq, Nat.reduceEqDiff, Nat.reduceAdd, Nat.reduceMul, Nat.reduceLT, Nat.reduceLeDiff, Nat.reduceBEq, Int.reduceBEq, Int.reduceBNe, String.reduceBEq, Int.reduceEq, Int.reduceLT, Int.reduceLE, Int.reduceGE, Int.reduceGT, lists_len, ints_len, q1, q2, q3, p2, callE, resSV, AV.flat, CV.flat, TV.flat, hAll]
         | refine Or.inl ⟨_, ⟨fun _ _ => rfl, hat⟩, ?_⟩
         | refine ⟨_, ⟨fun _ _ => rfl, hat⟩, ?_⟩
         | (refine ite_guard (fun hg => ?_) (fun hg => ?_) <;> (try simp only [Bool.not_eq_true, Bool.not_eq_false, Decidable.not_not] at hg) <;> (first | have hgb : (_ : Bool) = _ := hg | have hgb := ff hg | have hgb := tt hg))
         | (refine ⟨fun hc => ht _ ?_, fun hc => hf _ ?_⟩ <;> clear ht hf KT KF)
         | fail)
        refine n_loop (k + 1) [0, 1, 2, 9, 10, 11, 12, 13] [127] ⟨?_, hkl, by rw [hcn]; exact hcf⟩ (by omega)
        simp only [go_sem, Int.reduceToNat, ↓reduceIte, reduceCtorEq, Nat.reduceEqDiff, Nat.reduceAdd, Nat.reduceMul, Nat.reduceLT, Nat.reduceLeDiff, Nat.reduceBEq, Int.reduceBEq, Int.reduceBNe, String.reduceBEq, Int.reduceEq, Int.reduceLT, Int.reduceLE, Int.reduceGE, Int.reduceGT, mk_keep, keepL, List.mem_cons, List.not_mem_nil, Nat.reduceEqDiff, Nat.zero_ne_one, Nat.one_ne_zero, reduceCtorEq, or_false, false_or, or_true, true_or, or_self, eq_self, ↓reduceIte, hcn]
      | some p =>
        rw [atI_some hf] at hat
        obtain ⟨hp, hc⟩ := cB_some hkl hkm hkw hf
        have q4 : (ints ws)[k]? = some [.int .i64 ws[k]] := by rw [ints_get, get_of_lt hkw]; rfl
        have q5 : (ints ms)[k]? = some [.int .i64 ms[k]] := by rw [ints_get, get_of_lt hkm]; rfl
        have q6 : (hrows ls[k])[p]? = some (hrow ls[k][p]) := by rw [hrows_get, get_of_lt hp]; rfl
        have q7 := ff (show ¬ (p : Int) < 0 by omega)
        have hmul := rmul_spec ws[k] ls[k][p].2 (hw _ (List.getElem_mem _)) (hz _ (List.getElem_mem _) _ (List.getElem_mem _))
        have hNin := mulOf_in ws[k] ls[k][p].2
        have hcin := cB_in ls ms ws i k
        unfold wst at hc
        rw [hcf] at hc
        have hov1 : (cB ls ms ws i (k + 1)).2 = true → ([], 10) = (R, e9) := fun h => (hover i (k + 1) hi (by omega) h).symm
        obtain ⟨c1, hc1⟩ : ∃ c, (cB ls ms ws i (k + 1)) = c := ⟨_, rfl⟩
        rw [hc1] at hc hov1
        obtain ⟨n, hn1⟩ : ∃ n, (cB ls ms ws i k).1 = n := ⟨_, rfl⟩
        rw [hn1] at hc hcin ⊢
        obtain ⟨N, hN⟩ : ∃ N, (mulOf ws[k] ls[k][p].2).1 = N := ⟨_, rfl⟩
        obtain ⟨e, he⟩ : ∃ e, (mulOf ws[k] ls[k][p].2).2 = e := ⟨_, rfl⟩
        rw [hN] at hNin
        rw [hN, he] at hmul hc
        generalize ls[k][p] = z at *
        obtain ⟨z1, z2⟩ := z
        generalize ls[k] = l at *
        generalize ws[k] = wt at *
        generalize ms[k] = mt at *
        simp only at hmul hc
        by_cases he0 : e = 0
        · subst he0
          have r1 := tt (show (0 : Int) = 0 from rfl)
          by_cases hm1 : mt = 1
          · have r2 := tt hm1
            by_cases hL : N = -9223372036854775808
            · have r3 := tt hL
              obtain ⟨rfl, rfl⟩ := Prod.mk.inj (hov1 (by rw [hc]; unfold wOver; rw [if_pos hm1, hL]; simp [wi64]))
              repeat' (first
               | (with_reducible first | refine s_seq ?_ | refine s_block ?_ | refine s_region fun kr hr => ?_)
               | (with_reducible refine s_text tOk [126, 127, 1000, 1001, 1002, 1003] (by kernel_rfl) (by simp [HeapIn, namers, namerDst, namerOp, namedOp, namedFn, ownLoad, Blk.has, hasRows, hasL, CV.has, hasRows_up, hasM_up, hasRows_append, lists_len, ints_len, q1, q2, q3, q4, q5, q6, q7, p2, r2, r3, hrow]; (try ((repeat' apply And.intro) <;> intros <;> omega))) fun kr hr => ?_)
               | (with_reducible first | refine s_op fun K' hk => ?_ | refine t_op fun K' hk => ?_ | (refine hk _ ?_; clear hk K') | (refine ht _ ?_; clear ht hf KT KF) | (refine hf _ ?_; clear ht hf KT KF) | ((first | refine s_nil ?_ | refine t_nil ?_); refine hr _ ?_; clear hr kr))
               | ((with_reducible refine n_seqK [0, 1, 2, 3, 4, 5, 6, 7, 8, 9, 10, 11, 12, 13, 14, 15, 16, 17, 18, 23, 25, 30, 34, 44, 48, 51, 52, 54, 58, 59, 60, 73, 102, 107, 117] [126, 127] ?_); simp only [mk_keep, keepL, List.mem_cons, List.not_mem_nil, Nat.reduceEqDiff, Nat.zero_ne_one, Nat.one_ne_zero, reduceCtorEq, or_false, false_or, or_true, true_or, or_self, eq_self, ↓reduceIte])
               | (with_reducible first | refine s_cond fun KT KF ht hf => ?_ | refine s_skip ?_)
               | ((with_reducible refine s_long ?_); simp only [List.cons_append, List.nil_append])
               | (with_reducible first | refine s_exit ?_ | refine s_ret ?_ | refine e_seq ?_ | refine r_seq ?_ | refine n_block ?_ | refine e_block ?_ | refine r_block ?_ | refine e_loop ?_ | refine r_loop ?_ | refine e_round ?_ | refine r_round ?_ | refine s_round ?_ | refine f_block ?_ (by decide) | refine r_res ?_ | refine n_res ?_)
               | (simp only [hgb, go_sem, Int.reduceToNat, ↓reduceIte, reduceCtorEq, Nat.reduceEqDiff, Nat.reduceAdd, Nat.reduceMul, Nat.reduceLT, Nat.reduceLeDiff, Nat.reduceBEq, Int.reduceBEq, Int.reduceBNe, String.reduceBEq, Int.reduceEq, Int.reduceLT, Int.reduceLE, Int.reduceGE, Int.reduceGT, lists_len, ints_len, q1, q2, q3, q4, q5, q6, q7, p2, r2, r3, hrow, callE, resSV, AV.flat, CV.flat, TV.flat]; clear hgb)
               | simp only [go_sem, Int.reduceToNat, ↓reduceIte, reduceCtorEq, Nat.reduceEqDiff, Nat.reduceAdd, Nat.reduceMul, Nat.reduceLT, Nat.reduceLeDiff, Nat.reduceBEq, Int.reduceBEq, Int.reduceBNe, String.reduceBEq, Int.reduceEq, Int.reduceLT, Int.reduceLE, Int.reduceGE, Int.reduceGT, lists_len, ints_len, q1, q2, q3, q4, q5, q6, q7, p2, r2, r3, hrow, callE, resSV, AV.flat, CV.flat, TV.flat, hAll]
               | refine Or.inl ⟨_, ⟨fun _ _ => rfl, hat⟩, ?_⟩
               | refine ⟨_, ⟨fun _ _ => rfl, hat⟩, ?_⟩
               | refine Or.inl ⟨_, ⟨fun _ _ => rfl, hmul⟩, ?_⟩
               | refine ⟨_, ⟨fun _ _ => rfl, hmul⟩, ?_⟩
               | (refine ite_guard (fun hg => ?_) (fun hg => ?_) <;> (try simp only [Bool.not_eq_true, Bool.not_eq_false, Decidable.not_not] at hg) <;> (first | have hgb : (_ : Bool) = _ := hg | have hgb := ff hg | have hgb := tt hg))
               | (refine ⟨fun hc => ht _ ?_, fun hc => hf _ ?_⟩ <;> clear ht hf KT KF)
               | fail)
              all_goals rfl
            · have r3 := ff hL
              have had := radd25_spec n (wNum mt N) hcin (wNum_in _ _ hNin)
              have hx : wNum mt N = IntKind.wrap .i64 (0 - N) := by unfold wNum; rw [if_pos hm1]
              obtain ⟨x, hx9⟩ : ∃ x, IntKind.wrap .i64 (0 - N) = x := ⟨_, rfl⟩
              rw [hx9] at hx
              rw [hx] at had hc
              have hwo : wOver mt N false = false := by
                unfold wOver; rw [if_pos hm1]
                have : ¬ (N = IntKind.wrap .i64 (0 - N) ∧ ¬ N = 0) := by
                  rw [wi64]; simp only [In64] at hNin; omega
                simp only [Bool.false_or, Bool.and_eq_false_iff, decide_eq_false_iff_not, Bool.not_eq_false', decide_eq_true_eq]
                omega
              rw [hwo] at hc
              generalize (addF n x).1 = s at *
              cases hok : (addF n x).2 with
              | true =>
                rw [hok] at had hc
                repeat' (first
                 | (with_reducible first | refine s_seq ?_ | refine s_block ?_ | refine s_region fun kr hr => ?_)
                 | (with_reducible refine s_text tOk [126, 127, 1000, 1001, 1002, 1003] (by kernel_rfl) (by simp [HeapIn, namers, namerDst, namerOp, namedOp, namedFn, ownLoad, Blk.has, hasRows, hasL, CV.has, hasRows_up, hasM_up, hasRows_append, lists_len, ints_len, q1, q2, q3, q4, q5, q6, q7, p2, r2, r3, hx9, hrow]; (try ((repeat' apply And.intro) <;> intros <;> omega))) fun kr hr => ?_)
                 | (with_reducible first | refine s_op fun K' hk => ?_ | refine t_op fun K' hk => ?_ | (refine hk _ ?_; clear hk K') | (refine ht _ ?_; clear ht hf KT KF) | (refine hf _ ?_; clear ht hf KT KF) | ((first | refine s_nil ?_ | refine t_nil ?_); refine hr _ ?_; clear hr kr))
                 | ((with_reducible refine n_seqK [0, 1, 2, 3, 4, 5, 6, 7, 8, 9, 10, 11, 12, 13, 14, 15, 16, 17, 18, 23, 25, 30, 34, 44, 48, 51, 52, 54, 58, 59, 60, 73, 102, 107, 117] [126, 127] ?_); simp only [mk_keep, keepL, List.mem_cons, List.not_mem_nil, Nat.reduceEqDiff, Nat.zero_ne_one, Nat.one_ne_zero, reduceCtorEq, or_false, false_or, or_true, true_or, or_self, eq_self, ↓reduceIte])
                 | (with_reducible first | refine s_cond fun KT KF ht hf => ?_ | refine s_skip ?_)
                 | ((with_reducible refine s_long ?_); simp only [List.cons_append, List.nil_append])
                 | (with_reducible first | refine s_exit ?_ | refine s_ret ?_ | refine e_seq ?_ | refine r_seq ?_ | refine n_block ?_ | refine e_block ?_ | refine r_block ?_ | refine e_loop ?_ | refine r_loop ?_ | refine e_round ?_ | refine r_round ?_ | refine s_round ?_ | refine f_block ?_ (by decide) | refine r_res ?_ | refine n_res ?_)
                 | (simp only [hgb, go_sem, Int.reduceToNat, ↓reduceIte, reduceCtorEq, Nat.reduceEqDiff, Nat.reduceAdd, Nat.reduceMul, Nat.reduceLT, Nat.reduceLeDiff, Nat.reduceBEq, Int.reduceBEq, Int.reduceBNe, String.reduceBEq, Int.reduceEq, Int.reduceLT, Int.reduceLE, Int.reduceGE, Int.reduceGT, lists_len, ints_len, q1, q2, q3, q4, q5, q6, q7, p2, r2, r3, hx9, hrow, callE, resSV, AV.flat, CV.flat, TV.flat]; clear hgb)
                 | simp only [go_sem, Int.reduceToNat, ↓reduceIte, reduceCtorEq, Nat.reduceEqDiff, Nat.reduceAdd, Nat.reduceMul, Nat.reduceLT, Nat.reduceLeDiff, Nat.reduceBEq, Int.reduceBEq, Int.reduceBNe, String.reduceBEq, Int.reduceEq, Int.reduceLT, Int.reduceLE, Int.reduceGE, Int.reduceGT, lists_len, ints_len, q1, q2, q3, q4, q5, q6, q7, p2, r2, r3, hx9, hrow, callE, resSV, AV.flat, CV.flat, TV.flat, hAll]
                 | refine Or.inl ⟨_, ⟨fun _ _ => rfl, hat⟩, ?_⟩
                 | refine ⟨_, ⟨fun _ _ => rfl, hat⟩, ?_⟩
                 | refine Or.inl ⟨_, ⟨fun _ _ => rfl, hmul⟩, ?_⟩
                 | refine ⟨_, ⟨fun _ _ => rfl, hmul⟩, ?_⟩
                 | refine Or.inl ⟨_, ⟨fun _ _ => rfl, had⟩, ?_⟩
                 | refine ⟨_, ⟨fun _ _ => rfl, had⟩, ?_⟩
                 | (refine ite_guard (fun hg => ?_) (fun hg => ?_) <;> (try simp only [Bool.not_eq_true, Bool.not_eq_false, Decidable.not_not] at hg) <;> (first | have hgb : (_ : Bool) = _ := hg | have hgb := ff hg | have hgb := tt hg))
                 | (refine ⟨fun hc => ht _ ?_, fun hc => hf _ ?_⟩ <;> clear ht hf KT KF)
                 | fail)
                refine n_loop (k + 1) [0, 1, 2, 9, 10, 11, 12, 13] [127] ⟨?_, hkl, by rw [hc1, hc]; rfl⟩ (by omega)
                simp only [go_sem, Int.reduceToNat, ↓reduceIte, reduceCtorEq, Nat.reduceEqDiff, Nat.reduceAdd, Nat.reduceMul, Nat.reduceLT, Nat.reduceLeDiff, Nat.reduceBEq, Int.reduceBEq, Int.reduceBNe, String.reduceBEq, Int.reduceEq, Int.reduceLT, Int.reduceLE, Int.reduceGE, Int.reduceGT, mk_keep, keepL, List.mem_cons, List.not_mem_nil, Nat.reduceEqDiff, Nat.zero_ne_one, Nat.one_ne_zero, reduceCtorEq, or_false, false_or, or_true, true_or, or_self, eq_self, ↓reduceIte, hc1, hc]
              | false =>
                rw [hok] at had hc
                obtain ⟨rfl, rfl⟩ := Prod.mk.inj (hov1 (by rw [hc]; rfl))
                repeat' (first
                 | (with_reducible first | refine s_seq ?_ | refine s_block ?_ | refine s_region fun kr hr => ?_)
                 | (with_reducible refine s_text tOk [126, 127, 1000, 1001, 1002, 1003] (by kernel_rfl) (by simp [HeapIn, namers, namerDst, namerOp, namedOp, namedFn, ownLoad, Blk.has, hasRows, hasL, CV.has, hasRows_up, hasM_up, hasRows_append, lists_len, ints_len, q1, q2, q3, q4, q5, q6, q7, p2, r2, r3, hx9, hrow]; (try ((repeat' apply And.intro) <;> intros <;> omega))) fun kr hr => ?_)
                 | (with_reducible first | refine s_op fun K' hk => ?_ | refine t_op fun K' hk => ?_ | (refine hk _ ?_; clear hk K') | (refine ht _ ?_; clear ht hf KT KF) | (refine hf _ ?_; clear ht hf KT KF) | ((first | refine s_nil ?_ | refine t_nil ?_); refine hr _ ?_; clear hr kr))
                 | ((with_reducible refine n_seqK [0, 1, 2, 3, 4, 5, 6, 7, 8, 9, 10, 11, 12, 13, 14, 15, 16, 17, 18, 23, 25, 30, 34, 44, 48, 51, 52, 54, 58, 59, 60, 73, 102, 107, 117] [126, 127] ?_); simp only [mk_keep, keepL, List.mem_cons, List.not_mem_nil, Nat.reduceEqDiff, Nat.zero_ne_one, Nat.one_ne_zero, reduceCtorEq, or_false, false_or, or_true, true_or, or_self, eq_self, ↓reduceIte])
                 | (with_reducible first | refine s_cond fun KT KF ht hf => ?_ | refine s_skip ?_)
                 | ((with_reducible refine s_long ?_); simp only [List.cons_append, List.nil_append])
                 | (with_reducible first | refine s_exit ?_ | refine s_ret ?_ | refine e_seq ?_ | refine r_seq ?_ | refine n_block ?_ | refine e_block ?_ | refine r_block ?_ | refine e_loop ?_ | refine r_loop ?_ | refine e_round ?_ | refine r_round ?_ | refine s_round ?_ | refine f_block ?_ (by decide) | refine r_res ?_ | refine n_res ?_)
                 | (simp only [hgb, go_sem, Int.reduceToNat, ↓reduceIte, reduceCtorEq, Nat.reduceEqDiff, Nat.reduceAdd, Nat.reduceMul, Nat.reduceLT, Nat.reduceLeDiff, Nat.reduceBEq, Int.reduceBEq, Int.reduceBNe, String.reduceBEq, Int.reduceEq, Int.reduceLT, Int.reduceLE, Int.reduceGE, Int.reduceGT, lists_len, ints_len, q1, q2, q3, q4, q5, q6, q7, p2, r2, r3, hx9, hrow, callE, resSV, AV.flat, CV.flat, TV.flat]; clear hgb)
                 | simp only [go_sem, Int.reduceToNat, ↓reduceIte, reduceCtorEq, Nat.reduceEqDiff, Nat.reduceAdd, Nat.reduceMul, Nat.reduceLT, Nat.reduceLeDiff, Nat.reduceBEq, Int.reduceBEq, Int.reduceBNe, String.reduceBEq, Int.reduceEq, Int.reduceLT, Int.reduceLE, Int.reduceGE, Int.reduceGT, lists_len, ints_len, q1, q2, q3, q4, q5, q6, q7, p2, r2, r3, hx9, hrow, callE, resSV, AV.flat, CV.flat, TV.flat, hAll]
                 | refine Or.inl ⟨_, ⟨fun _ _ => rfl, hat⟩, ?_⟩
                 | refine ⟨_, ⟨fun _ _ => rfl, hat⟩, ?_⟩
                 | refine Or.inl ⟨_, ⟨fun _ _ => rfl, hmul⟩, ?_⟩
                 | refine ⟨_, ⟨fun _ _ => rfl, hmul⟩, ?_⟩
                 | refine Or.inl ⟨_, ⟨fun _ _ => rfl, had⟩, ?_⟩
                 | refine ⟨_, ⟨fun _ _ => rfl, had⟩, ?_⟩
                 | (refine ite_guard (fun hg => ?_) (fun hg => ?_) <;> (try simp only [Bool.not_eq_true, Bool.not_eq_false, Decidable.not_not] at hg) <;> (first | have hgb : (_ : Bool) = _ := hg | have hgb := ff hg | have hgb := tt hg))
                 | (refine ⟨fun hc => ht _ ?_, fun hc => hf _ ?_⟩ <;> clear ht hf KT KF)
                 | fail)
                all_goals rfl
          · have r2 := ff hm1
            have had := radd25_spec n (wNum mt N) hcin (wNum_in _ _ hNin)
            have hx : wNum mt N = N := by unfold wNum; rw [if_neg hm1]
            rw [hx] at had hc
            have hwo : wOver mt N false = false := by unfold wOver; rw [if_neg hm1]
            rw [hwo] at hc
            generalize (addF n N).1 = s at *
            cases hok : (addF n N).2 with
            | true =>
              rw [hok] at had hc
              repeat' (first
               | (with_reducible first | refine s_seq ?_ | refine s_block ?_ | refine s_region fun kr hr => ?_)
               | (with_reducible refine s_text tOk [126, 127, 1000, 1001, 1002, 1003] (by kernel_rfl) (by simp [HeapIn, namers, namerDst, namerOp, namedOp, namedFn, ownLoad, Blk.has, hasRows, hasL, CV.has, hasRows_up, hasM_up, hasRows_append, lists_len, ints_len, q1, q2, q3, q4, q5, q6, q7, p2, r2, hrow]; (try ((repeat' apply And.intro) <;> intros <;> omega))) fun kr hr => ?_)
               | (with_reducible first | refine s_op fun K' hk => ?_ | refine t_op fun K' hk => ?_ | (refine hk _ ?_; clear hk K') | (refine ht _ ?_; clear ht hf KT KF) | (refine hf _ ?_; clear ht hf KT KF) | ((first | refine s_nil ?_ | refine t_nil ?_); refine hr _ ?_; clear hr kr))
               | ((with_reducible refine n_seqK [0, 1, 2, 3, 4, 5, 6, 7, 8, 9, 10, 11, 12, 13, 14, 15, 16, 17, 18, 23, 25, 30, 34, 44, 48, 51, 52, 54, 58, 59, 60, 73, 102, 107, 117] [126, 127] ?_); simp only [mk_keep, keepL, List.mem_cons, List.not_mem_nil, Nat.reduceEqDiff, Nat.zero_ne_one, Nat.one_ne_zero, reduceCtorEq, or_false, false_or, or_true, true_or, or_self, eq_self, ↓reduceIte])
               | (with_reducible first | refine s_cond fun KT KF ht hf => ?_ | refine s_skip ?_)
               | ((with_reducible refine s_long ?_); simp only [List.cons_append, List.nil_append])
               | (with_reducible first | refine s_exit ?_ | refine s_ret ?_ | refine e_seq ?_ | refine r_seq ?_ | refine n_block ?_ | refine e_block ?_ | refine r_block ?_ | refine e_loop ?_ | refine r_loop ?_ | refine e_round ?_ | refine r_round ?_ | refine s_round ?_ | refine f_block ?_ (by decide) | refine r_res ?_ | refine n_res ?_)
               | (simp only [hgb, go_sem, Int.reduceToNat, ↓reduceIte, reduceCtorEq, Nat.reduceEqDiff, Nat.reduceAdd, Nat.reduceMul, Nat.reduceLT, Nat.reduceLeDiff, Nat.reduceBEq, Int.reduceBEq, Int.reduceBNe, String.reduceBEq, Int.reduceEq, Int.reduceLT, Int.reduceLE, Int.reduceGE, Int.reduceGT, lists_len, ints_len, q1, q2, q3, q4, q5, q6, q7, p2, r2, hrow, callE, resSV, AV.flat, CV.flat, TV.flat]; clear hgb)
               | simp only [go_sem, Int.reduceToNat, ↓reduceIte, reduceCtorEq, Nat.reduceEqDiff, Nat.reduceAdd, Nat.reduceMul, Nat.reduceLT, Nat.reduceLeDiff, Nat.reduceBEq, Int.reduceBEq, Int.reduceBNe, String.reduceBEq, Int.reduceEq, Int.reduceLT, Int.reduceLE, Int.reduceGE, Int.reduceGT, lists_len, ints_len, q1, q2, q3, q4, q5, q6, q7, p2, r2, hrow, callE, resSV, AV.flat, CV.flat, TV.flat, hAll]
               | refine Or.inl ⟨_, ⟨fun _ _ => rfl, hat⟩, ?_⟩
               | refine ⟨_, ⟨fun _ _ => rfl, hat⟩, ?_⟩
               | refine Or.inl ⟨_, ⟨fun _ _ => rfl, hmul⟩, ?_⟩
               | refine ⟨_, ⟨fun _ _ => rfl, hmul⟩, ?_⟩
               | refine Or.inl ⟨_, ⟨fun _ _ => rfl, had⟩, ?_⟩
               | refine ⟨_, ⟨fun _ _ => rfl, had⟩, ?_⟩
               | (refine ite_guard (fun hg => ?_) (fun hg => ?_) <;> (try simp only [Bool.not_eq_true, Bool.not_eq_false, Decidable.not_not] at hg) <;> (first | have hgb : (_ : Bool) = _ := hg | have hgb := ff hg | have hgb := tt hg))
               | (refine ⟨fun hc => ht _ ?_, fun hc => hf _ ?_⟩ <;> clear ht hf KT KF)
               | fail)
              refine n_loop (k + 1) [0, 1, 2, 9, 10, 11, 12, 13] [127] ⟨?_, hkl, by rw [hc1, hc]; rfl⟩ (by omega)
              simp only [go_sem, Int.reduceToNat, ↓reduceIte, reduceCtorEq, Nat.reduceEqDiff, Nat.reduceAdd, Nat.reduceMul, Nat.reduceLT, Nat.reduceLeDiff, Nat.reduceBEq, Int.reduceBEq, Int.reduceBNe, String.reduceBEq, Int.reduceEq, Int.reduceLT, Int.reduceLE, Int.reduceGE, Int.reduceGT, mk_keep, keepL, List.mem_cons, List.not_mem_nil, Nat.reduceEqDiff, Nat.zero_ne_one, Nat.one_ne_zero, reduceCtorEq, or_false, false_or, or_true, true_or, or_self, eq_self, ↓reduceIte, hc1, hc]
            | false =>
              rw [hok] at had hc
              obtain ⟨rfl, rfl⟩ := Prod.mk.inj (hov1 (by rw [hc]; rfl))
              repeat' (first
               | (with_reducible first | refine s_seq ?_ | refine s_block ?_ | refine s_region fun kr hr => ?_)
               | (with_reducible refine s_text tOk [126, 127, 1000, 1001, 1002, 1003] (by kernel_rfl) (by simp [HeapIn, namers, namerDst, namerOp, namedOp, namedFn, ownLoad, Blk.has, hasRows, hasL, CV.has, hasRows_up, hasM_up, hasRows_append, lists_len, ints_len, q1, q2, q3, q4, q5, q6, q7, p2, r2, hrow]; (try ((repeat' apply And.intro) <;> intros <;> omega))) fun kr hr => ?_)
               | (with_reducible first | refine s_op fun K' hk => ?_ | refine t_op fun K' hk => ?_ | (refine hk _ ?_; clear hk K') | (refine ht _ ?_; clear ht hf KT KF) | (refine hf _ ?_; clear ht hf KT KF) | ((first | refine s_nil ?_ | refine t_nil ?_); refine hr _ ?_; clear hr kr))
               | ((with_reducible refine n_seqK [0, 1, 2, 3, 4, 5, 6, 7, 8, 9, 10, 11, 12, 13, 14, 15, 16, 17, 18, 23, 25, 30, 34, 44, 48, 51, 52, 54, 58, 59, 60, 73, 102, 107, 117] [126, 127] ?_); simp only [mk_keep, keepL, List.mem_cons, List.not_mem_nil, Nat.reduceEqDiff, Nat.zero_ne_one, Nat.one_ne_zero, reduceCtorEq, or_false, false_or, or_true, true_or, or_self, eq_self, ↓reduceIte])
               | (with_reducible first | refine s_cond fun KT KF ht hf => ?_ | refine s_skip ?_)
               | ((with_reducible refine s_long ?_); simp only [List.cons_append, List.nil_append])
               | (with_reducible first | refine s_exit ?_ | refine s_ret ?_ | refine e_seq ?_ | refine r_seq ?_ | refine n_block ?_ | refine e_block ?_ | refine r_block ?_ | refine e_loop ?_ | refine r_loop ?_ | refine e_round ?_ | refine r_round ?_ | refine s_round ?_ | refine f_block ?_ (by decide) | refine r_res ?_ | refine n_res ?_)
               | (simp only [hgb, go_sem, Int.reduceToNat, ↓reduceIte, reduceCtorEq, Nat.reduceEqDiff, Nat.reduceAdd, Nat.reduceMul, Nat.reduceLT, Nat.reduceLeDiff, Nat.reduceBEq, Int.reduceBEq, Int.reduceBNe, String.reduceBEq, Int.reduceEq, Int.reduceLT, Int.reduceLE, Int.reduceGE, Int.reduceGT, lists_len, ints_len, q1, q2, q3, q4, q5, q6, q7, p2, r2, hrow, callE, resSV, AV.flat, CV.flat, TV.flat]; clear hgb)
               | simp only [go_sem, Int.reduceToNat, ↓reduceIte, reduceCtorEq, Nat.reduceEqDiff, Nat.reduceAdd, Nat.reduceMul, Nat.reduceLT, Nat.reduceLeDiff, Nat.reduceBEq, Int.reduceBEq, Int.reduceBNe, String.reduceBEq, Int.reduceEq, Int.reduceLT, Int.reduceLE, Int.reduceGE, Int.reduceGT, lists_len, ints_len, q1, q2, q3, q4, q5, q6, q7, p2, r2, hrow, callE, resSV, AV.flat, CV.flat, TV.flat, hAll]
               | refine Or.inl ⟨_, ⟨fun _ _ => rfl, hat⟩, ?_⟩
               | refine ⟨_, ⟨fun _ _ => rfl, hat⟩, ?_⟩
               | refine Or.inl ⟨_, ⟨fun _ _ => rfl, hmul⟩, ?_⟩
               | refine ⟨_, ⟨fun _ _ => rfl, hmul⟩, ?_⟩
               | refine Or.inl ⟨_, ⟨fun _ _ => rfl, had⟩, ?_⟩
               | refine ⟨_, ⟨fun _ _ => rfl, had⟩, ?_⟩
               | (refine ite_guard (fun hg => ?_) (fun hg => ?_) <;> (try simp only [Bool.not_eq_true, Bool.not_eq_false, Decidable.not_not] at hg) <;> (first | have hgb : (_ : Bool) = _ := hg | have hgb := ff hg | have hgb := tt hg))
               | (refine ⟨fun hc => ht _ ?_, fun hc => hf _ ?_⟩ <;> clear ht hf KT KF)
               | fail)
              all_goals rfl
        · have r1 := ff he0
          obtain ⟨rfl, rfl⟩ := Prod.mk.inj (hov1 (by rw [hc]; simp [he0]))
          repeat' (first
           | (with_reducible first | refine s_seq ?_ | refine s_block ?_ | refine s_region fun kr hr => ?_)
           | (with_reducible refine s_text tOk [126, 127, 1000, 1001, 1002, 1003] (by kernel_rfl) (by simp [HeapIn, namers, namerDst, namerOp, namedOp, namedFn, ownLoad, Blk.has, hasRows, hasL, CV.has, hasRows_up, hasM_up, hasRows_append, lists_len, ints_len, q1, q2, q3, q4, q5, q6, q7, p2, r1, hrow]; (try ((repeat' apply And.intro) <;> intros <;> omega))) fun kr hr => ?_)
           | (with_reducible first | refine s_op fun K' hk => ?_ | refine t_op fun K' hk => ?_ | (refine hk _ ?_; clear hk K') | (refine ht _ ?_; clear ht hf KT KF) | (refine hf _ ?_; clear ht hf KT KF) | ((first | refine s_nil ?_ | refine t_nil ?_); refine hr _ ?_; clear hr kr))
           | ((with_reducible refine n_seqK [0, 1, 2, 3, 4, 5, 6, 7, 8, 9, 10, 11, 12, 13, 14, 15, 16, 17, 18, 23, 25, 30, 34, 44, 48, 51, 52, 54, 58, 59, 60, 73, 102, 107, 117] [126, 127] ?_); simp only [mk_keep, keepL, List.mem_cons, List.not_mem_nil, Nat.reduceEqDiff, Nat.zero_ne_one, Nat.one_ne_zero, reduceCtorEq, or_false, false_or, or_true, true_or, or_self, eq_self, ↓reduceIte])
           | (with_reducible first | refine s_cond fun KT KF ht hf => ?_ | refine s_skip ?_)
           | ((with_reducible refine s_long ?_); simp only [List.cons_append, List.nil_append])
           | (with_reducible first | refine s_exit ?_ | refine s_ret ?_ | refine e_seq ?_ | refine r_seq ?_ | refine n_block ?_ | refine e_block ?_ | refine r_block ?_ | refine e_loop ?_ | refine r_loop ?_ | refine e_round ?_ | refine r_round ?_ | refine s_round ?_ | refine f_block ?_ (by decide) | refine r_res ?_ | refine n_res ?_)
           | (simp only [hgb, go_sem, Int.reduceToNat, ↓reduceIte, reduceCtorEq, Nat.reduceEqDiff, Nat.reduceAdd, Nat.reduceMul, Nat.reduceLT, Nat.reduceLeDiff, Nat.reduceBEq, Int.reduceBEq, Int.reduceBNe, String.reduceBEq, Int.reduceEq, Int.reduceLT, Int.reduceLE, Int.reduceGE, Int.reduceGT, lists_len, ints_len, q1, q2, q3, q4, q5, q6, q7, p2, r1, hrow, callE, resSV, AV.flat, CV.flat, TV.flat]; clear hgb)
           | simp only [go_sem, Int.reduceToNat, ↓reduceIte, reduceCtorEq, Nat.reduceEqDiff, Nat.reduceAdd, Nat.reduceMul, Nat.reduceLT, Nat.reduceLeDiff, Nat.reduceBEq, Int.reduceBEq, Int.reduceBNe, String.reduceBEq, Int.reduceEq, Int.reduceLT, Int.reduceLE, Int.reduceGE, Int.reduceGT, lists_len, ints_len, q1, q2, q3, q4, q5, q6, q7, p2, r1, hrow, callE, resSV, AV.flat, CV.flat, TV.flat, hAll]
           | refine Or.inl ⟨_, ⟨fun _ _ => rfl, hat⟩, ?_⟩
           | refine ⟨_, ⟨fun _ _ => rfl, hat⟩, ?_⟩
           | refine Or.inl ⟨_, ⟨fun _ _ => rfl, hmul⟩, ?_⟩
           | refine ⟨_, ⟨fun _ _ => rfl, hmul⟩, ?_⟩
           | (refine ite_guard (fun hg => ?_) (fun hg => ?_) <;> (try simp only [Bool.not_eq_true, Bool.not_eq_false, Decidable.not_not] at hg) <;> (first | have hgb : (_ : Bool) = _ := hg | have hgb := ff hg | have hgb := tt hg))
           | (refine ⟨fun hc => ht _ ?_, fun hc => hf _ ?_⟩ <;> clear ht hf KT KF)
           | fail)
          all_goals rfl
    · obtain rfl : k = ls.length := by omega
      have q1 := nltI hkl
      have b3 := tt (show (O.length + 1) * 16 ≤ 140737488355328 by omega)
      have b4 := tt (show O.length ≤ 9223372036854775806 by omega)
      have e0 : (hrows O).length = O.length := hrows_len O
      have e1 : (up (hrows O)).take O.length = up (hrows O) := List.take_of_length_le (by rw [up_length]; omega)
      obtain ⟨n, hn1⟩ : ∃ n, (cB ls ms ws i ls.length).1 = n := ⟨_, rfl⟩
      rw [hn1] at htk ⊢
      have e2 : up (hrows O) ++ [[.t (.int .i64 i), .t (.int .i64 n)]] = up (hrows O') := by rw [htk]; simp [up, hrows, hrow]
      have e3 : (hrows O').length = O.length + 1 := by rw [hrows_len, htk]; simp
      have e4 := tt (Nat.le_refl O.length)
      subst hlj
      repeat' (first
       | (with_reducible first | refine s_seq ?_ | refine s_block ?_ | refine s_region fun kr hr => ?_)
       | (with_reducible refine s_text tOk [126, 127, 1000, 1001, 1002, 1003] (by kernel_rfl) (by simp [HeapIn, namers, namerDst, namerOp, namedOp, namedFn, ownLoad, Blk.has, hasRows, hasL, CV.has, hasRows_up, hasM_up, hasRows_append, lists_len, ints_len, q1, p1, p2, p3, b3, b4, e0, e1, e2, e3, e4]; (try ((repeat' apply And.intro) <;> intros <;> omega))) fun kr hr => ?_)
       | (with_reducible first | refine s_op fun K' hk => ?_ | refine t_op fun K' hk => ?_ | (refine hk _ ?_; clear hk K') | (refine ht _ ?_; clear ht hf KT KF) | (refine hf _ ?_; clear ht hf KT KF) | ((first | refine s_nil ?_ | refine t_nil ?_); refine hr _ ?_; clear hr kr))
       | ((with_reducible refine n_seqK [0, 1, 2, 3, 4, 5, 6, 7, 8, 9, 10, 11, 12, 13, 14, 15, 16, 17, 18, 23, 25, 30, 34, 44, 48, 51, 52, 54, 58, 59, 60, 73, 102, 107, 117] [126, 127] ?_); simp only [mk_keep, keepL, List.mem_cons, List.not_mem_nil, Nat.reduceEqDiff, Nat.zero_ne_one, Nat.one_ne_zero, reduceCtorEq, or_false, false_or, or_true, true_or, or_self, eq_self, ↓reduceIte])
       | (with_reducible first | refine s_cond fun KT KF ht hf => ?_ | refine s_skip ?_)
       | ((with_reducible refine s_long ?_); simp only [List.cons_append, List.nil_append])
       | (with_reducible first | refine s_exit ?_ | refine s_ret ?_ | refine e_seq ?_ | refine r_seq ?_ | refine n_block ?_ | refine e_block ?_ | refine r_block ?_ | refine e_loop ?_ | refine r_loop ?_ | refine e_round ?_ | refine r_round ?_ | refine s_round ?_ | refine f_block ?_ (by decide) | refine r_res ?_ | refine n_res ?_)
       | (simp only [hgb, go_sem, Int.reduceToNat, ↓reduceIte, reduceCtorEq, Nat.reduceEqDiff, Nat.reduceAdd, Nat.reduceMul, Nat.reduceLT, Nat.reduceLeDiff, Nat.reduceBEq, Int.reduceBEq, Int.reduceBNe, String.reduceBEq, Int.reduceEq, Int.reduceLT, Int.reduceLE, Int.reduceGE, Int.reduceGT, lists_len, ints_len, q1, p1, p2, p3, b3, b4, e0, e1, e2, e3, e4]; clear hgb)
       | simp only [go_sem, Int.reduceToNat, ↓reduceIte, reduceCtorEq, Nat.reduceEqDiff, Nat.reduceAdd, Nat.reduceMul, Nat.reduceLT, Nat.reduceLeDiff, Nat.reduceBEq, Int.reduceBEq, Int.reduceBNe, String.reduceBEq, Int.reduceEq, Int.reduceLT, Int.reduceLE, Int.reduceGE, Int.reduceGT, lists_len, ints_len, q1, p1, p2, p3, b3, b4, e0, e1, e2, e3, e4, hAll]
       | (refine ite_guard (fun hg => ?_) (fun hg => ?_) <;> (try simp only [Bool.not_eq_true, Bool.not_eq_false, Decidable.not_not] at hg) <;> (first | have hgb : (_ : Bool) = _ := hg | have hgb := ff hg | have hgb := tt hg))
       | (refine ⟨fun hc => ht _ ?_, fun hc => hf _ ?_⟩ <;> clear ht hf KT KF)
       | fail)
      refine n_loop (O.length + 1) [0, 1, 2, 9, 10, 11] [127] ⟨?_, hjl, ?_⟩ (by omega)
      · simp only [go_sem, Int.reduceToNat, ↓reduceIte, reduceCtorEq, Nat.reduceEqDiff, Nat.reduceAdd, Nat.reduceMul, Nat.reduceLT, Nat.reduceLeDiff, Nat.reduceBEq, Int.reduceBEq, Int.reduceBNe, String.reduceBEq, Int.reduceEq, Int.reduceLT, Int.reduceLE, Int.reduceGE, Int.reduceGT, mk_keep, keepL, List.mem_cons, List.not_mem_nil, Nat.reduceEqDiff, Nat.zero_ne_one, Nat.one_ne_zero, reduceCtorEq, or_false, false_or, or_true, true_or, or_self, eq_self, ↓reduceIte, hO']
      · intro x hx
        rcases htm x hx with h | rfl
        · exact hno x h
        · exact hcf
  · obtain rfl : j = idl9.length := by omega
    have p1 := nltI hjl
    rw [List.take_length] at *
    have hRR := hnover hno
    obtain ⟨O, hO⟩ : ∃ O, idl9.map (fun i => (i, (cB ls ms ws i ls.length).1)) = O := ⟨_, rfl⟩
    rw [hO] at hRR
    rw [hO] at hlj ⊢
    obtain ⟨rfl, rfl⟩ := Prod.mk.inj hRR
    have hso := rsort_spec 2 O (by omega)
    rw [if_pos (by decide)] at hso
    have e0 : (hrows O).length = O.length := hrows_len O
    have e1 : (hrows O).take O.length = hrows O := List.take_of_length_le (by omega)
    have e4 := tt (Nat.le_refl O.length)
    have e5 : (ints idl9).length = O.length := by rw [ints_len]; omega
    have p1 := nltI (show ¬ O.length < O.length by omega)
    rw [← hlj]
    repeat' (first
     | ((with_reducible_and_instances refine s_frz 127 rfl (viewRows_up _) ?_); simp only [del, mapV, SV.frz, CV.frz, hasA, AV.has, CV.has, List.drop_zero, List.map_cons, List.map_nil, Nat.zero_add, Nat.reduceEqDiff, Nat.reduceLeDiff, Nat.le_refl, ↓reduceIte, Bool.false_eq_true, p1, e0, e1, e4, e5, ints_len])
     | (with_reducible first | refine s_seq ?_ | refine s_block ?_ | refine s_region fun kr hr => ?_)
     | (with_reducible refine s_text tOk [126, 127, 1000, 1001, 1002, 1003] (by kernel_rfl) (by simp [HeapIn, namers, namerDst, namerOp, namedOp, namedFn, ownLoad, Blk.has, hasRows, hasL, CV.has, hasRows_up, hasM_up, hasRows_append, p1, e0, e1, e4, e5, ints_len]; (try ((repeat' apply And.intro) <;> intros <;> omega))) fun kr hr => ?_)
     | (with_reducible first | refine s_op fun K' hk => ?_ | refine t_op fun K' hk => ?_ | (refine hk _ ?_; clear hk K') | (refine ht _ ?_; clear ht hf KT KF) | (refine hf _ ?_; clear ht hf KT KF) | ((first | refine s_nil ?_ | refine t_nil ?_); refine hr _ ?_; clear hr kr))
     | ((with_reducible refine n_seqK [0, 1, 2, 3, 4, 5, 6, 7, 8, 9, 10, 11, 12, 13, 14, 15, 16, 17, 18, 23, 25, 30, 34, 44, 48, 51, 52, 54, 58, 59, 60, 73, 102, 107, 117] [126, 127] ?_); simp only [mk_keep, keepL, List.mem_cons, List.not_mem_nil, Nat.reduceEqDiff, Nat.zero_ne_one, Nat.one_ne_zero, reduceCtorEq, or_false, false_or, or_true, true_or, or_self, eq_self, ↓reduceIte])
     | (with_reducible first | refine s_cond fun KT KF ht hf => ?_ | refine s_skip ?_)
     | ((with_reducible refine s_long ?_); simp only [List.cons_append, List.nil_append])
     | (with_reducible first | refine s_exit ?_ | refine s_ret ?_ | refine e_seq ?_ | refine r_seq ?_ | refine n_block ?_ | refine e_block ?_ | refine r_block ?_ | refine e_loop ?_ | refine r_loop ?_ | refine e_round ?_ | refine r_round ?_ | refine s_round ?_ | refine f_block ?_ (by decide) | refine r_res ?_ | refine n_res ?_)
     | (simp only [hgb, go_sem, Int.reduceToNat, ↓reduceIte, reduceCtorEq, Nat.reduceEqDiff, Nat.reduceAdd, Nat.reduceMul, Nat.reduceLT, Nat.reduceLeDiff, Nat.reduceBEq, Int.reduceBEq, Int.reduceBNe, String.reduceBEq, Int.reduceEq, Int.reduceLT, Int.reduceLE, Int.reduceGE, Int.reduceGT, p1, e0, e1, e4, e5, ints_len, callE, resSV, AV.flat, CV.flat, TV.flat]; clear hgb)
     | simp only [go_sem, Int.reduceToNat, ↓reduceIte, reduceCtorEq, Nat.reduceEqDiff, Nat.reduceAdd, Nat.reduceMul, Nat.reduceLT, Nat.reduceLeDiff, Nat.reduceBEq, Int.reduceBEq, Int.reduceBNe, String.reduceBEq, Int.reduceEq, Int.reduceLT, Int.reduceLE, Int.reduceGE, Int.reduceGT, p1, e0, e1, e4, e5, ints_len, callE, resSV, AV.flat, CV.flat, TV.flat, hAll]
     | refine Or.inl ⟨_, ⟨fun _ _ => rfl, hso⟩, ?_⟩
     | refine ⟨_, ⟨fun _ _ => rfl, hso⟩, ?_⟩
     | (refine ite_guard (fun hg => ?_) (fun hg => ?_) <;> (try simp only [Bool.not_eq_true, Bool.not_eq_false, Decidable.not_not] at hg) <;> (first | have hgb : (_ : Bool) = _ := hg | have hgb := ff hg | have hgb := tt hg))
     | (refine ⟨fun hc => ht _ ?_, fun hc => hf _ ?_⟩ <;> clear ht hf KT KF)
     | fail)
end Go.Proofs.Ytgmjgognpabmdaa.Fx
