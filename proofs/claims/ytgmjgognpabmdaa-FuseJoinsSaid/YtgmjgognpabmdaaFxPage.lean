/- A part of a ranking. -/
import Derived.Test.YtgmjgognpabmdaaFxAwake25
import Derived.Test.YtgmjgognpabmdaaFxClone
-- ren_map
namespace Go.Proofs.Ytgmjgognpabmdaa.Fx
open Go Go.RowKit
set_option maxRecDepth 100000
set_option linter.unusedSimpArgs false
set_option linter.unusedVariables false
/-- From where, and how many. -/
def pgO (n : Nat) (o : Int) : Nat := (max 0 (min o n)).toNat
def pgN (n : Nat) (o k : Int) : Nat := (max 0 (min k (n - pgO n o))).toNat
def pageL (l : List Ht) (o k : Int) : List Ht := (l.take (pgO l.length o + pgN l.length o k)).drop (pgO l.length o)
theorem page_named (l : List Ht) (o k : Int) (hl : l.length * 16 ≤ 140737488355328) : Spec Try.prog 34 [.v (.t (.sl 2 (hrows l))), .v (.t (.int .i64 o)), .v (.t (.int .i64 k))] [] [.v (.mr 24 0 (pageL l o k).length)] [(24, listB (pageL l o k))] := by
  have hPl : (pageL l o k).length ≤ l.length := by simp [pageL]; omega
  have hc := clone_any_t (pageL l o k) (by omega)
  obtain ⟨a1, h1⟩ : ∃ a, (if (l.length : Int) < o then (l.length : Int) else o) = a := ⟨_, rfl⟩
  have h2 : (if a1 > 0 then a1 else 0) = (pgO l.length o : Int) := by unfold pgO; rw [← h1]; omega
  have hO : pgO l.length o ≤ l.length := by unfold pgO; omega
  have h3 : IntKind.wrap .i64 ((l.length : Int) - pgO l.length o) = (l.length : Int) - pgO l.length o := wI (by omega) (by omega)
  obtain ⟨a2, h4⟩ : ∃ a, (if (l.length : Int) - pgO l.length o < k then (l.length : Int) - pgO l.length o else k) = a := ⟨_, rfl⟩
  have h5 : (if a2 > 0 then a2 else 0) = (pgN l.length o k : Int) := by unfold pgN; rw [← h4]; omega
  have hN : pgO l.length o + pgN l.length o k ≤ l.length := by unfold pgN; omega
  have h6 : IntKind.wrap .i64 ((pgO l.length o : Int) + pgN l.length o k) = ((pgO l.length o + pgN l.length o k : Nat) : Int) := by rw [wI (by omega) (by omega)]; omega
  have h7 := tt hN
  have h8 := tt (show pgO l.length o ≤ pgO l.length o + pgN l.length o k by omega)
  have h9 : ((hrows l).take (pgO l.length o + pgN l.length o k)).drop (pgO l.length o) = hrows (pageL l o k) := by simp [hrows, pageL, List.map_take, List.map_drop]
  generalize pgO l.length o = O at *
  generalize pgN l.length o k = N at *
  generalize pageL l o k = P at *
  refine spec_by Try.func34 rfl mixed tOk evOk (n := 25) rfl (by simp) (by simp) ?_
  rw [initSt_mk, show Try.f34.results.toList = [.tmp 6] from rfl]
  simp only [initL, AV.sv, List.map_cons, List.map_nil, Nat.reduceAdd, Nat.zero_add]
  repeat' (first
   | (with_reducible first | refine s_seq ?_ | refine s_block ?_ | refine s_region fun kr hr => ?_)
   | (with_reducible refine s_text tOk [24, 1000, 1001, 1002, 1003] (by kernel_rfl) (by simp [HeapIn, namers, namerDst, namerOp, namedOp, namedFn, ownLoad, Blk.has, hasRows, hasL, CV.has, hasRows_up, hasM_up, hasRows_append, hrows_len, listB, h1, h2, h3, h4, h5, h6, h7, h8, h9]; (try ((repeat' apply And.intro) <;> intros <;> omega))) fun kr hr => ?_)
   | (with_reducible first | refine s_op fun K' hk => ?_ | refine t_op fun K' hk => ?_ | (refine hk _ ?_; clear hk K') | (refine ht _ ?_; clear ht hf KT KF) | (refine hf _ ?_; clear ht hf KT KF) | ((first | refine s_nil ?_ | refine t_nil ?_); refine hr _ ?_; clear hr kr))
   | ((with_reducible refine n_seqK [0, 1, 2, 3, 4, 5, 6] [24] ?_); simp only [mk_keep, keepL, List.mem_cons, List.not_mem_nil, Nat.reduceEqDiff, Nat.zero_ne_one, Nat.one_ne_zero, reduceCtorEq, or_false, false_or, or_true, true_or, or_self, eq_self, ↓reduceIte])
   | (with_reducible first | refine s_cond fun KT KF ht hf => ?_ | refine s_skip ?_)
   | ((with_reducible refine s_long ?_); simp only [List.cons_append, List.nil_append])
   | (with_reducible first | refine s_exit ?_ | refine s_ret ?_ | refine e_seq ?_ | refine r_seq ?_ | refine n_block ?_ | refine e_block ?_ | refine r_block ?_ | refine e_loop ?_ | refine r_loop ?_ | refine e_round ?_ | refine r_round ?_ | refine s_round ?_ | refine f_block ?_ (by decide) | refine r_res ?_ | refine n_res ?_)
   | (simp only [hgb, go_sem, Int.reduceToNat, ↓reduceIte, reduceCtorEq, Nat.reduceEqDiff, Nat.reduceAdd, Nat.reduceMul, Nat.reduceLT, Nat.reduceLeDiff, Nat.reduceBEq, Int.reduceBEq, Int.reduceBNe, String.reduceBEq, Int.reduceEq, Int.reduceLT, Int.reduceLE, Int.reduceGE, Int.reduceGT, hrows_len, listB, h1, h2, h3, h4, h5, h6, h7, h8, h9, callE, resSV, AV.flat, CV.flat, TV.flat]; clear hgb)
   | simp only [go_sem, Int.reduceToNat, ↓reduceIte, reduceCtorEq, Nat.reduceEqDiff, Nat.reduceAdd, Nat.reduceMul, Nat.reduceLT, Nat.reduceLeDiff, Nat.reduceBEq, Int.reduceBEq, Int.reduceBNe, String.reduceBEq, Int.reduceEq, Int.reduceLT, Int.reduceLE, Int.reduceGE, Int.reduceGT, hrows_len, listB, h1, h2, h3, h4, h5, h6, h7, h8, h9, callE, resSV, AV.flat, CV.flat, TV.flat, hAll]
   | refine Or.inr (m_callN [(7,24)] [] [7] [24] [] ⟨fun _ _ => rfl, hc⟩ rfl rfl (by first | (simp [avren_v, avren_a, CV.ren, renL, renL_map, tbl, listB]; done) | fail) rfl rfl rfl rfl (by decide) (by first | (simp [hAll, hRen, mk_heap, hL, tbl, Blk.ren, renRows_up, ren_up, renRows, renL, CV.ren, listB]; done) | fail) (by first | (simp [Blk.has, hasRows, hasL, CV.has, hasRows_up, hasM_up, listB]; done) | fail) (by first | (intro k; simp [hasA, AV.has, CV.has, hasL, Blk.has, hasRows, hasRows_up, hasM_up, listB]; done) | (intro k; simp [hasA, AV.has, CV.has, hasL, Blk.has, hasRows, hasRows_up, hasM_up, listB]; omega) | fail) ?_)
   | refine (m_callN [(7,24)] [] [7] [24] [] ⟨fun _ _ => rfl, hc⟩ rfl rfl (by first | (simp [avren_v, avren_a, CV.ren, renL, renL_map, tbl, listB]; done) | fail) rfl rfl rfl rfl (by decide) (by first | (simp [hAll, hRen, mk_heap, hL, tbl, Blk.ren, renRows_up, ren_up, renRows, renL, CV.ren, listB]; done) | fail) (by first | (simp [Blk.has, hasRows, hasL, CV.has, hasRows_up, hasM_up, listB]; done) | fail) (by first | (intro k; simp [hasA, AV.has, CV.has, hasL, Blk.has, hasRows, hasRows_up, hasM_up, listB]; done) | (intro k; simp [hasA, AV.has, CV.has, hasL, Blk.has, hasRows, hasRows_up, hasM_up, listB]; omega) | fail) ?_)
   | (refine ite_guard (fun hg => ?_) (fun hg => ?_) <;> (try simp only [Bool.not_eq_true, Bool.not_eq_false, Decidable.not_not] at hg) <;> (first | have hgb : (_ : Bool) = _ := hg | have hgb := ff hg | have hgb := tt hg))
   | (refine ⟨fun hc => ht _ ?_, fun hc => hf _ ?_⟩ <;> clear ht hf KT KF)
   | fail)
theorem page_tree (l : List Ht) (o k : Int) (hl : l.length * 16 ≤ 140737488355328) : Spec Try.prog 34 [.v (.t (.sl 2 (hrows l))), .v (.t (.int .i64 o)), .v (.t (.int .i64 k))] [] [.v (.t (.sl 2 (hrows (pageL l o k))))] [] := by
  have h := page_named l o k hl
  have e : (pageL l o k).length = (up (hrows (pageL l o k))).length := by simp [up, hrows]
  rw [listB, e] at h
  exact Spec.tree h (viewRows_up _)
theorem page_len {l : List Ht} {o k : Int} : (pageL l o k).length = pgN l.length o k := by
  have hN : pgO l.length o + pgN l.length o k ≤ l.length := by unfold pgN pgO; omega
  simp only [pageL, List.length_drop, List.length_take]; omega
theorem page_succ {l : List Ht} {o k : Int} {j : Nat} (h : j < pgN l.length o k) : ∃ h2 : pgO l.length o + j < l.length, (pageL l o k).take (j + 1) = (pageL l o k).take j ++ [l[pgO l.length o + j]] := by
  have hN : pgO l.length o + pgN l.length o k ≤ l.length := by unfold pgN pgO; omega
  refine ⟨by omega, ?_⟩
  rw [List.take_succ_eq_append_getElem (by rw [page_len]; exact h)]
  simp only [pageL, List.getElem_drop, List.getElem_take]
theorem rpage_spec (l : List Ht) (o k : Int) (ho : In64 o) (hl : l.length * 16 ≤ 140737488355328) : Spec Try.prog 35 [.v (.t (.sl 2 (hrows l))), .v (.t (.int .i64 o)), .v (.t (.int .i64 k))] [] [.v (.t (.sl 2 (hrows (pageL l o k))))] [] := by
  have h1 : (if (0 : Int) > o then 0 else o) = (o.toNat : Int) := by omega
  have h2 : (if (0 : Int) > k then 0 else k) = (k.toNat : Int) := by omega
  have hA : o.toNat ≤ 9223372036854775807 := by have := ho.2; omega
  have hp1 : pgN l.length o k = min k.toNat (l.length - o.toNat) := by unfold pgN pgO; omega
  have hp2 : pgN l.length o k ≠ 0 → pgO l.length o = o.toNat := by unfold pgN pgO; omega
  generalize o.toNat = A at *
  generalize k.toNat = B at *
  refine spec_by Try.func35 rfl mixed tOk evOk (n := 34) rfl (by simp) (by simp) ?_
  rw [initSt_mk, show Try.f35.results.toList = [.tmp 6] from rfl]
  simp only [initL, AV.sv, List.map_cons, List.map_nil, Nat.reduceAdd, Nat.zero_add]
  repeat' (first
   | (with_reducible first | refine s_seq ?_ | refine s_block ?_ | refine s_region fun kr hr => ?_)
   | (with_reducible refine s_text tOk [31, 32, 1000, 1001, 1002, 1003] (by kernel_rfl) (by simp [HeapIn, namers, namerDst, namerOp, namedOp, namedFn, ownLoad, Blk.has, hasRows, hasL, CV.has, hasRows_up, hasM_up, hasRows_append, h1, h2]; (try ((repeat' apply And.intro) <;> intros <;> omega))) fun kr hr => ?_)
   | (with_reducible first | refine s_op fun K' hk => ?_ | refine t_op fun K' hk => ?_ | (refine hk _ ?_; clear hk K') | (refine ht _ ?_; clear ht hf KT KF) | (refine hf _ ?_; clear ht hf KT KF) | ((first | refine s_nil ?_ | refine t_nil ?_); refine hr _ ?_; clear hr kr))
   | ((with_reducible refine n_seqK [0, 1, 2, 3, 4, 5, 6, 7, 8, 23, 25] [31, 32] ?_); simp only [mk_keep, keepL, List.mem_cons, List.not_mem_nil, Nat.reduceEqDiff, Nat.zero_ne_one, Nat.one_ne_zero, reduceCtorEq, or_false, false_or, or_true, true_or, or_self, eq_self, ↓reduceIte])
   | (with_reducible first | refine s_cond fun KT KF ht hf => ?_ | refine s_skip ?_)
   | ((with_reducible refine s_long ?_); simp only [List.cons_append, List.nil_append])
   | (with_reducible first | refine s_exit ?_ | refine s_ret ?_ | refine e_seq ?_ | refine r_seq ?_ | refine n_block ?_ | refine e_block ?_ | refine r_block ?_ | refine e_loop ?_ | refine r_loop ?_ | refine e_round ?_ | refine r_round ?_ | refine s_round ?_ | refine f_block ?_ (by decide) | refine r_res ?_ | refine n_res ?_)
   | (simp only [hgb, go_sem, Int.reduceToNat, ↓reduceIte, reduceCtorEq, Nat.reduceEqDiff, Nat.reduceAdd, Nat.reduceMul, Nat.reduceLT, Nat.reduceLeDiff, Nat.reduceBEq, Int.reduceBEq, Int.reduceBNe, String.reduceBEq, Int.reduceEq, Int.reduceLT, Int.reduceLE, Int.reduceGE, Int.reduceGT, h1, h2]; clear hgb)
   | simp only [go_sem, Int.reduceToNat, ↓reduceIte, reduceCtorEq, Nat.reduceEqDiff, Nat.reduceAdd, Nat.reduceMul, Nat.reduceLT, Nat.reduceLeDiff, Nat.reduceBEq, Int.reduceBEq, Int.reduceBNe, String.reduceBEq, Int.reduceEq, Int.reduceLT, Int.reduceLE, Int.reduceGE, Int.reduceGT, h1, h2, hAll]
   | (refine ite_guard (fun hg => ?_) (fun hg => ?_) <;> (try simp only [Bool.not_eq_true, Bool.not_eq_false, Decidable.not_not] at hg) <;> (first | have hgb : (_ : Bool) = _ := hg | have hgb := ff hg | have hgb := tt hg))
   | (refine ⟨fun hc => ht _ ?_, fun hc => hf _ ?_⟩ <;> clear ht hf KT KF)
   | fail)
  refine w_loopG _ (gho_nilName (s := 7) (d := 32) (sz := 2) (by decide) ⟨2, rfl⟩ (by rw [fresh_t]; exact trivial; rfl)) ?_
  rw [mk_nilName]
  refine w_loop [0, 1, 2, 7, 8] [32] (σ := Nat) (fun j st => st = mk [(0, V (.sl 2 (hrows l))), (1, I A), (2, I B), (7, .c (.mr 32 0 j)), (8, I (A + j : Nat))] [(32, .cells 2 (up (hrows ((pageL l o k).take j))))] ∧ j ≤ pgN l.length o k) (fun j => pgN l.length o k - j) 0 ?_ ?_
  · refine ⟨?_, Nat.zero_le _⟩
    simp only [go_sem, Int.reduceToNat, ↓reduceIte, reduceCtorEq, Nat.reduceEqDiff, Nat.reduceAdd, Nat.reduceMul, Nat.reduceLT, Nat.reduceLeDiff, Nat.reduceBEq, Int.reduceBEq, Int.reduceBNe, String.reduceBEq, Int.reduceEq, Int.reduceLT, Int.reduceLE, Int.reduceGE, Int.reduceGT, mk_keep, keepL, List.mem_cons, List.not_mem_nil, Nat.reduceEqDiff, Nat.zero_ne_one, Nat.one_ne_zero, reduceCtorEq, or_false, false_or, or_true, true_or, or_self, eq_self, ↓reduceIte]
    try rfl
  rintro j st' ⟨rfl, hj⟩
  have hrl : (hrows l).length = l.length := hrows_len l
  have hlj : (hrows ((pageL l o k).take j)).length = j := by rw [hrows_len, List.length_take, page_len]; omega
  have htk : (up (hrows ((pageL l o k).take j))).take j = up (hrows ((pageL l o k).take j)) := List.take_of_length_le (by rw [up_length]; omega)
  by_cases hlt : j < pgN l.length o k
  · obtain ⟨hx, hs⟩ := page_succ hlt
    have hO := hp2 (by omega)
    have f1 := tt (show ((A + j : Nat) : Int) < l.length by omega)
    have f2 := tt (show (j : Int) < B by omega)
    have f3 : (hrows l)[A + j]? = some (hrow l[pgO l.length o + j]) := by rw [hrows_get, ← hO, get_of_lt hx]; rfl
    have f4 : IntKind.wrap .i64 (((A + j : Nat) : Int) + 1) = ((A + (j + 1) : Nat) : Int) := by rw [wI (by omega) (by omega)]; omega
    have b3 := tt (show (j + 1) * 16 ≤ 140737488355328 by omega)
    have b4 := tt (show j ≤ 9223372036854775806 by omega)
    have hus : up (hrows ((pageL l o k).take j)) ++ [[.t (.int .i64 l[pgO l.length o + j].1), .t (.int .i64 l[pgO l.length o + j].2)]] = up (hrows ((pageL l o k).take (j + 1))) := by
      rw [hs]; simp [up, hrows, hrow]
    have hl2 : (hrows ((pageL l o k).take (j + 1))).length = j + 1 := by rw [hrows_len, List.length_take, page_len]; omega
    repeat' (first
     | (with_reducible first | refine s_seq ?_ | refine s_block ?_ | refine s_region fun kr hr => ?_)
     | (with_reducible refine s_text tOk [31, 32, 1000, 1001, 1002, 1003] (by kernel_rfl) (by simp [HeapIn, namers, namerDst, namerOp, namedOp, namedFn, ownLoad, Blk.has, hasRows, hasL, CV.has, hasRows_up, hasM_up, hasRows_append, f1, f2, f3, f4, hrl, hrow, hlj, htk, b3, b4, hus, hl2]; (try ((repeat' apply And.intro) <;> intros <;> omega))) fun kr hr => ?_)
     | (with_reducible first | refine s_op fun K' hk => ?_ | refine t_op fun K' hk => ?_ | (refine hk _ ?_; clear hk K') | (refine ht _ ?_; clear ht hf KT KF) | (refine hf _ ?_; clear ht hf KT KF) | ((first | refine s_nil ?_ | refine t_nil ?_); refine hr _ ?_; clear hr kr))
     | ((with_reducible refine n_seqK [0, 1, 2, 3, 4, 5, 6, 7, 8, 23, 25] [31, 32] ?_); simp only [mk_keep, keepL, List.mem_cons, List.not_mem_nil, Nat.reduceEqDiff, Nat.zero_ne_one, Nat.one_ne_zero, reduceCtorEq, or_false, false_or, or_true, true_or, or_self, eq_self, ↓reduceIte])
     | (with_reducible first | refine s_cond fun KT KF ht hf => ?_ | refine s_skip ?_)
     | ((with_reducible refine s_long ?_); simp only [List.cons_append, List.nil_append])
     | (with_reducible first | refine s_exit ?_ | refine s_ret ?_ | refine e_seq ?_ | refine r_seq ?_ | refine n_block ?_ | refine e_block ?_ | refine r_block ?_ | refine e_loop ?_ | refine r_loop ?_ | refine e_round ?_ | refine r_round ?_ | refine s_round ?_ | refine f_block ?_ (by decide) | refine r_res ?_ | refine n_res ?_)
     | (simp only [hgb, go_sem, Int.reduceToNat, ↓reduceIte, reduceCtorEq, Nat.reduceEqDiff, Nat.reduceAdd, Nat.reduceMul, Nat.reduceLT, Nat.reduceLeDiff, Nat.reduceBEq, Int.reduceBEq, Int.reduceBNe, String.reduceBEq, Int.reduceEq, Int.reduceLT, Int.reduceLE, Int.reduceGE, Int.reduceGT, f1, f2, f3, f4, hrl, hrow, hlj, htk, b3, b4, hus, hl2]; clear hgb)
     | simp only [go_sem, Int.reduceToNat, ↓reduceIte, reduceCtorEq, Nat.reduceEqDiff, Nat.reduceAdd, Nat.reduceMul, Nat.reduceLT, Nat.reduceLeDiff, Nat.reduceBEq, Int.reduceBEq, Int.reduceBNe, String.reduceBEq, Int.reduceEq, Int.reduceLT, Int.reduceLE, Int.reduceGE, Int.reduceGT, f1, f2, f3, f4, hrl, hrow, hlj, htk, b3, b4, hus, hl2, hAll]
     | (refine ite_guard (fun hg => ?_) (fun hg => ?_) <;> (try simp only [Bool.not_eq_true, Bool.not_eq_false, Decidable.not_not] at hg) <;> (first | have hgb : (_ : Bool) = _ := hg | have hgb := ff hg | have hgb := tt hg))
     | (refine ⟨fun hc => ht _ ?_, fun hc => hf _ ?_⟩ <;> clear ht hf KT KF)
     | fail)
    refine n_loop (j + 1) [0, 1, 2, 7, 8] [32] ⟨?_, hlt⟩ (by omega)
    simp only [go_sem, Int.reduceToNat, ↓reduceIte, reduceCtorEq, Nat.reduceEqDiff, Nat.reduceAdd, Nat.reduceMul, Nat.reduceLT, Nat.reduceLeDiff, Nat.reduceBEq, Int.reduceBEq, Int.reduceBNe, String.reduceBEq, Int.reduceEq, Int.reduceLT, Int.reduceLE, Int.reduceGE, Int.reduceGT, mk_keep, keepL, List.mem_cons, List.not_mem_nil, Nat.reduceEqDiff, Nat.zero_ne_one, Nat.one_ne_zero, reduceCtorEq, or_false, false_or, or_true, true_or, or_self, eq_self, ↓reduceIte]
  · obtain rfl : j = pgN l.length o k := by omega
    have hfull : (pageL l o k).take (pgN l.length o k) = pageL l o k := List.take_of_length_le (by rw [page_len]; omega)
    rw [hfull] at hlj htk ⊢
    have hlj2 : (hrows (pageL l o k)).take (pgN l.length o k) = hrows (pageL l o k) := List.take_of_length_le (by omega)
    by_cases h3 : A + pgN l.length o k < l.length
    · have f1 := tt (show ((A + pgN l.length o k : Nat) : Int) < l.length by omega)
      have f2 := ff (show ¬ (pgN l.length o k : Int) < B by omega)
      repeat' (first
       | (with_reducible first | refine s_seq ?_ | refine s_block ?_ | refine s_region fun kr hr => ?_)
       | (with_reducible refine s_text tOk [31, 32, 1000, 1001, 1002, 1003] (by kernel_rfl) (by simp [HeapIn, namers, namerDst, namerOp, namedOp, namedFn, ownLoad, Blk.has, hasRows, hasL, CV.has, hasRows_up, hasM_up, hasRows_append, f1, f2, hrl, hlj, htk, hlj2]; (try ((repeat' apply And.intro) <;> intros <;> omega))) fun kr hr => ?_)
       | (with_reducible first | refine s_op fun K' hk => ?_ | refine t_op fun K' hk => ?_ | (refine hk _ ?_; clear hk K') | (refine ht _ ?_; clear ht hf KT KF) | (refine hf _ ?_; clear ht hf KT KF) | ((first | refine s_nil ?_ | refine t_nil ?_); refine hr _ ?_; clear hr kr))
       | ((with_reducible refine n_seqK [0, 1, 2, 3, 4, 5, 6, 7, 8, 23, 25] [31, 32] ?_); simp only [mk_keep, keepL, List.mem_cons, List.not_mem_nil, Nat.reduceEqDiff, Nat.zero_ne_one, Nat.one_ne_zero, reduceCtorEq, or_false, false_or, or_true, true_or, or_self, eq_self, ↓reduceIte])
       | (with_reducible first | refine s_cond fun KT KF ht hf => ?_ | refine s_skip ?_)
       | ((with_reducible refine s_long ?_); simp only [List.cons_append, List.nil_append])
       | (with_reducible first | refine s_exit ?_ | refine s_ret ?_ | refine e_seq ?_ | refine r_seq ?_ | refine n_block ?_ | refine e_block ?_ | refine r_block ?_ | refine e_loop ?_ | refine r_loop ?_ | refine e_round ?_ | refine r_round ?_ | refine s_round ?_ | refine f_block ?_ (by decide) | refine r_res ?_ | refine n_res ?_)
       | (simp only [hgb, go_sem, Int.reduceToNat, ↓reduceIte, reduceCtorEq, Nat.reduceEqDiff, Nat.reduceAdd, Nat.reduceMul, Nat.reduceLT, Nat.reduceLeDiff, Nat.reduceBEq, Int.reduceBEq, Int.reduceBNe, String.reduceBEq, Int.reduceEq, Int.reduceLT, Int.reduceLE, Int.reduceGE, Int.reduceGT, f1, f2, hrl, hlj, htk, hlj2]; clear hgb)
       | simp only [go_sem, Int.reduceToNat, ↓reduceIte, reduceCtorEq, Nat.reduceEqDiff, Nat.reduceAdd, Nat.reduceMul, Nat.reduceLT, Nat.reduceLeDiff, Nat.reduceBEq, Int.reduceBEq, Int.reduceBNe, String.reduceBEq, Int.reduceEq, Int.reduceLT, Int.reduceLE, Int.reduceGE, Int.reduceGT, f1, f2, hrl, hlj, htk, hlj2, hAll]
       | (refine ite_guard (fun hg => ?_) (fun hg => ?_) <;> (try simp only [Bool.not_eq_true, Bool.not_eq_false, Decidable.not_not] at hg) <;> (first | have hgb : (_ : Bool) = _ := hg | have hgb := ff hg | have hgb := tt hg))
       | (refine ⟨fun hc => ht _ ?_, fun hc => hf _ ?_⟩ <;> clear ht hf KT KF)
       | fail)
    · have f1 := ff (show ¬ ((A + pgN l.length o k : Nat) : Int) < l.length by omega)
      repeat' (first
       | (with_reducible first | refine s_seq ?_ | refine s_block ?_ | refine s_region fun kr hr => ?_)
       | (with_reducible refine s_text tOk [31, 32, 1000, 1001, 1002, 1003] (by kernel_rfl) (by simp [HeapIn, namers, namerDst, namerOp, namedOp, namedFn, ownLoad, Blk.has, hasRows, hasL, CV.has, hasRows_up, hasM_up, hasRows_append, f1, hrl, hlj, htk, hlj2]; (try ((repeat' apply And.intro) <;> intros <;> omega))) fun kr hr => ?_)
       | (with_reducible first | refine s_op fun K' hk => ?_ | refine t_op fun K' hk => ?_ | (refine hk _ ?_; clear hk K') | (refine ht _ ?_; clear ht hf KT KF) | (refine hf _ ?_; clear ht hf KT KF) | ((first | refine s_nil ?_ | refine t_nil ?_); refine hr _ ?_; clear hr kr))
       | ((with_reducible refine n_seqK [0, 1, 2, 3, 4, 5, 6, 7, 8, 23, 25] [31, 32] ?_); simp only [mk_keep, keepL, List.mem_cons, List.not_mem_nil, Nat.reduceEqDiff, Nat.zero_ne_one, Nat.one_ne_zero, reduceCtorEq, or_false, false_or, or_true, true_or, or_self, eq_self, ↓reduceIte])
       | (with_reducible first | refine s_cond fun KT KF ht hf => ?_ | refine s_skip ?_)
       | ((with_reducible refine s_long ?_); simp only [List.cons_append, List.nil_append])
       | (with_reducible first | refine s_exit ?_ | refine s_ret ?_ | refine e_seq ?_ | refine r_seq ?_ | refine n_block ?_ | refine e_block ?_ | refine r_block ?_ | refine e_loop ?_ | refine r_loop ?_ | refine e_round ?_ | refine r_round ?_ | refine s_round ?_ | refine f_block ?_ (by decide) | refine r_res ?_ | refine n_res ?_)
       | (simp only [hgb, go_sem, Int.reduceToNat, ↓reduceIte, reduceCtorEq, Nat.reduceEqDiff, Nat.reduceAdd, Nat.reduceMul, Nat.reduceLT, Nat.reduceLeDiff, Nat.reduceBEq, Int.reduceBEq, Int.reduceBNe, String.reduceBEq, Int.reduceEq, Int.reduceLT, Int.reduceLE, Int.reduceGE, Int.reduceGT, f1, hrl, hlj, htk, hlj2]; clear hgb)
       | simp only [go_sem, Int.reduceToNat, ↓reduceIte, reduceCtorEq, Nat.reduceEqDiff, Nat.reduceAdd, Nat.reduceMul, Nat.reduceLT, Nat.reduceLeDiff, Nat.reduceBEq, Int.reduceBEq, Int.reduceBNe, String.reduceBEq, Int.reduceEq, Int.reduceLT, Int.reduceLE, Int.reduceGE, Int.reduceGT, f1, hrl, hlj, htk, hlj2, hAll]
       | (refine ite_guard (fun hg => ?_) (fun hg => ?_) <;> (try simp only [Bool.not_eq_true, Bool.not_eq_false, Decidable.not_not] at hg) <;> (first | have hgb : (_ : Bool) = _ := hg | have hgb := ff hg | have hgb := tt hg))
       | (refine ⟨fun hc => ht _ ?_, fun hc => hf _ ?_⟩ <;> clear ht hf KT KF)
       | fail)
end Go.Proofs.Ytgmjgognpabmdaa.Fx
