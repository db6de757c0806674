/- The heap. -/
import Derived.Test.YtgmjgognpabmdaaFxBest
import Derived.Test.YtgmjgognpabmdaaFxTrim
namespace Go.Proofs.Ytgmjgognpabmdaa.Fx
open Go Go.RowKit
set_option maxRecDepth 100000
set_option linter.unusedSimpArgs false
set_option linter.unusedVariables false
theorem up_app (l : List Ht) (a b : Int) : up (hrows l) ++ [[.t (.int .i64 a), .t (.int .i64 b)]] = up (hrows (l ++ [(a, b)])) := by simp [up, hrows, hrow]
abbrev bh2 (d : Nat) (k m : Int) (l : List Ht) : List (Nat × Blk) := [(1000, boxB m), (d, listB l), (1002, bestB d k m l.length)]
theorem rpush_spec (k m : Int) (l : List Ht) (x : Ht) (hl : (l.length + 1) * 16 ≤ 140737488355328) : Spec Try.prog 105 [.v (.mp 1002 0 2), .v (.ifc 23 true (hcell x))] (bh k m l) [] (bh2 12 k m (l ++ [x])) := by
  obtain ⟨a, b⟩ := x
  have f1 := up_app l a b
  have f2 : (l.length + 1) * 16 ≤ 140737488355328 := hl
  have f3 : (l.length + 1) ≤ 9223372036854775807 := by omega
  have f4 : (l ++ [(a, b)]).length = l.length + 1 := by simp
  refine spec_by Try.func105 rfl mixed tOk evOk (n := 15) rfl (by simp) (by simp) ?_
  rw [initSt_mk, show Try.f105.results.toList = [] from rfl]
  simp only [initL, AV.sv, List.map_cons, List.map_nil, Nat.reduceAdd, Nat.zero_add, boxB, listB, bestB, hcell, f4]
  have f5 : List.take l.length (hrows l) = hrows l := by rw [← hrows_len l, List.take_length]
  have f6 : l.length ≤ 9223372036854775806 := by omega
  repeat' (first
   | (with_reducible first | refine s_seq ?_ | refine s_block ?_ | refine s_region fun kr hr => ?_)
   | (with_reducible refine s_text tOk [11, 12, 1000, 1001, 1002, 1003] (by kernel_rfl) (by simp [HeapIn, namers, namerDst, namerOp, namedOp, namedFn, Blk.has, hasRows, hasL, CV.has, hasRows_up, hasRows_append, boxB, listB, bestB, f1, f2, f3, f4, f5, f6, uph_len, hrows_len, hcell_eq, true_and]; (try ((repeat' apply And.intro) <;> intros <;> omega))) fun kr hr => ?_)
   | (with_reducible first | refine s_op fun K' hk => ?_ | refine t_op fun K' hk => ?_ | (refine hk _ ?_; clear hk K') | (refine ht _ ?_; clear ht hf KT KF) | (refine hf _ ?_; clear ht hf KT KF) | ((first | refine s_nil ?_ | refine t_nil ?_); refine hr _ ?_; clear hr kr))
   | ((with_reducible refine n_seqK [0, 1, 2, 3] [11, 12, 1000, 1001, 1002] ?_); simp only [mk_keep, keepL, List.mem_cons, List.not_mem_nil, Nat.reduceEqDiff, Nat.zero_ne_one, Nat.one_ne_zero, reduceCtorEq, or_false, false_or, or_true, true_or, or_self, eq_self, ↓reduceIte])
   | (with_reducible first | refine s_cond fun KT KF ht hf => ?_ | refine s_skip ?_)
   | ((with_reducible refine s_long ?_); simp only [List.cons_append, List.nil_append])
   | (with_reducible first | refine s_exit ?_ | refine s_ret ?_ | refine e_seq ?_ | refine r_seq ?_ | refine n_block ?_ | refine e_block ?_ | refine r_block ?_ | refine e_loop ?_ | refine r_loop ?_ | refine e_round ?_ | refine r_round ?_ | refine s_round ?_ | refine f_block ?_ (by decide) | refine r_res ?_ | refine n_res ?_)
   | (simp only [hgb, go_sem, Int.reduceToNat, ↓reduceIte, reduceCtorEq, Nat.reduceEqDiff, Nat.reduceAdd, Nat.reduceMul, Nat.reduceLT, Nat.reduceLeDiff, Nat.reduceBEq, Int.reduceBEq, Int.reduceBNe, Int.reduceEq, Int.reduceLT, Int.reduceLE, Int.reduceGE, Int.reduceGT, boxB, listB, bestB, f1, f2, f3, f4, f5, f6, uph_len, hrows_len, hcell_eq, true_and]; clear hgb)
   | simp only [go_sem, Int.reduceToNat, ↓reduceIte, reduceCtorEq, Nat.reduceEqDiff, Nat.reduceAdd, Nat.reduceMul, Nat.reduceLT, Nat.reduceLeDiff, Nat.reduceBEq, Int.reduceBEq, Int.reduceBNe, Int.reduceEq, Int.reduceLT, Int.reduceLE, Int.reduceGE, Int.reduceGT, boxB, listB, bestB, f1, f2, f3, f4, f5, f6, uph_len, hrows_len, hcell_eq, true_and, hAll]
   | (refine ite_guard (fun hg => ?_) (fun hg => ?_) <;> (try simp only [Bool.not_eq_true, Bool.not_eq_false, Decidable.not_not] at hg) <;> (first | have hgb : (_ : Bool) = _ := hg | have hgb := ff hg | have hgb := tt hg))
   | (refine ⟨fun hc => ht _ ?_, fun hc => hf _ ?_⟩ <;> clear ht hf KT KF)
   | fail)
theorem rpop_spec (k m : Int) (l : List Ht) (x : Ht) (hl : l.length < 9223372036854775807) : Spec Try.prog 104 [.v (.mp 1002 0 2)] (bh k m (l ++ [x])) [.v (.ifc 23 true (hcell x))] (bh2 31 k m l) := by
  obtain ⟨a, b⟩ := x
  have f1 : (l ++ [(a, b)])[l.length]? = some (a, b) := by simp
  have f4 : (l ++ [(a, b)]).length = l.length + 1 := by simp
  have f5 : (up (hrows (l ++ [(a, b)]))).take l.length = up (hrows l) := by simp [up, hrows]
  have f6 : ((l.length + 1 : Nat) : Int) - 1 = l.length := by omega
  have f7 : IntKind.i64.wrap (l.length : Int) = l.length := wI (by omega) (by omega)
  have f8 := tt (show (l.length : Int) < ((l.length + 1 : Nat) : Int) by omega)
  have f9 := tt (Nat.le_add_right l.length 1)
  have f10 := tt (Nat.zero_le l.length)
  refine spec_by Try.func104 rfl mixed tOk evOk (n := 32) rfl (by simp) (by simp) ?_
  rw [initSt_mk, show Try.f104.results.toList = [.tmp 2] from rfl]
  simp only [initL, AV.sv, List.map_cons, List.map_nil, Nat.reduceAdd, Nat.zero_add, boxB, listB, bestB, hcell]
  repeat' (first
   | ((with_reducible_and_instances refine s_trim 1002 0 2 1001 31 l.length rfl rfl rfl rfl (by decide) (by decide) (by decide) (by simp [hrows_len, uph_len, boxB, listB, bestB, f1, f4, f6, f7, f8, f9, f10, Nat.sub_zero, true_or, true_and, and_true, f5, hcell_get, uph_len, hcell_eq]) (by simp [freshL, Blk.has, hasRows, hasL, CV.has, hasRows_up, boxB, listB, bestB, f1, f4, f6, f7, f8, f9, f10, Nat.sub_zero, true_or, true_and, and_true, f5, hcell_get, uph_len, hcell_eq]) (by simp [Blk.has, hasRows, hasL, CV.has, hasRows_up, boxB, listB, bestB, f1, f4, f6, f7, f8, f9, f10, Nat.sub_zero, true_or, true_and, and_true, f5, hcell_get, uph_len, hcell_eq]) ?_); simp only [ins, del, mapV, SV.kill, SV.has, CV.has, hasL, hasA, AV.has, List.modify_succ_cons, List.modify_zero_cons, List.modifyHead_cons, List.set_cons_zero, List.set_cons_succ, Nat.reduceBEq, Nat.reduceEqDiff, Nat.reduceLT, Nat.reduceLeDiff, ↓reduceIte, Bool.or_false, Bool.false_or, Bool.false_eq_true, boxB, listB, bestB, f1, f4, f6, f7, f8, f9, f10, Nat.sub_zero, true_or, true_and, and_true, f5, hcell_get, uph_len, hcell_eq])
   | (with_reducible first | refine s_seq ?_ | refine s_block ?_ | refine s_region fun kr hr => ?_)
   | (with_reducible refine s_text tOk [3, 31, 1000, 1001, 1002, 1003] (by kernel_rfl) (by simp [HeapIn, namers, namerDst, namerOp, namedOp, namedFn, Blk.has, hasRows, hasL, CV.has, hasRows_up, hasRows_append, boxB, listB, bestB, f1, f4, f6, f7, f8, f9, f10, Nat.sub_zero, true_or, true_and, and_true, f5, hcell_get, uph_len, hcell_eq]; (try ((repeat' apply And.intro) <;> intros <;> omega))) fun kr hr => ?_)
   | (with_reducible first | refine s_op fun K' hk => ?_ | refine t_op fun K' hk => ?_ | (refine hk _ ?_; clear hk K') | (refine ht _ ?_; clear ht hf KT KF) | (refine hf _ ?_; clear ht hf KT KF) | ((first | refine s_nil ?_ | refine t_nil ?_); refine hr _ ?_; clear hr kr))
   | ((with_reducible refine n_seqK [0, 1, 2, 3, 23, 25] [3, 31, 1000, 1001, 1002] ?_); simp only [mk_keep, keepL, List.mem_cons, List.not_mem_nil, Nat.reduceEqDiff, Nat.zero_ne_one, Nat.one_ne_zero, reduceCtorEq, or_false, false_or, or_true, true_or, or_self, eq_self, ↓reduceIte])
   | (with_reducible first | refine s_cond fun KT KF ht hf => ?_ | refine s_skip ?_)
   | ((with_reducible refine s_long ?_); simp only [List.cons_append, List.nil_append])
   | (with_reducible first | refine s_exit ?_ | refine s_ret ?_ | refine e_seq ?_ | refine r_seq ?_ | refine n_block ?_ | refine e_block ?_ | refine r_block ?_ | refine e_loop ?_ | refine r_loop ?_ | refine e_round ?_ | refine r_round ?_ | refine s_round ?_ | refine f_block ?_ (by decide) | refine r_res ?_ | refine n_res ?_)
   | (simp only [hgb, go_sem, Int.reduceToNat, ↓reduceIte, reduceCtorEq, Nat.reduceEqDiff, Nat.reduceAdd, Nat.reduceMul, Nat.reduceLT, Nat.reduceLeDiff, Nat.reduceBEq, Int.reduceBEq, Int.reduceBNe, Int.reduceEq, Int.reduceLT, Int.reduceLE, Int.reduceGE, Int.reduceGT, boxB, listB, bestB, f1, f4, f6, f7, f8, f9, f10, Nat.sub_zero, true_or, true_and, and_true, f5, hcell_get, uph_len, hcell_eq]; clear hgb)
   | simp only [go_sem, Int.reduceToNat, ↓reduceIte, reduceCtorEq, Nat.reduceEqDiff, Nat.reduceAdd, Nat.reduceMul, Nat.reduceLT, Nat.reduceLeDiff, Nat.reduceBEq, Int.reduceBEq, Int.reduceBNe, Int.reduceEq, Int.reduceLT, Int.reduceLE, Int.reduceGE, Int.reduceGT, boxB, listB, bestB, f1, f4, f6, f7, f8, f9, f10, Nat.sub_zero, true_or, true_and, and_true, f5, hcell_get, uph_len, hcell_eq, hAll]
   | (refine ite_guard (fun hg => ?_) (fun hg => ?_) <;> (try simp only [Bool.not_eq_true, Bool.not_eq_false, Decidable.not_not] at hg) <;> (first | have hgb : (_ : Bool) = _ := hg | have hgb := ff hg | have hgb := tt hg))
   | (refine ⟨fun hc => ht _ ?_, fun hc => hf _ ?_⟩ <;> clear ht hf KT KF)
   | fail)
/-- A place's hit. -/
abbrev hg (l : List Ht) (i : Nat) : Ht := l.getD i (0, 0)
def hup (m : Int) (l : List Ht) (j : Nat) : List Ht :=
  if h : j = 0 then l else
    if less m (hg l ((j - 1) / 2)) (hg l j) = true then hup m (hswap l ((j - 1) / 2) j) ((j - 1) / 2) else l
termination_by j
decreasing_by omega
theorem hup_len (m : Int) (l : List Ht) (j : Nat) : (hup m l j).length = l.length := by
  induction j using Nat.strongRecOn generalizing l with
  | ind j ih =>
    rw [hup]
    split
    · rfl
    · split
      · rw [ih _ (by omega), hswap_len]
      · rfl
theorem hg_get {l : List Ht} {i : Nat} (h : i < l.length) : l[i] = hg l i := by simp [hg, h]
theorem up_spec (k m : Int) (l : List Ht) (j : Nat) (hj : j < l.length) (hl : l.length ≤ 4611686018427387904) : Spec Try.prog 64 [.v (.ifc 75 false [.mp 1002 0 2]), .v (.t (.int .i64 j))] (bh k m l) [] (bh k m (hup m l j)) := by
  have hlen := hup_len m l j
  refine spec_by Try.func64 rfl mixed tOk evOk (n := 23) rfl (by simp) (by simp) ?_
  rw [initSt_mk, show Try.f64.results.toList = [] from rfl]
  simp only [initL, AV.sv, List.map_cons, List.map_nil, Nat.reduceAdd, Nat.zero_add, boxB, listB, bestB, hlen]
  refine s_block ?_
  refine w_loop [0, 1] [1000, 1001, 1002] (σ := List Ht × Nat) (fun k' st => st = mk [(0, .c (.ifc 75 false [.mp 1002 0 2])), (1, .c (.t (.int .i64 k'.2)))] (bh k m k'.1) ∧ k'.1.length = l.length ∧ k'.2 < l.length ∧ hup m k'.1 k'.2 = hup m l j) (fun k' => k'.2) (l, j) ?_ ?_
  · simp only [go_sem, Int.reduceToNat, ↓reduceIte, reduceCtorEq, Nat.reduceEqDiff, Nat.reduceAdd, Nat.reduceMul, Nat.reduceLT, Nat.reduceLeDiff, Nat.reduceBEq, Int.reduceBEq, Int.reduceBNe, Int.reduceEq, Int.reduceLT, Int.reduceLE, Int.reduceGE, Int.reduceGT, mk_keep, keepL, List.mem_cons, List.not_mem_nil, Nat.reduceEqDiff, Nat.zero_ne_one, Nat.one_ne_zero, reduceCtorEq, or_false, false_or, or_true, true_or, or_self, eq_self, ↓reduceIte]
    repeat' (first | exact hj | rfl | trivial | apply And.intro)
  rintro ⟨l', j'⟩ st ⟨rfl, h1, h2, h3⟩
  simp only at h1 h2 h3 ⊢
  have hbl : bestB 1001 k m l.length = bestB 1001 k m l'.length := by rw [h1]
  by_cases hz : j' = 0
  · subst hz
    have f0 : IntKind.wrap .i64 (Int.tdiv (IntKind.wrap .i64 (0 - 1)) 2) = 0 := by decide
    rw [hup] at h3
    simp only [↓reduceDIte] at h3
    subst h3
    repeat' (first
     | (with_reducible first | refine s_seq ?_ | refine s_block ?_ | refine s_region fun kr hr => ?_)
     | (with_reducible refine s_text tOk [1000, 1001, 1002, 1003] (by kernel_rfl) (by simp [HeapIn, namers, namerDst, namerOp, namedOp, namedFn, Blk.has, hasRows, hasL, CV.has, hasRows_up, hasRows_append, boxB, listB, bestB, f0, hlen]; (try ((repeat' apply And.intro) <;> intros <;> omega))) fun kr hr => ?_)
     | (with_reducible first | refine s_op fun K' hk => ?_ | refine t_op fun K' hk => ?_ | (refine hk _ ?_; clear hk K') | (refine ht _ ?_; clear ht hf KT KF) | (refine hf _ ?_; clear ht hf KT KF) | ((first | refine s_nil ?_ | refine t_nil ?_); refine hr _ ?_; clear hr kr))
     | ((with_reducible refine n_seqK [0, 1, 2, 3, 4, 17] [1000, 1001, 1002] ?_); simp only [mk_keep, keepL, List.mem_cons, List.not_mem_nil, Nat.reduceEqDiff, Nat.zero_ne_one, Nat.one_ne_zero, reduceCtorEq, or_false, false_or, or_true, true_or, or_self, eq_self, ↓reduceIte])
     | (with_reducible first | refine s_cond fun KT KF ht hf => ?_ | refine s_skip ?_)
     | ((with_reducible refine s_long ?_); simp only [List.cons_append, List.nil_append])
     | (with_reducible first | refine s_exit ?_ | refine s_ret ?_ | refine e_seq ?_ | refine r_seq ?_ | refine n_block ?_ | refine e_block ?_ | refine r_block ?_ | refine e_loop ?_ | refine r_loop ?_ | refine e_round ?_ | refine r_round ?_ | refine s_round ?_ | refine f_block ?_ (by decide) | refine r_res ?_ | refine n_res ?_)
     | (simp only [hgb, go_sem, Int.reduceToNat, ↓reduceIte, reduceCtorEq, Nat.reduceEqDiff, Nat.reduceAdd, Nat.reduceMul, Nat.reduceLT, Nat.reduceLeDiff, Nat.reduceBEq, Int.reduceBEq, Int.reduceBNe, Int.reduceEq, Int.reduceLT, Int.reduceLE, Int.reduceGE, Int.reduceGT, boxB, listB, bestB, f0, hlen]; clear hgb)
     | simp only [go_sem, Int.reduceToNat, ↓reduceIte, reduceCtorEq, Nat.reduceEqDiff, Nat.reduceAdd, Nat.reduceMul, Nat.reduceLT, Nat.reduceLeDiff, Nat.reduceBEq, Int.reduceBEq, Int.reduceBNe, Int.reduceEq, Int.reduceLT, Int.reduceLE, Int.reduceGE, Int.reduceGT, boxB, listB, bestB, f0, hlen, hAll]
     | (refine ite_guard (fun hg => ?_) (fun hg => ?_) <;> (try simp only [Bool.not_eq_true, Bool.not_eq_false, Decidable.not_not] at hg) <;> (first | have hgb : (_ : Bool) = _ := hg | have hgb := ff hg | have hgb := tt hg))
     | (refine ⟨fun hc => ht _ ?_, fun hc => hf _ ?_⟩ <;> clear ht hf KT KF)
     | fail)
  obtain ⟨i, hi⟩ : ∃ i, i = (j' - 1) / 2 := ⟨_, rfl⟩
  have f1 : IntKind.wrap .i64 ((j' : Int) - 1) = ((j' - 1 : Nat) : Int) := by rw [wI (by omega) (by omega)]; omega
  have f2 : Int.tdiv ((j' - 1 : Nat) : Int) 2 = (i : Int) := by rw [Int.tdiv_eq_ediv_of_nonneg (by omega)]; omega
  have f3 : IntKind.wrap .i64 (i : Int) = i := wI (by omega) (by omega)
  have f4 := ff (show ¬ ((i : Int) = (j' : Int)) by omega)
  have hls := rless_spec k m l' j' i (by omega) (by omega)
  rw [hg_get (by omega), hg_get (by omega)] at hls
  rw [hup, dif_neg hz, ← hi] at h3
  by_cases hle : less m (hg l' i) (hg l' j') = true
  · rw [if_pos hle] at h3
    have hsw := rswap_spec k m l' i j' (by omega) (by omega)
    rw [hle] at hls
    repeat' (first
     | (with_reducible first | refine s_seq ?_ | refine s_block ?_ | refine s_region fun kr hr => ?_)
     | (with_reducible refine s_text tOk [1000, 1001, 1002, 1003] (by kernel_rfl) (by simp [HeapIn, namers, namerDst, namerOp, namedOp, namedFn, Blk.has, hasRows, hasL, CV.has, hasRows_up, hasRows_append, boxB, listB, bestB, f1, f2, f3, f4]; (try ((repeat' apply And.intro) <;> intros <;> omega))) fun kr hr => ?_)
     | (with_reducible first | refine s_op fun K' hk => ?_ | refine t_op fun K' hk => ?_ | (refine hk _ ?_; clear hk K') | (refine ht _ ?_; clear ht hf KT KF) | (refine hf _ ?_; clear ht hf KT KF) | ((first | refine s_nil ?_ | refine t_nil ?_); refine hr _ ?_; clear hr kr))
     | ((with_reducible refine n_seqK [0, 1, 2, 3, 4, 17] [1000, 1001, 1002] ?_); simp only [mk_keep, keepL, List.mem_cons, List.not_mem_nil, Nat.reduceEqDiff, Nat.zero_ne_one, Nat.one_ne_zero, reduceCtorEq, or_false, false_or, or_true, true_or, or_self, eq_self, ↓reduceIte])
     | (with_reducible first | refine s_cond fun KT KF ht hf => ?_ | refine s_skip ?_)
     | ((with_reducible refine s_long ?_); simp only [List.cons_append, List.nil_append])
     | (with_reducible first | refine s_exit ?_ | refine s_ret ?_ | refine e_seq ?_ | refine r_seq ?_ | refine n_block ?_ | refine e_block ?_ | refine r_block ?_ | refine e_loop ?_ | refine r_loop ?_ | refine e_round ?_ | refine r_round ?_ | refine s_round ?_ | refine f_block ?_ (by decide) | refine r_res ?_ | refine n_res ?_)
     | (simp only [hgb, go_sem, Int.reduceToNat, ↓reduceIte, reduceCtorEq, Nat.reduceEqDiff, Nat.reduceAdd, Nat.reduceMul, Nat.reduceLT, Nat.reduceLeDiff, Nat.reduceBEq, Int.reduceBEq, Int.reduceBNe, Int.reduceEq, Int.reduceLT, Int.reduceLE, Int.reduceGE, Int.reduceGT, boxB, listB, bestB, f1, f2, f3, f4, callE, resSV, AV.flat, CV.flat, TV.flat]; clear hgb)
     | simp only [go_sem, Int.reduceToNat, ↓reduceIte, reduceCtorEq, Nat.reduceEqDiff, Nat.reduceAdd, Nat.reduceMul, Nat.reduceLT, Nat.reduceLeDiff, Nat.reduceBEq, Int.reduceBEq, Int.reduceBNe, Int.reduceEq, Int.reduceLT, Int.reduceLE, Int.reduceGE, Int.reduceGT, boxB, listB, bestB, f1, f2, f3, f4, callE, resSV, AV.flat, CV.flat, TV.flat, hAll]
     | refine Or.inr (m_callN [(1000,1000),(1001,1001),(1002,1002)] [1000,1001,1002] [1000,1001,1002] [] [1000, 1001, 1002] ⟨fun _ _ => rfl, hls⟩ rfl rfl (by first | (simp [AV.ren, CV.ren, renL, renL_map, tbl, boxB, listB, bestB]; done) | fail) rfl rfl rfl rfl (by decide) (by first | (simp [hAll, hRen, mk_heap, hL, tbl, Blk.ren, renRows_up, renRows, renL, CV.ren, boxB, listB, bestB]; done) | fail) (by first | (simp [Blk.has, hasRows, hasL, CV.has, hasRows_up, boxB, listB, bestB]; done) | fail) (by first | (intro k; simp [hasA, AV.has, CV.has, hasL, Blk.has, hasRows, hasRows_up, boxB, listB, bestB]; done) | (intro k; simp [hasA, AV.has, CV.has, hasL, Blk.has, hasRows, hasRows_up, boxB, listB, bestB]; omega) | fail) ?_)
     | refine (m_callN [(1000,1000),(1001,1001),(1002,1002)] [1000,1001,1002] [1000,1001,1002] [] [1000, 1001, 1002] ⟨fun _ _ => rfl, hls⟩ rfl rfl (by first | (simp [AV.ren, CV.ren, renL, renL_map, tbl, boxB, listB, bestB]; done) | fail) rfl rfl rfl rfl (by decide) (by first | (simp [hAll, hRen, mk_heap, hL, tbl, Blk.ren, renRows_up, renRows, renL, CV.ren, boxB, listB, bestB]; done) | fail) (by first | (simp [Blk.has, hasRows, hasL, CV.has, hasRows_up, boxB, listB, bestB]; done) | fail) (by first | (intro k; simp [hasA, AV.has, CV.has, hasL, Blk.has, hasRows, hasRows_up, boxB, listB, bestB]; done) | (intro k; simp [hasA, AV.has, CV.has, hasL, Blk.has, hasRows, hasRows_up, boxB, listB, bestB]; omega) | fail) ?_)
     | refine Or.inr (m_callN [(1000,1000),(1001,1001),(1002,1002)] [1000,1001,1002] [1000,1001,1002] [] [1000, 1001, 1002] ⟨fun _ _ => rfl, hsw⟩ rfl rfl (by first | (simp [AV.ren, CV.ren, renL, renL_map, tbl, boxB, listB, bestB]; done) | fail) rfl rfl rfl rfl (by decide) (by first | (simp [hAll, hRen, mk_heap, hL, tbl, Blk.ren, renRows_up, renRows, renL, CV.ren, boxB, listB, bestB]; done) | fail) (by first | (simp [Blk.has, hasRows, hasL, CV.has, hasRows_up, boxB, listB, bestB]; done) | fail) (by first | (intro k; simp [hasA, AV.has, CV.has, hasL, Blk.has, hasRows, hasRows_up, boxB, listB, bestB]; done) | (intro k; simp [hasA, AV.has, CV.has, hasL, Blk.has, hasRows, hasRows_up, boxB, listB, bestB]; omega) | fail) ?_)
     | refine (m_callN [(1000,1000),(1001,1001),(1002,1002)] [1000,1001,1002] [1000,1001,1002] [] [1000, 1001, 1002] ⟨fun _ _ => rfl, hsw⟩ rfl rfl (by first | (simp [AV.ren, CV.ren, renL, renL_map, tbl, boxB, listB, bestB]; done) | fail) rfl rfl rfl rfl (by decide) (by first | (simp [hAll, hRen, mk_heap, hL, tbl, Blk.ren, renRows_up, renRows, renL, CV.ren, boxB, listB, bestB]; done) | fail) (by first | (simp [Blk.has, hasRows, hasL, CV.has, hasRows_up, boxB, listB, bestB]; done) | fail) (by first | (intro k; simp [hasA, AV.has, CV.has, hasL, Blk.has, hasRows, hasRows_up, boxB, listB, bestB]; done) | (intro k; simp [hasA, AV.has, CV.has, hasL, Blk.has, hasRows, hasRows_up, boxB, listB, bestB]; omega) | fail) ?_)
     | (refine ite_guard (fun hg => ?_) (fun hg => ?_) <;> (try simp only [Bool.not_eq_true, Bool.not_eq_false, Decidable.not_not] at hg) <;> (first | have hgb : (_ : Bool) = _ := hg | have hgb := ff hg | have hgb := tt hg))
     | (refine ⟨fun hc => ht _ ?_, fun hc => hf _ ?_⟩ <;> clear ht hf KT KF)
     | fail)
    refine n_loop (hswap l' i j', i) [0, 1] [1000, 1001, 1002] ⟨?_, ?_, ?_, ?_⟩ (by simp only; omega)
    · simp only [mk_keep, keepL, List.mem_cons, List.not_mem_nil, Nat.reduceEqDiff, Nat.zero_ne_one, Nat.one_ne_zero, reduceCtorEq, or_false, false_or, or_true, true_or, or_self, eq_self, ↓reduceIte, bh, boxB, listB, bestB, hswap_len]
    · rw [hswap_len]; exact h1
    · simp only; omega
    · exact h3
  · rw [if_neg hle] at h3
    have hle2 : less m (hg l' i) (hg l' j') = false := by simpa using hle
    rw [hle2] at hls
    repeat' (first
     | (with_reducible first | refine s_seq ?_ | refine s_block ?_ | refine s_region fun kr hr => ?_)
     | (with_reducible refine s_text tOk [1000, 1001, 1002, 1003] (by kernel_rfl) (by simp [HeapIn, namers, namerDst, namerOp, namedOp, namedFn, Blk.has, hasRows, hasL, CV.has, hasRows_up, hasRows_append, boxB, listB, bestB, f1, f2, f3, f4, hlen, ← h1, ← h3]; (try ((repeat' apply And.intro) <;> intros <;> omega))) fun kr hr => ?_)
     | (with_reducible first | refine s_op fun K' hk => ?_ | refine t_op fun K' hk => ?_ | (refine hk _ ?_; clear hk K') | (refine ht _ ?_; clear ht hf KT KF) | (refine hf _ ?_; clear ht hf KT KF) | ((first | refine s_nil ?_ | refine t_nil ?_); refine hr _ ?_; clear hr kr))
     | ((with_reducible refine n_seqK [0, 1, 2, 3, 4, 17] [1000, 1001, 1002] ?_); simp only [mk_keep, keepL, List.mem_cons, List.not_mem_nil, Nat.reduceEqDiff, Nat.zero_ne_one, Nat.one_ne_zero, reduceCtorEq, or_false, false_or, or_true, true_or, or_self, eq_self, ↓reduceIte])
     | (with_reducible first | refine s_cond fun KT KF ht hf => ?_ | refine s_skip ?_)
     | ((with_reducible refine s_long ?_); simp only [List.cons_append, List.nil_append])
     | (with_reducible first | refine s_exit ?_ | refine s_ret ?_ | refine e_seq ?_ | refine r_seq ?_ | refine n_block ?_ | refine e_block ?_ | refine r_block ?_ | refine e_loop ?_ | refine r_loop ?_ | refine e_round ?_ | refine r_round ?_ | refine s_round ?_ | refine f_block ?_ (by decide) | refine r_res ?_ | refine n_res ?_)
     | (simp only [hgb, go_sem, Int.reduceToNat, ↓reduceIte, reduceCtorEq, Nat.reduceEqDiff, Nat.reduceAdd, Nat.reduceMul, Nat.reduceLT, Nat.reduceLeDiff, Nat.reduceBEq, Int.reduceBEq, Int.reduceBNe, Int.reduceEq, Int.reduceLT, Int.reduceLE, Int.reduceGE, Int.reduceGT, boxB, listB, bestB, f1, f2, f3, f4, hlen, ← h1, ← h3, callE, resSV, AV.flat, CV.flat, TV.flat]; clear hgb)
     | simp only [go_sem, Int.reduceToNat, ↓reduceIte, reduceCtorEq, Nat.reduceEqDiff, Nat.reduceAdd, Nat.reduceMul, Nat.reduceLT, Nat.reduceLeDiff, Nat.reduceBEq, Int.reduceBEq, Int.reduceBNe, Int.reduceEq, Int.reduceLT, Int.reduceLE, Int.reduceGE, Int.reduceGT, boxB, listB, bestB, f1, f2, f3, f4, hlen, ← h1, ← h3, callE, resSV, AV.flat, CV.flat, TV.flat, hAll]
     | refine Or.inr (m_callN [(1000,1000),(1001,1001),(1002,1002)] [1000,1001,1002] [1000,1001,1002] [] [1000, 1001, 1002] ⟨fun _ _ => rfl, hls⟩ rfl rfl (by first | (simp [AV.ren, CV.ren, renL, renL_map, tbl, boxB, listB, bestB]; done) | fail) rfl rfl rfl rfl (by decide) (by first | (simp [hAll, hRen, mk_heap, hL, tbl, Blk.ren, renRows_up, renRows, renL, CV.ren, boxB, listB, bestB]; done) | fail) (by first | (simp [Blk.has, hasRows, hasL, CV.has, hasRows_up, boxB, listB, bestB]; done) | fail) (by first | (intro k; simp [hasA, AV.has, CV.has, hasL, Blk.has, hasRows, hasRows_up, boxB, listB, bestB]; done) | (intro k; simp [hasA, AV.has, CV.has, hasL, Blk.has, hasRows, hasRows_up, boxB, listB, bestB]; omega) | fail) ?_)
     | refine (m_callN [(1000,1000),(1001,1001),(1002,1002)] [1000,1001,1002] [1000,1001,1002] [] [1000, 1001, 1002] ⟨fun _ _ => rfl, hls⟩ rfl rfl (by first | (simp [AV.ren, CV.ren, renL, renL_map, tbl, boxB, listB, bestB]; done) | fail) rfl rfl rfl rfl (by decide) (by first | (simp [hAll, hRen, mk_heap, hL, tbl, Blk.ren, renRows_up, renRows, renL, CV.ren, boxB, listB, bestB]; done) | fail) (by first | (simp [Blk.has, hasRows, hasL, CV.has, hasRows_up, boxB, listB, bestB]; done) | fail) (by first | (intro k; simp [hasA, AV.has, CV.has, hasL, Blk.has, hasRows, hasRows_up, boxB, listB, bestB]; done) | (intro k; simp [hasA, AV.has, CV.has, hasL, Blk.has, hasRows, hasRows_up, boxB, listB, bestB]; omega) | fail) ?_)
     | (refine ite_guard (fun hg => ?_) (fun hg => ?_) <;> (try simp only [Bool.not_eq_true, Bool.not_eq_false, Decidable.not_not] at hg) <;> (first | have hgb : (_ : Bool) = _ := hg | have hgb := ff hg | have hgb := tt hg))
     | (refine ⟨fun hc => ht _ ?_, fun hc => hf _ ?_⟩ <;> clear ht hf KT KF)
     | fail)
end Go.Proofs.Ytgmjgognpabmdaa.Fx
