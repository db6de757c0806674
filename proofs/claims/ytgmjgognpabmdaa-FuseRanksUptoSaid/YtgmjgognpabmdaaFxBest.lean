/- The best so many: the heap's row. -/
import Derived.Test.YtgmjgognpabmdaaFxTop
import Derived.Test.YtgmjgognpabmdaaFxCallN
namespace Go.Proofs.Ytgmjgognpabmdaa.Fx
open Go Go.RowKit
set_option maxRecDepth 100000
set_option linter.unusedSimpArgs false
set_option linter.unusedVariables false
abbrev hg (l : List Ht) (i : Nat) : Ht := l.getD i (0, 0)
theorem hg_get {l : List Ht} {i : Nat} (h : i < l.length) : l[i] = hg l i := by simp [hg, h]
theorem up_app (l : List Ht) (a b : Int) : up (hrows l) ++ [[.t (.int .i64 a), .t (.int .i64 b)]] = up (hrows (l ++ [(a, b)])) := by simp [up, hrows, hrow]
def boxB (m : Int) : Blk := .cells 1 [[.t (.int .i64 m)]]
def listB (l : List Ht) : Blk := .cells 2 (up (hrows l))
def bestB (L : Nat) (k m : Int) (len : Nat) : Blk := .cells 4 [[.t (.int .i64 k), .t (.int .i64 m), .mr L 0 len, .fnc 44 [] [.mp 1000 0 0]]]
abbrev bh (k m : Int) (l : List Ht) : List (Nat × Blk) := [(1000, boxB m), (1001, listB l), (1002, bestB 1001 k m l.length)]
theorem hcell_get (l : List Ht) (i : Nat) : (up (hrows l))[i]? = (l[i]?).map hcell := by
  simp only [up, hrows, List.map_map, List.getElem?_map]; cases l[i]? <;> rfl
theorem uph_len (l : List Ht) : (up (hrows l)).length = l.length := by simp [up, hrows]
theorem hcell_eq (a b : Int) : hcell (a, b) = [.t (.int .i64 a), .t (.int .i64 b)] := rfl
theorem cmp_spec (m : Int) (a b : Ht) : Spec Try.prog 44 [.agg (hcell a), .agg (hcell b), .v (.mp 1000 0 0)] [(1000, boxB m)] [.v (.t (.bool (less m b a)))] [(1000, boxB m)] := by
  have h := less_spec m b a
  obtain ⟨a1, a2⟩ := a
  obtain ⟨b1, b2⟩ := b
  simp only [hcell] at h
  refine spec_by Try.func44 rfl mixed tOk evOk (n := 10) rfl (by simp) (by simp) ?_
  rw [initSt_mk, show Try.f44.results.toList = [.tmp 5] from rfl]
  simp only [initL, AV.sv, List.map_cons, List.map_nil, Nat.reduceAdd, Nat.zero_add, hcell, boxB]
  repeat' (first
   | (with_reducible first | refine s_seq ?_ | refine s_block ?_ | refine s_region fun kr hr => ?_)
   | (with_reducible refine s_text tOk [3, 4, 1000, 1001, 1002, 1003] (by kernel_rfl) (by simp [HeapIn, namers, namerDst, namerOp, namedOp, namedFn, ownLoad, Blk.has, hasRows, hasL, CV.has, hasRows_up, hasM_up, hasRows_append]; (try ((repeat' apply And.intro) <;> intros <;> omega))) fun kr hr => ?_)
   | (with_reducible first | refine s_op fun K' hk => ?_ | refine t_op fun K' hk => ?_ | (refine hk _ ?_; clear hk K') | (refine ht _ ?_; clear ht hf KT KF) | (refine hf _ ?_; clear ht hf KT KF) | ((first | refine s_nil ?_ | refine t_nil ?_); refine hr _ ?_; clear hr kr))
   | ((with_reducible refine n_seqK [0, 1, 2, 3, 4, 5] [3, 4, 1000, 1001, 1002] ?_); simp only [mk_keep, keepL, List.mem_cons, List.not_mem_nil, Nat.reduceEqDiff, Nat.zero_ne_one, Nat.one_ne_zero, reduceCtorEq, or_false, false_or, or_true, true_or, or_self, eq_self, ↓reduceIte])
   | (with_reducible first | refine s_cond fun KT KF ht hf => ?_ | refine s_skip ?_)
   | ((with_reducible refine s_long ?_); simp only [List.cons_append, List.nil_append])
   | (with_reducible first | refine s_exit ?_ | refine s_ret ?_ | refine e_seq ?_ | refine r_seq ?_ | refine n_block ?_ | refine e_block ?_ | refine r_block ?_ | refine e_loop ?_ | refine r_loop ?_ | refine e_round ?_ | refine r_round ?_ | refine s_round ?_ | refine f_block ?_ (by decide) | refine r_res ?_ | refine n_res ?_)
   | (simp only [hgb, go_sem, Int.reduceToNat, ↓reduceIte, reduceCtorEq, Nat.reduceEqDiff, Nat.reduceAdd, Nat.reduceMul, Nat.reduceLT, Nat.reduceLeDiff, Nat.reduceBEq, Int.reduceBEq, Int.reduceBNe, String.reduceBEq, Int.reduceEq, Int.reduceLT, Int.reduceLE, Int.reduceGE, Int.reduceGT, callE, resSV, AV.flat, CV.flat, TV.flat]; clear hgb)
   | simp only [go_sem, Int.reduceToNat, ↓reduceIte, reduceCtorEq, Nat.reduceEqDiff, Nat.reduceAdd, Nat.reduceMul, Nat.reduceLT, Nat.reduceLeDiff, Nat.reduceBEq, Int.reduceBEq, Int.reduceBNe, String.reduceBEq, Int.reduceEq, Int.reduceLT, Int.reduceLE, Int.reduceGE, Int.reduceGT, callE, resSV, AV.flat, CV.flat, TV.flat, hAll]
   | refine Or.inl ⟨_, ⟨fun _ _ => rfl, h⟩, ?_⟩
   | refine ⟨_, ⟨fun _ _ => rfl, h⟩, ?_⟩
   | (refine ite_guard (fun hg => ?_) (fun hg => ?_) <;> (try simp only [Bool.not_eq_true, Bool.not_eq_false, Decidable.not_not] at hg) <;> (first | have hgb : (_ : Bool) = _ := hg | have hgb := ff hg | have hgb := tt hg))
   | (refine ⟨fun hc => ht _ ?_, fun hc => hf _ ?_⟩ <;> clear ht hf KT KF)
   | fail)
theorem len_spec (k m : Int) (l : List Ht) : Spec Try.prog 102 [.v (.mp 1002 0 2)] (bh k m l) [.v (.t (.int .i64 l.length))] (bh k m l) := by
  refine spec_by Try.func102 rfl mixed tOk evOk (n := 8) rfl (by simp) (by simp) ?_
  rw [initSt_mk, show Try.f102.results.toList = [.tmp 2] from rfl]
  simp only [initL, AV.sv, List.map_cons, List.map_nil, Nat.reduceAdd, Nat.zero_add, boxB, listB, bestB]
  repeat' (first
   | (with_reducible first | refine s_seq ?_ | refine s_block ?_ | refine s_region fun kr hr => ?_)
   | (with_reducible refine s_text tOk [1000, 1001, 1002, 1003] (by kernel_rfl) (by simp [HeapIn, namers, namerDst, namerOp, namedOp, namedFn, ownLoad, Blk.has, hasRows, hasL, CV.has, hasRows_up, hasM_up, hasRows_append, boxB, listB, bestB]; (try ((repeat' apply And.intro) <;> intros <;> omega))) fun kr hr => ?_)
   | (with_reducible first | refine s_op fun K' hk => ?_ | refine t_op fun K' hk => ?_ | (refine hk _ ?_; clear hk K') | (refine ht _ ?_; clear ht hf KT KF) | (refine hf _ ?_; clear ht hf KT KF) | ((first | refine s_nil ?_ | refine t_nil ?_); refine hr _ ?_; clear hr kr))
   | ((with_reducible refine n_seqK [0, 1, 2] [1000, 1001, 1002] ?_); simp only [mk_keep, keepL, List.mem_cons, List.not_mem_nil, Nat.reduceEqDiff, Nat.zero_ne_one, Nat.one_ne_zero, reduceCtorEq, or_false, false_or, or_true, true_or, or_self, eq_self, ↓reduceIte])
   | (with_reducible first | refine s_cond fun KT KF ht hf => ?_ | refine s_skip ?_)
   | ((with_reducible refine s_long ?_); simp only [List.cons_append, List.nil_append])
   | (with_reducible first | refine s_exit ?_ | refine s_ret ?_ | refine e_seq ?_ | refine r_seq ?_ | refine n_block ?_ | refine e_block ?_ | refine r_block ?_ | refine e_loop ?_ | refine r_loop ?_ | refine e_round ?_ | refine r_round ?_ | refine s_round ?_ | refine f_block ?_ (by decide) | refine r_res ?_ | refine n_res ?_)
   | (simp only [hgb, go_sem, Int.reduceToNat, ↓reduceIte, reduceCtorEq, Nat.reduceEqDiff, Nat.reduceAdd, Nat.reduceMul, Nat.reduceLT, Nat.reduceLeDiff, Nat.reduceBEq, Int.reduceBEq, Int.reduceBNe, String.reduceBEq, Int.reduceEq, Int.reduceLT, Int.reduceLE, Int.reduceGE, Int.reduceGT, boxB, listB, bestB]; clear hgb)
   | simp only [go_sem, Int.reduceToNat, ↓reduceIte, reduceCtorEq, Nat.reduceEqDiff, Nat.reduceAdd, Nat.reduceMul, Nat.reduceLT, Nat.reduceLeDiff, Nat.reduceBEq, Int.reduceBEq, Int.reduceBNe, String.reduceBEq, Int.reduceEq, Int.reduceLT, Int.reduceLE, Int.reduceGE, Int.reduceGT, boxB, listB, bestB, hAll]
   | (refine ite_guard (fun hg => ?_) (fun hg => ?_) <;> (try simp only [Bool.not_eq_true, Bool.not_eq_false, Decidable.not_not] at hg) <;> (first | have hgb : (_ : Bool) = _ := hg | have hgb := ff hg | have hgb := tt hg))
   | (refine ⟨fun hc => ht _ ?_, fun hc => hf _ ?_⟩ <;> clear ht hf KT KF)
   | fail)
theorem rless_spec (k m : Int) (l : List Ht) (i j : Nat) (hi : i < l.length) (hj : j < l.length) : Spec Try.prog 103 [.v (.mp 1002 0 2), .v (.t (.int .i64 i)), .v (.t (.int .i64 j))] (bh k m l) [.v (.t (.bool (less m l[j] l[i])))] (bh k m l) := by
  have f1 := get_of_lt hi
  have f2 := get_of_lt hj
  have f3 := tt (show (i : Int) < l.length by omega)
  have f4 := tt (show (j : Int) < l.length by omega)
  have hc := cmp_spec m l[i] l[j]
  obtain ⟨⟨a1, a2⟩, ha⟩ : ∃ z, l[i] = z := ⟨_, rfl⟩
  obtain ⟨⟨b1, b2⟩, hb⟩ : ∃ z, l[j] = z := ⟨_, rfl⟩
  rw [ha, hb, hcell_eq, hcell_eq] at hc
  rw [ha, hb]
  rw [ha] at f1
  rw [hb] at f2
  refine spec_by Try.func103 rfl mixed tOk evOk (n := 26) rfl (by simp) (by simp) ?_
  rw [initSt_mk, show Try.f103.results.toList = [.tmp 6] from rfl]
  simp only [initL, AV.sv, List.map_cons, List.map_nil, Nat.reduceAdd, Nat.zero_add, boxB, listB, bestB]
  repeat' (first
   | with_reducible refine s_draw (id := 1) ?_
   | ((with_reducible refine a_seg tOk [1000, 1001, 1002, 1003] 20 0 18 (by decide) (by kernel_rfl) (by simp [HeapIn, namers, namerDst, namerOp, namedOp, namedFn, ownLoad, Blk.has, hasRows, hasL, CV.has, hasRows_up, hasM_up, hasRows_append, boxB, listB, bestB, f1, f2, f3, f4, hcell_get, uph_len, hcell_eq]; (try ((repeat' apply And.intro) <;> intros <;> omega))) fun kr hr => ?_); simp only [List.drop_succ_cons, List.drop_zero, List.take_succ_cons, List.take_zero, List.map_cons, List.map_nil, List.cons_append, List.nil_append, Nat.reduceSub])
   | ((with_reducible refine a_seg tOk [1000, 1001, 1002, 1003] 20 19 20 (by decide) (by kernel_rfl) (by simp [HeapIn, namers, namerDst, namerOp, namedOp, namedFn, ownLoad, Blk.has, hasRows, hasL, CV.has, hasRows_up, hasM_up, hasRows_append, boxB, listB, bestB, f1, f2, f3, f4, hcell_get, uph_len, hcell_eq]; (try ((repeat' apply And.intro) <;> intros <;> omega))) fun kr hr => ?_); simp only [List.drop_succ_cons, List.drop_zero, List.take_succ_cons, List.take_zero, List.map_cons, List.map_nil, List.cons_append, List.nil_append, Nat.reduceSub])
   | ((with_reducible refine a_one 20 18 (by decide) (by kernel_rfl) fun kr hr => ?_); simp only [List.drop_succ_cons, List.drop_zero, List.take_succ_cons, List.take_zero, List.map_cons, List.map_nil, List.cons_append, List.nil_append, Nat.reduceSub])
   | with_reducible refine a_end 20 (by decide) ?_
   | (with_reducible refine hr _ ?_; clear hr kr)
   | (with_reducible first | refine s_seq ?_ | refine s_block ?_ | refine s_region fun kr hr => ?_)
   | (with_reducible refine s_text tOk [1000, 1001, 1002, 1003] (by kernel_rfl) (by simp [HeapIn, namers, namerDst, namerOp, namedOp, namedFn, ownLoad, Blk.has, hasRows, hasL, CV.has, hasRows_up, hasM_up, hasRows_append, boxB, listB, bestB, f1, f2, f3, f4, hcell_get, uph_len, hcell_eq]; (try ((repeat' apply And.intro) <;> intros <;> omega))) fun kr hr => ?_)
   | (with_reducible first | refine s_op fun K' hk => ?_ | refine t_op fun K' hk => ?_ | (refine hk _ ?_; clear hk K') | (refine ht _ ?_; clear ht hf KT KF) | (refine hf _ ?_; clear ht hf KT KF) | ((first | refine s_nil ?_ | refine t_nil ?_); refine hr _ ?_; clear hr kr))
   | ((with_reducible refine n_seqK [0, 1, 2, 3, 4, 5, 6] [1000, 1001, 1002] ?_); simp only [mk_keep, keepL, List.mem_cons, List.not_mem_nil, Nat.reduceEqDiff, Nat.zero_ne_one, Nat.one_ne_zero, reduceCtorEq, or_false, false_or, or_true, true_or, or_self, eq_self, ↓reduceIte])
   | (with_reducible first | refine s_cond fun KT KF ht hf => ?_ | refine s_skip ?_)
   | ((with_reducible refine s_long ?_); simp only [List.cons_append, List.nil_append])
   | (with_reducible first | refine s_exit ?_ | refine s_ret ?_ | refine e_seq ?_ | refine r_seq ?_ | refine n_block ?_ | refine e_block ?_ | refine r_block ?_ | refine e_loop ?_ | refine r_loop ?_ | refine e_round ?_ | refine r_round ?_ | refine s_round ?_ | refine f_block ?_ (by decide) | refine r_res ?_ | refine n_res ?_)
   | (simp only [hgb, go_sem, Int.reduceToNat, ↓reduceIte, reduceCtorEq, Nat.reduceEqDiff, Nat.reduceAdd, Nat.reduceMul, Nat.reduceLT, Nat.reduceLeDiff, Nat.reduceBEq, Int.reduceBEq, Int.reduceBNe, String.reduceBEq, Int.reduceEq, Int.reduceLT, Int.reduceLE, Int.reduceGE, Int.reduceGT, boxB, listB, bestB, f1, f2, f3, f4, hcell_get, uph_len, hcell_eq, callE, resSV, AV.flat, CV.flat, TV.flat]; clear hgb)
   | simp only [go_sem, Int.reduceToNat, ↓reduceIte, reduceCtorEq, Nat.reduceEqDiff, Nat.reduceAdd, Nat.reduceMul, Nat.reduceLT, Nat.reduceLeDiff, Nat.reduceBEq, Int.reduceBEq, Int.reduceBNe, String.reduceBEq, Int.reduceEq, Int.reduceLT, Int.reduceLE, Int.reduceGE, Int.reduceGT, boxB, listB, bestB, f1, f2, f3, f4, hcell_get, uph_len, hcell_eq, callE, resSV, AV.flat, CV.flat, TV.flat, hAll]
   | refine Or.inr (m_callN [(1000,1000)] [1000] [1000] [] [1000] ⟨fun _ _ => rfl, hc⟩ rfl rfl (by first | (simp [avren_v, avren_a, CV.ren, renL, renL_map, tbl, boxB]; done) | fail) rfl rfl rfl rfl (by decide) (by first | (simp [hAll, hRen, mk_heap, hL, tbl, Blk.ren, renRows_up, renRows, renL, CV.ren, boxB]; done) | fail) (by first | (simp [Blk.has, hasRows, hasL, CV.has, hasRows_up, hasM_up, boxB]; done) | fail) (by first | (intro k; simp [hasA, AV.has, CV.has, hasL, Blk.has, hasRows, hasRows_up, hasM_up, boxB]; done) | (intro k; simp [hasA, AV.has, CV.has, hasL, Blk.has, hasRows, hasRows_up, hasM_up, boxB]; omega) | fail) ?_)
   | refine (m_callN [(1000,1000)] [1000] [1000] [] [1000] ⟨fun _ _ => rfl, hc⟩ rfl rfl (by first | (simp [avren_v, avren_a, CV.ren, renL, renL_map, tbl, boxB]; done) | fail) rfl rfl rfl rfl (by decide) (by first | (simp [hAll, hRen, mk_heap, hL, tbl, Blk.ren, renRows_up, renRows, renL, CV.ren, boxB]; done) | fail) (by first | (simp [Blk.has, hasRows, hasL, CV.has, hasRows_up, hasM_up, boxB]; done) | fail) (by first | (intro k; simp [hasA, AV.has, CV.has, hasL, Blk.has, hasRows, hasRows_up, hasM_up, boxB]; done) | (intro k; simp [hasA, AV.has, CV.has, hasL, Blk.has, hasRows, hasRows_up, hasM_up, boxB]; omega) | fail) ?_)
   | (refine ite_guard (fun hg => ?_) (fun hg => ?_) <;> (try simp only [Bool.not_eq_true, Bool.not_eq_false, Decidable.not_not] at hg) <;> (first | have hgb : (_ : Bool) = _ := hg | have hgb := ff hg | have hgb := tt hg))
   | (refine ⟨fun hc => ht _ ?_, fun hc => hf _ ?_⟩ <;> clear ht hf KT KF)
   | fail)
/-- Two places changed for each other. -/
def hswap (l : List Ht) (i j : Nat) : List Ht := (l.set i (l.getD j (0, 0))).set j (l.getD i (0, 0))
theorem hswap_len (l : List Ht) (i j : Nat) : (hswap l i j).length = l.length := by simp [hswap]
theorem hset_up (l : List Ht) (i : Nat) (z : Ht) : (up (hrows l)).set i (hcell z) = up (hrows (l.set i z)) := by
  simp only [up, hrows, List.map_map, List.map_set]; rfl
theorem rswap_spec (k m : Int) (l : List Ht) (i j : Nat) (hi : i < l.length) (hj : j < l.length) : Spec Try.prog 106 [.v (.mp 1002 0 2), .v (.t (.int .i64 i)), .v (.t (.int .i64 j))] (bh k m l) [] (bh k m (hswap l i j)) := by
  have f1 := get_of_lt hi
  have f2 := get_of_lt hj
  have f3 := tt (show (i : Int) < l.length by omega)
  have f4 := tt (show (j : Int) < l.length by omega)
  have g1 : l.getD i (0, 0) = l[i] := by simp [hi]
  have g2 : l.getD j (0, 0) = l[j] := by simp [hj]
  have hsw : hswap l i j = (l.set i l[j]).set j l[i] := by simp only [hswap, g1, g2]
  have hl := hswap_len l i j
  rw [hsw] at hl ⊢
  obtain ⟨⟨a1, a2⟩, ha⟩ : ∃ z, l[i] = z := ⟨_, rfl⟩
  obtain ⟨⟨b1, b2⟩, hb⟩ : ∃ z, l[j] = z := ⟨_, rfl⟩
  rw [ha, hb] at hl ⊢
  rw [ha] at f1
  rw [hb] at f2
  have s1 := hset_up l i (b1, b2)
  have s2 := hset_up (l.set i (b1, b2)) j (a1, a2)
  rw [hcell_eq] at s1 s2
  have f5 : (l.set i (b1, b2))[j]? = some ((l.set i (b1, b2))[j]'(by simpa using hj)) := List.getElem?_eq_getElem _
  obtain ⟨⟨c1, c2⟩, hcc⟩ : ∃ z, (l.set i (b1, b2))[j]'(by simpa using hj) = z := ⟨_, rfl⟩
  rw [hcc] at f5
  have hbh : bh k m ((l.set i (b1, b2)).set j (a1, a2)) = [(1000, boxB m), (1001, listB ((l.set i (b1, b2)).set j (a1, a2))), (1002, bestB 1001 k m l.length)] := by simp [bh]
  rw [hbh]
  refine spec_by Try.func106 rfl mixed tOk evOk (n := 32) rfl (by simp) (by simp) ?_
  rw [initSt_mk, show Try.f106.results.toList = [] from rfl]
  simp only [initL, AV.sv, List.map_cons, List.map_nil, Nat.reduceAdd, Nat.zero_add, boxB, listB, bestB]
  repeat' (first
   | (with_reducible first | refine s_seq ?_ | refine s_block ?_ | refine s_region fun kr hr => ?_)
   | (with_reducible refine s_text tOk [1000, 1001, 1002, 1003] (by kernel_rfl) (by simp [HeapIn, namers, namerDst, namerOp, namedOp, namedFn, ownLoad, Blk.has, hasRows, hasL, CV.has, hasRows_up, hasM_up, hasRows_append, boxB, listB, bestB, f1, f2, f3, f4, f5, s1, s2, hl, hcell_get, uph_len, hcell_eq, List.length_set]; (try ((repeat' apply And.intro) <;> intros <;> omega))) fun kr hr => ?_)
   | (with_reducible first | refine s_op fun K' hk => ?_ | refine t_op fun K' hk => ?_ | (refine hk _ ?_; clear hk K') | (refine ht _ ?_; clear ht hf KT KF) | (refine hf _ ?_; clear ht hf KT KF) | ((first | refine s_nil ?_ | refine t_nil ?_); refine hr _ ?_; clear hr kr))
   | ((with_reducible refine n_seqK [0, 1, 2, 3, 4, 5] [1000, 1001, 1002] ?_); simp only [mk_keep, keepL, List.mem_cons, List.not_mem_nil, Nat.reduceEqDiff, Nat.zero_ne_one, Nat.one_ne_zero, reduceCtorEq, or_false, false_or, or_true, true_or, or_self, eq_self, ↓reduceIte])
   | (with_reducible first | refine s_cond fun KT KF ht hf => ?_ | refine s_skip ?_)
   | ((with_reducible refine s_long ?_); simp only [List.cons_append, List.nil_append])
   | (with_reducible first | refine s_exit ?_ | refine s_ret ?_ | refine e_seq ?_ | refine r_seq ?_ | refine n_block ?_ | refine e_block ?_ | refine r_block ?_ | refine e_loop ?_ | refine r_loop ?_ | refine e_round ?_ | refine r_round ?_ | refine s_round ?_ | refine f_block ?_ (by decide) | refine r_res ?_ | refine n_res ?_)
   | (simp only [hgb, go_sem, Int.reduceToNat, ↓reduceIte, reduceCtorEq, Nat.reduceEqDiff, Nat.reduceAdd, Nat.reduceMul, Nat.reduceLT, Nat.reduceLeDiff, Nat.reduceBEq, Int.reduceBEq, Int.reduceBNe, String.reduceBEq, Int.reduceEq, Int.reduceLT, Int.reduceLE, Int.reduceGE, Int.reduceGT, boxB, listB, bestB, f1, f2, f3, f4, f5, s1, s2, hl, hcell_get, uph_len, hcell_eq, List.length_set]; clear hgb)
   | simp only [go_sem, Int.reduceToNat, ↓reduceIte, reduceCtorEq, Nat.reduceEqDiff, Nat.reduceAdd, Nat.reduceMul, Nat.reduceLT, Nat.reduceLeDiff, Nat.reduceBEq, Int.reduceBEq, Int.reduceBNe, String.reduceBEq, Int.reduceEq, Int.reduceLT, Int.reduceLE, Int.reduceGE, Int.reduceGT, boxB, listB, bestB, f1, f2, f3, f4, f5, s1, s2, hl, hcell_get, uph_len, hcell_eq, List.length_set, hAll]
   | (refine ite_guard (fun hg => ?_) (fun hg => ?_) <;> (try simp only [Bool.not_eq_true, Bool.not_eq_false, Decidable.not_not] at hg) <;> (first | have hgb : (_ : Bool) = _ := hg | have hgb := ff hg | have hgb := tt hg))
   | (refine ⟨fun hc => ht _ ?_, fun hc => hf _ ?_⟩ <;> clear ht hf KT KF)
   | fail)
end Go.Proofs.Ytgmjgognpabmdaa.Fx
