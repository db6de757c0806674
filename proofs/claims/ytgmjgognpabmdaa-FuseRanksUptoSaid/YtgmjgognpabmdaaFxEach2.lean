/- A list's hits weighed, each id once. -/
import Derived.Test.YtgmjgognpabmdaaFxWeigh
-- ren_map
namespace Go.Proofs.Ytgmjgognpabmdaa.Fx
open Go Go.RowKit
set_option maxRecDepth 100000
set_option linter.unusedSimpArgs false
set_option linter.unusedVariables false
/-- What stands while a list is weighed. -/
structure WS where
  cs : Nat
  sm : BM
  cm : Nat
  mm : IM
  ov : Bool
def WS.step (wt mt : Int) (s : WS) (z : Ht) : WS :=
  if mval false s.sm z.1 = true then s else { cs := mclk s.cs s.sm z.1, sm := mset s.cs s.sm z.1 true, cm := mclk s.cm s.mm z.1, mm := mset s.cm s.mm z.1 (addF (mval 0 s.mm z.1) (wNum mt (mulOf wt z.2).1)).1, ov := wOver mt (mulOf wt z.2).1 s.ov || !decide ((mulOf wt z.2).2 = 0) || !(addF (mval 0 s.mm z.1) (wNum mt (mulOf wt z.2).1)).2 }
def WS.go (wt mt : Int) (s : WS) (l : List Ht) : Nat → WS
  | 0 => s
  | k + 1 => (s.go wt mt l k).step wt mt (l.getD k (0, 0))
set_option maxHeartbeats 2000000 in
theorem each2_spec (l : List Ht) (hl : l.length * 16 ≤ 140737488355328) (hz : ∀ z ∈ l, In64 z.2) (ws ms : List Int) (i : Nat) (hi : i < ws.length ∧ i < ms.length) (hw : In64 ws[i]) (s : WS) : Spec Try.prog 48 [.v (.t (.sl 2 (hrows l))), .v (.mm 1000), .v (.fnc 55 [] [.mp 1001 0 0, .mp 1002 0 0, .mp 1003 0 0, .mp 1004 0 0, .mp 1005 0 0])]
    [(1000, .map s.cs (upIB s.sm)), (1001, .cells 1 [[.t (.sl 1 (ints ws))]]), (1002, .cells 1 [[.t (.int .i64 i)]]), (1003, .cells 1 [[.t (.sl 1 (ints ms))]]), (1004, .cells 1 [[.t (.bool s.ov)]]), (1005, .cells 1 [[.mm 1006]]), (1006, .map s.cm (upII s.mm))] []
    [(1000, .map (WS.go ws[i] ms[i] ⟨s.cs, [], s.cm, s.mm, s.ov⟩ l l.length).cs (upIB (WS.go ws[i] ms[i] ⟨s.cs, [], s.cm, s.mm, s.ov⟩ l l.length).sm)), (1001, .cells 1 [[.t (.sl 1 (ints ws))]]), (1002, .cells 1 [[.t (.int .i64 i)]]), (1003, .cells 1 [[.t (.sl 1 (ints ms))]]), (1004, .cells 1 [[.t (.bool (WS.go ws[i] ms[i] ⟨s.cs, [], s.cm, s.mm, s.ov⟩ l l.length).ov)]]), (1005, .cells 1 [[.mm 1006]]), (1006, .map (WS.go ws[i] ms[i] ⟨s.cs, [], s.cm, s.mm, s.ov⟩ l l.length).cm (upII (WS.go ws[i] ms[i] ⟨s.cs, [], s.cm, s.mm, s.ov⟩ l l.length).mm))] := by
  refine spec_by Try.func48 rfl mixed tOk evOk (n := 30) rfl (by simp) (by simp) ?_
  rw [initSt_mk, show Try.f48.results.toList = [] from rfl]
  simp only [initL, AV.sv, List.map_cons, List.map_nil, Nat.reduceAdd, Nat.zero_add]
  repeat' (first
   | (with_reducible first | refine s_seq ?_ | refine s_block ?_ | refine s_region fun kr hr => ?_)
   | (with_reducible refine s_text tOk [7, 1000, 1001, 1002, 1003, 1004, 1005, 1006] (by kernel_rfl) (by simp [HeapIn, namers, namerDst, namerOp, namedOp, namedFn, ownLoad, Blk.has, hasRows, hasL, CV.has, hasRows_up, hasM_up, hasRows_append, hrows_len]; (try ((repeat' apply And.intro) <;> intros <;> omega))) fun kr hr => ?_)
   | (with_reducible first | refine s_op fun K' hk => ?_ | refine t_op fun K' hk => ?_ | (refine hk _ ?_; clear hk K') | (refine ht _ ?_; clear ht hf KT KF) | (refine hf _ ?_; clear ht hf KT KF) | ((first | refine s_nil ?_ | refine t_nil ?_); refine hr _ ?_; clear hr kr))
   | ((with_reducible refine n_seqK [0, 1, 2, 3, 4, 5, 6, 7, 9, 10, 11, 12, 20, 23, 25] [7, 1000, 1001, 1002, 1003, 1004, 1005, 1006] ?_); simp only [mk_keep, keepL, List.mem_cons, List.not_mem_nil, Nat.reduceEqDiff, Nat.zero_ne_one, Nat.one_ne_zero, reduceCtorEq, or_false, false_or, or_true, true_or, or_self, eq_self, ↓reduceIte])
   | (with_reducible first | refine s_cond fun KT KF ht hf => ?_ | refine s_skip ?_)
   | ((with_reducible refine s_long ?_); simp only [List.cons_append, List.nil_append])
   | (with_reducible first | refine s_exit ?_ | refine s_ret ?_ | refine e_seq ?_ | refine r_seq ?_ | refine n_block ?_ | refine e_block ?_ | refine r_block ?_ | refine e_loop ?_ | refine r_loop ?_ | refine e_round ?_ | refine r_round ?_ | refine s_round ?_ | refine f_block ?_ (by decide) | refine r_res ?_ | refine n_res ?_)
   | (simp only [hgb, go_sem, Int.reduceToNat, ↓reduceIte, reduceCtorEq, Nat.reduceEqDiff, Nat.reduceAdd, Nat.reduceMul, Nat.reduceLT, Nat.reduceLeDiff, Nat.reduceBEq, Int.reduceBEq, Int.reduceBNe, String.reduceBEq, Int.reduceEq, Int.reduceLT, Int.reduceLE, Int.reduceGE, Int.reduceGT, hrows_len]; clear hgb)
   | simp only [go_sem, Int.reduceToNat, ↓reduceIte, reduceCtorEq, Nat.reduceEqDiff, Nat.reduceAdd, Nat.reduceMul, Nat.reduceLT, Nat.reduceLeDiff, Nat.reduceBEq, Int.reduceBEq, Int.reduceBNe, String.reduceBEq, Int.reduceEq, Int.reduceLT, Int.reduceLE, Int.reduceGE, Int.reduceGT, hrows_len, hAll]
   | (refine ite_guard (fun hg => ?_) (fun hg => ?_) <;> (try simp only [Bool.not_eq_true, Bool.not_eq_false, Decidable.not_not] at hg) <;> (first | have hgb : (_ : Bool) = _ := hg | have hgb := ff hg | have hgb := tt hg))
   | (refine ⟨fun hc => ht _ ?_, fun hc => hf _ ?_⟩ <;> clear ht hf KT KF)
   | fail)
  refine w_loop [0, 1, 2, 9, 10, 11] [1000, 1001, 1002, 1003, 1004, 1005, 1006] (σ := Nat) (fun k st => st = mk [(0, V (.sl 2 (hrows l))), (1, .c (.mm 1000)), (2, .c (.fnc 55 [] [.mp 1001 0 0, .mp 1002 0 0, .mp 1003 0 0, .mp 1004 0 0, .mp 1005 0 0])), (9, V (.sl 2 (hrows l))), (10, I l.length), (11, I k)] [(1000, .map (WS.go ws[i] ms[i] ⟨s.cs, [], s.cm, s.mm, s.ov⟩ l k).cs (upIB (WS.go ws[i] ms[i] ⟨s.cs, [], s.cm, s.mm, s.ov⟩ l k).sm)), (1001, .cells 1 [[.t (.sl 1 (ints ws))]]), (1002, .cells 1 [[.t (.int .i64 i)]]), (1003, .cells 1 [[.t (.sl 1 (ints ms))]]), (1004, .cells 1 [[.t (.bool (WS.go ws[i] ms[i] ⟨s.cs, [], s.cm, s.mm, s.ov⟩ l k).ov)]]), (1005, .cells 1 [[.mm 1006]]), (1006, .map (WS.go ws[i] ms[i] ⟨s.cs, [], s.cm, s.mm, s.ov⟩ l k).cm (upII (WS.go ws[i] ms[i] ⟨s.cs, [], s.cm, s.mm, s.ov⟩ l k).mm))] ∧ k ≤ l.length) (fun k => l.length - k) 0 ?_ ?_
  · simp only [go_sem, Int.reduceToNat, ↓reduceIte, reduceCtorEq, Nat.reduceEqDiff, Nat.reduceAdd, Nat.reduceMul, Nat.reduceLT, Nat.reduceLeDiff, Nat.reduceBEq, Int.reduceBEq, Int.reduceBNe, String.reduceBEq, Int.reduceEq, Int.reduceLT, Int.reduceLE, Int.reduceGE, Int.reduceGT, mk_keep, keepL, List.mem_cons, List.not_mem_nil, Nat.reduceEqDiff, Nat.zero_ne_one, Nat.one_ne_zero, reduceCtorEq, or_false, false_or, or_true, true_or, or_self, eq_self, ↓reduceIte]
    exact ⟨rfl, Nat.zero_le _⟩
  rintro k st' ⟨rfl, hk9⟩
  by_cases hlt : k < l.length
  · have f1 := ltI hlt
    have f2 : (hrows l)[k]? = some (hrow l[k]) := by rw [hrows_get, get_of_lt hlt]; rfl
    have f3 := wUp hlt (by omega)
    have hgo : WS.go ws[i] ms[i] ⟨s.cs, [], s.cm, s.mm, s.ov⟩ l (k + 1) = (WS.go ws[i] ms[i] ⟨s.cs, [], s.cm, s.mm, s.ov⟩ l k).step ws[i] ms[i] l[k] := by rw [WS.go, List.getD_eq_getElem?_getD, get_of_lt hlt]; rfl
    obtain ⟨⟨cs, sm, cm, mm, ov⟩, hE⟩ : ∃ E, WS.go ws[i] ms[i] ⟨s.cs, [], s.cm, s.mm, s.ov⟩ l k = E := ⟨_, rfl⟩
    obtain ⟨⟨a, b⟩, hz9⟩ : ∃ z, l[k] = z := ⟨_, rfl⟩
    have hzb : In64 b := by have := hz l[k] (List.getElem_mem _); rw [hz9] at this; exact this
    rw [hE, hz9] at hgo
    rw [hz9] at f2
    rw [hE]
    have hr1 := weigh2_spec ((k + 1 : Nat) : Int) (a, b) ws ms i hi ov cm mm hw hzb
    have e1 : mset cm mm (a, b).1 (addF (mval 0 mm (a, b).1) (wNum ms[i] (mulOf ws[i] (a, b).2).1)).1 = mset cm mm a (addF (mval 0 mm a) (wNum ms[i] (mulOf ws[i] b).1)).1 := rfl
    have e2 : (wOver ms[i] (mulOf ws[i] (a, b).2).1 ov || !decide ((mulOf ws[i] (a, b).2).2 = 0) || !(addF (mval 0 mm (a, b).1) (wNum ms[i] (mulOf ws[i] (a, b).2).1)).2) = (wOver ms[i] (mulOf ws[i] b).1 ov || !decide ((mulOf ws[i] b).2 = 0) || !(addF (mval 0 mm a) (wNum ms[i] (mulOf ws[i] b).1)).2) := rfl
    rw [e1, e2, show mclk cm mm (a, b).1 = mclk cm mm a from rfl, show hcell (a, b) = [.t (.int .i64 a), .t (.int .i64 b)] from rfl, vec, vec] at hr1
    have hst0 : mval false sm a = false → WS.step ws[i] ms[i] ⟨cs, sm, cm, mm, ov⟩ (a, b) = ⟨mclk cs sm a, mset cs sm a true, mclk cm mm a, mset cm mm a (addF (mval 0 mm a) (wNum ms[i] (mulOf ws[i] b).1)).1, wOver ms[i] (mulOf ws[i] b).1 ov || !decide ((mulOf ws[i] b).2 = 0) || !(addF (mval 0 mm a) (wNum ms[i] (mulOf ws[i] b).1)).2⟩ := fun h => by simp [WS.step, h]
    generalize mset cm mm a (addF (mval 0 mm a) (wNum ms[i] (mulOf ws[i] b).1)).1 = mm2 at hr1 hst0
    generalize (wOver ms[i] (mulOf ws[i] b).1 ov || !decide ((mulOf ws[i] b).2 = 0) || !(addF (mval 0 mm a) (wNum ms[i] (mulOf ws[i] b).1)).2) = ov2 at hr1 hst0
    clear e1 e2
    cases hf : pfind a sm with
    | none =>
      have hst := hst0 (by simp [mval, hf])
      rw [show mclk cs sm a = cs + 1 by simp [mclk, hf], show mset cs sm a true = sm ++ [(a, true, cs)] by simp [mset, hf]] at hst
      repeat' (first
       | (with_reducible first | refine s_seq ?_ | refine s_block ?_ | refine s_region fun kr hr => ?_)
       | (with_reducible refine s_text tOk [7, 1000, 1001, 1002, 1003, 1004, 1005, 1006] (by kernel_rfl) (by simp [HeapIn, namers, namerDst, namerOp, namedOp, namedFn, ownLoad, Blk.has, hasRows, hasL, CV.has, hasRows_up, hasM_up, hasRows_append, f1, f2, f3, hf, hrow]; (try ((repeat' apply And.intro) <;> intros <;> omega))) fun kr hr => ?_)
       | (with_reducible first | refine s_op fun K' hk => ?_ | refine t_op fun K' hk => ?_ | (refine hk _ ?_; clear hk K') | (refine ht _ ?_; clear ht hf KT KF) | (refine hf _ ?_; clear ht hf KT KF) | ((first | refine s_nil ?_ | refine t_nil ?_); refine hr _ ?_; clear hr kr))
       | ((with_reducible refine n_seqK [0, 1, 2, 3, 4, 5, 6, 7, 9, 10, 11, 12, 20, 23, 25] [7, 1000, 1001, 1002, 1003, 1004, 1005, 1006] ?_); simp only [mk_keep, keepL, List.mem_cons, List.not_mem_nil, Nat.reduceEqDiff, Nat.zero_ne_one, Nat.one_ne_zero, reduceCtorEq, or_false, false_or, or_true, true_or, or_self, eq_self, ↓reduceIte])
       | (with_reducible first | refine s_cond fun KT KF ht hf => ?_ | refine s_skip ?_)
       | ((with_reducible refine s_long ?_); simp only [List.cons_append, List.nil_append])
       | (with_reducible first | refine s_exit ?_ | refine s_ret ?_ | refine e_seq ?_ | refine r_seq ?_ | refine n_block ?_ | refine e_block ?_ | refine r_block ?_ | refine e_loop ?_ | refine r_loop ?_ | refine e_round ?_ | refine r_round ?_ | refine s_round ?_ | refine f_block ?_ (by decide) | refine r_res ?_ | refine n_res ?_)
       | (simp only [hgb, go_sem, Int.reduceToNat, ↓reduceIte, reduceCtorEq, Nat.reduceEqDiff, Nat.reduceAdd, Nat.reduceMul, Nat.reduceLT, Nat.reduceLeDiff, Nat.reduceBEq, Int.reduceBEq, Int.reduceBNe, String.reduceBEq, Int.reduceEq, Int.reduceLT, Int.reduceLE, Int.reduceGE, Int.reduceGT, f1, f2, f3, hf, hrow, callE, resSV, AV.flat, CV.flat, TV.flat]; clear hgb)
       | simp only [go_sem, Int.reduceToNat, ↓reduceIte, reduceCtorEq, Nat.reduceEqDiff, Nat.reduceAdd, Nat.reduceMul, Nat.reduceLT, Nat.reduceLeDiff, Nat.reduceBEq, Int.reduceBEq, Int.reduceBNe, String.reduceBEq, Int.reduceEq, Int.reduceLT, Int.reduceLE, Int.reduceGE, Int.reduceGT, f1, f2, f3, hf, hrow, callE, resSV, AV.flat, CV.flat, TV.flat, hAll]
       | refine Or.inr (m_callN [(1000,1001),(1001,1002),(1002,1003),(1003,1004),(1004,1005),(1005,1006)] [1000,1001,1002,1003,1004,1005] [1000,1001,1002,1003,1004,1005] [] [1001, 1002, 1003, 1004, 1005, 1006] ⟨fun _ _ => rfl, hr1⟩ rfl rfl (by first | (simp [avren_v, avren_a, CV.ren, renL, renL_map, tbl]; done) | fail) rfl rfl rfl rfl (by decide) (by first | (simp [hAll, hRen, mk_heap, hL, tbl, Blk.ren, renRows_up, ren_up, renRows, renL, CV.ren]; done) | fail) (by first | (simp [Blk.has, hasRows, hasL, CV.has, hasRows_up, hasM_up]; done) | fail) (by first | (intro k; simp [hasA, AV.has, CV.has, hasL, Blk.has, hasRows, hasRows_up, hasM_up]; done) | (intro k; simp [hasA, AV.has, CV.has, hasL, Blk.has, hasRows, hasRows_up, hasM_up]; omega) | fail) ?_)
       | refine (m_callN [(1000,1001),(1001,1002),(1002,1003),(1003,1004),(1004,1005),(1005,1006)] [1000,1001,1002,1003,1004,1005] [1000,1001,1002,1003,1004,1005] [] [1001, 1002, 1003, 1004, 1005, 1006] ⟨fun _ _ => rfl, hr1⟩ rfl rfl (by first | (simp [avren_v, avren_a, CV.ren, renL, renL_map, tbl]; done) | fail) rfl rfl rfl rfl (by decide) (by first | (simp [hAll, hRen, mk_heap, hL, tbl, Blk.ren, renRows_up, ren_up, renRows, renL, CV.ren]; done) | fail) (by first | (simp [Blk.has, hasRows, hasL, CV.has, hasRows_up, hasM_up]; done) | fail) (by first | (intro k; simp [hasA, AV.has, CV.has, hasL, Blk.has, hasRows, hasRows_up, hasM_up]; done) | (intro k; simp [hasA, AV.has, CV.has, hasL, Blk.has, hasRows, hasRows_up, hasM_up]; omega) | fail) ?_)
       | (refine ite_guard (fun hg => ?_) (fun hg => ?_) <;> (try simp only [Bool.not_eq_true, Bool.not_eq_false, Decidable.not_not] at hg) <;> (first | have hgb : (_ : Bool) = _ := hg | have hgb := ff hg | have hgb := tt hg))
       | (refine ⟨fun hc => ht _ ?_, fun hc => hf _ ?_⟩ <;> clear ht hf KT KF)
       | fail)
      refine n_loop (k + 1) [0, 1, 2, 9, 10, 11] [1000, 1001, 1002, 1003, 1004, 1005, 1006] ⟨?_, hlt⟩ (by omega)
      simp only [go_sem, Int.reduceToNat, ↓reduceIte, reduceCtorEq, Nat.reduceEqDiff, Nat.reduceAdd, Nat.reduceMul, Nat.reduceLT, Nat.reduceLeDiff, Nat.reduceBEq, Int.reduceBEq, Int.reduceBNe, String.reduceBEq, Int.reduceEq, Int.reduceLT, Int.reduceLE, Int.reduceGE, Int.reduceGT, mk_keep, keepL, List.mem_cons, List.not_mem_nil, Nat.reduceEqDiff, Nat.zero_ne_one, Nat.one_ne_zero, reduceCtorEq, or_false, false_or, or_true, true_or, or_self, eq_self, ↓reduceIte, hgo, hst] <;> rfl
    | some ib =>
      obtain ⟨j, bb⟩ := ib
      cases bb with
      | true =>
        have hst : WS.step ws[i] ms[i] ⟨cs, sm, cm, mm, ov⟩ (a, b) = ⟨cs, sm, cm, mm, ov⟩ := by simp [WS.step, mval, hf]
        repeat' (first
         | (with_reducible first | refine s_seq ?_ | refine s_block ?_ | refine s_region fun kr hr => ?_)
         | (with_reducible refine s_text tOk [7, 1000, 1001, 1002, 1003, 1004, 1005, 1006] (by kernel_rfl) (by simp [HeapIn, namers, namerDst, namerOp, namedOp, namedFn, ownLoad, Blk.has, hasRows, hasL, CV.has, hasRows_up, hasM_up, hasRows_append, f1, f2, f3, hf, hrow]; (try ((repeat' apply And.intro) <;> intros <;> omega))) fun kr hr => ?_)
         | (with_reducible first | refine s_op fun K' hk => ?_ | refine t_op fun K' hk => ?_ | (refine hk _ ?_; clear hk K') | (refine ht _ ?_; clear ht hf KT KF) | (refine hf _ ?_; clear ht hf KT KF) | ((first | refine s_nil ?_ | refine t_nil ?_); refine hr _ ?_; clear hr kr))
         | ((with_reducible refine n_seqK [0, 1, 2, 3, 4, 5, 6, 7, 9, 10, 11, 12, 20, 23, 25] [7, 1000, 1001, 1002, 1003, 1004, 1005, 1006] ?_); simp only [mk_keep, keepL, List.mem_cons, List.not_mem_nil, Nat.reduceEqDiff, Nat.zero_ne_one, Nat.one_ne_zero, reduceCtorEq, or_false, false_or, or_true, true_or, or_self, eq_self, ↓reduceIte])
         | (with_reducible first | refine s_cond fun KT KF ht hf => ?_ | refine s_skip ?_)
         | ((with_reducible refine s_long ?_); simp only [List.cons_append, List.nil_append])
         | (with_reducible first | refine s_exit ?_ | refine s_ret ?_ | refine e_seq ?_ | refine r_seq ?_ | refine n_block ?_ | refine e_block ?_ | refine r_block ?_ | refine e_loop ?_ | refine r_loop ?_ | refine e_round ?_ | refine r_round ?_ | refine s_round ?_ | refine f_block ?_ (by decide) | refine r_res ?_ | refine n_res ?_)
         | (simp only [hgb, go_sem, Int.reduceToNat, ↓reduceIte, reduceCtorEq, Nat.reduceEqDiff, Nat.reduceAdd, Nat.reduceMul, Nat.reduceLT, Nat.reduceLeDiff, Nat.reduceBEq, Int.reduceBEq, Int.reduceBNe, String.reduceBEq, Int.reduceEq, Int.reduceLT, Int.reduceLE, Int.reduceGE, Int.reduceGT, f1, f2, f3, hf, hrow]; clear hgb)
         | simp only [go_sem, Int.reduceToNat, ↓reduceIte, reduceCtorEq, Nat.reduceEqDiff, Nat.reduceAdd, Nat.reduceMul, Nat.reduceLT, Nat.reduceLeDiff, Nat.reduceBEq, Int.reduceBEq, Int.reduceBNe, String.reduceBEq, Int.reduceEq, Int.reduceLT, Int.reduceLE, Int.reduceGE, Int.reduceGT, f1, f2, f3, hf, hrow, hAll]
         | (refine ite_guard (fun hg => ?_) (fun hg => ?_) <;> (try simp only [Bool.not_eq_true, Bool.not_eq_false, Decidable.not_not] at hg) <;> (first | have hgb : (_ : Bool) = _ := hg | have hgb := ff hg | have hgb := tt hg))
         | (refine ⟨fun hc => ht _ ?_, fun hc => hf _ ?_⟩ <;> clear ht hf KT KF)
         | fail)
        refine n_loop (k + 1) [0, 1, 2, 9, 10, 11] [1000, 1001, 1002, 1003, 1004, 1005, 1006] ⟨?_, hlt⟩ (by omega)
        simp only [go_sem, Int.reduceToNat, ↓reduceIte, reduceCtorEq, Nat.reduceEqDiff, Nat.reduceAdd, Nat.reduceMul, Nat.reduceLT, Nat.reduceLeDiff, Nat.reduceBEq, Int.reduceBEq, Int.reduceBNe, String.reduceBEq, Int.reduceEq, Int.reduceLT, Int.reduceLE, Int.reduceGE, Int.reduceGT, mk_keep, keepL, List.mem_cons, List.not_mem_nil, Nat.reduceEqDiff, Nat.zero_ne_one, Nat.one_ne_zero, reduceCtorEq, or_false, false_or, or_true, true_or, or_self, eq_self, ↓reduceIte, hgo, hst] <;> rfl
      | false =>
        have hst := hst0 (by simp [mval, hf])
        rw [show mclk cs sm a = cs by simp [mclk, hf], show mset cs sm a true = sm.modify j fun e => (a, true, e.2.2) by simp [mset, hf]] at hst
        repeat' (first
         | (with_reducible first | refine s_seq ?_ | refine s_block ?_ | refine s_region fun kr hr => ?_)
         | (with_reducible refine s_text tOk [7, 1000, 1001, 1002, 1003, 1004, 1005, 1006] (by kernel_rfl) (by simp [HeapIn, namers, namerDst, namerOp, namedOp, namedFn, ownLoad, Blk.has, hasRows, hasL, CV.has, hasRows_up, hasM_up, hasRows_append, f1, f2, f3, hf, hrow]; (try ((repeat' apply And.intro) <;> intros <;> omega))) fun kr hr => ?_)
         | (with_reducible first | refine s_op fun K' hk => ?_ | refine t_op fun K' hk => ?_ | (refine hk _ ?_; clear hk K') | (refine ht _ ?_; clear ht hf KT KF) | (refine hf _ ?_; clear ht hf KT KF) | ((first | refine s_nil ?_ | refine t_nil ?_); refine hr _ ?_; clear hr kr))
         | ((with_reducible refine n_seqK [0, 1, 2, 3, 4, 5, 6, 7, 9, 10, 11, 12, 20, 23, 25] [7, 1000, 1001, 1002, 1003, 1004, 1005, 1006] ?_); simp only [mk_keep, keepL, List.mem_cons, List.not_mem_nil, Nat.reduceEqDiff, Nat.zero_ne_one, Nat.one_ne_zero, reduceCtorEq, or_false, false_or, or_true, true_or, or_self, eq_self, ↓reduceIte])
         | (with_reducible first | refine s_cond fun KT KF ht hf => ?_ | refine s_skip ?_)
         | ((with_reducible refine s_long ?_); simp only [List.cons_append, List.nil_append])
         | (with_reducible first | refine s_exit ?_ | refine s_ret ?_ | refine e_seq ?_ | refine r_seq ?_ | refine n_block ?_ | refine e_block ?_ | refine r_block ?_ | refine e_loop ?_ | refine r_loop ?_ | refine e_round ?_ | refine r_round ?_ | refine s_round ?_ | refine f_block ?_ (by decide) | refine r_res ?_ | refine n_res ?_)
         | (simp only [hgb, go_sem, Int.reduceToNat, ↓reduceIte, reduceCtorEq, Nat.reduceEqDiff, Nat.reduceAdd, Nat.reduceMul, Nat.reduceLT, Nat.reduceLeDiff, Nat.reduceBEq, Int.reduceBEq, Int.reduceBNe, String.reduceBEq, Int.reduceEq, Int.reduceLT, Int.reduceLE, Int.reduceGE, Int.reduceGT, f1, f2, f3, hf, hrow, callE, resSV, AV.flat, CV.flat, TV.flat]; clear hgb)
         | simp only [go_sem, Int.reduceToNat, ↓reduceIte, reduceCtorEq, Nat.reduceEqDiff, Nat.reduceAdd, Nat.reduceMul, Nat.reduceLT, Nat.reduceLeDiff, Nat.reduceBEq, Int.reduceBEq, Int.reduceBNe, String.reduceBEq, Int.reduceEq, Int.reduceLT, Int.reduceLE, Int.reduceGE, Int.reduceGT, f1, f2, f3, hf, hrow, callE, resSV, AV.flat, CV.flat, TV.flat, hAll]
         | refine Or.inr (m_callN [(1000,1001),(1001,1002),(1002,1003),(1003,1004),(1004,1005),(1005,1006)] [1000,1001,1002,1003,1004,1005] [1000,1001,1002,1003,1004,1005] [] [1001, 1002, 1003, 1004, 1005, 1006] ⟨fun _ _ => rfl, hr1⟩ rfl rfl (by first | (simp [avren_v, avren_a, CV.ren, renL, renL_map, tbl]; done) | fail) rfl rfl rfl rfl (by decide) (by first | (simp [hAll, hRen, mk_heap, hL, tbl, Blk.ren, renRows_up, ren_up, renRows, renL, CV.ren]; done) | fail) (by first | (simp [Blk.has, hasRows, hasL, CV.has, hasRows_up, hasM_up]; done) | fail) (by first | (intro k; simp [hasA, AV.has, CV.has, hasL, Blk.has, hasRows, hasRows_up, hasM_up]; done) | (intro k; simp [hasA, AV.has, CV.has, hasL, Blk.has, hasRows, hasRows_up, hasM_up]; omega) | fail) ?_)
         | refine (m_callN [(1000,1001),(1001,1002),(1002,1003),(1003,1004),(1004,1005),(1005,1006)] [1000,1001,1002,1003,1004,1005] [1000,1001,1002,1003,1004,1005] [] [1001, 1002, 1003, 1004, 1005, 1006] ⟨fun _ _ => rfl, hr1⟩ rfl rfl (by first | (simp [avren_v, avren_a, CV.ren, renL, renL_map, tbl]; done) | fail) rfl rfl rfl rfl (by decide) (by first | (simp [hAll, hRen, mk_heap, hL, tbl, Blk.ren, renRows_up, ren_up, renRows, renL, CV.ren]; done) | fail) (by first | (simp [Blk.has, hasRows, hasL, CV.has, hasRows_up, hasM_up]; done) | fail) (by first | (intro k; simp [hasA, AV.has, CV.has, hasL, Blk.has, hasRows, hasRows_up, hasM_up]; done) | (intro k; simp [hasA, AV.has, CV.has, hasL, Blk.has, hasRows, hasRows_up, hasM_up]; omega) | fail) ?_)
         | (refine ite_guard (fun hg => ?_) (fun hg => ?_) <;> (try simp only [Bool.not_eq_true, Bool.not_eq_false, Decidable.not_not] at hg) <;> (first | have hgb : (_ : Bool) = _ := hg | have hgb := ff hg | have hgb := tt hg))
         | (refine ⟨fun hc => ht _ ?_, fun hc => hf _ ?_⟩ <;> clear ht hf KT KF)
         | fail)
        refine n_loop (k + 1) [0, 1, 2, 9, 10, 11] [1000, 1001, 1002, 1003, 1004, 1005, 1006] ⟨?_, hlt⟩ (by omega)
        simp only [go_sem, Int.reduceToNat, ↓reduceIte, reduceCtorEq, Nat.reduceEqDiff, Nat.reduceAdd, Nat.reduceMul, Nat.reduceLT, Nat.reduceLeDiff, Nat.reduceBEq, Int.reduceBEq, Int.reduceBNe, String.reduceBEq, Int.reduceEq, Int.reduceLT, Int.reduceLE, Int.reduceGE, Int.reduceGT, mk_keep, keepL, List.mem_cons, List.not_mem_nil, Nat.reduceEqDiff, Nat.zero_ne_one, Nat.one_ne_zero, reduceCtorEq, or_false, false_or, or_true, true_or, or_self, eq_self, ↓reduceIte, hgo, hst] <;> rfl
  · obtain rfl : k = l.length := by omega
    have f1 := nltI hlt
    repeat' (first
     | (with_reducible first | refine s_seq ?_ | refine s_block ?_ | refine s_region fun kr hr => ?_)
     | (with_reducible refine s_text tOk [7, 1000, 1001, 1002, 1003, 1004, 1005, 1006] (by kernel_rfl) (by simp [HeapIn, namers, namerDst, namerOp, namedOp, namedFn, ownLoad, Blk.has, hasRows, hasL, CV.has, hasRows_up, hasM_up, hasRows_append, f1]; (try ((repeat' apply And.intro) <;> intros <;> omega))) fun kr hr => ?_)
     | (with_reducible first | refine s_op fun K' hk => ?_ | refine t_op fun K' hk => ?_ | (refine hk _ ?_; clear hk K') | (refine ht _ ?_; clear ht hf KT KF) | (refine hf _ ?_; clear ht hf KT KF) | ((first | refine s_nil ?_ | refine t_nil ?_); refine hr _ ?_; clear hr kr))
     | ((with_reducible refine n_seqK [0, 1, 2, 3, 4, 5, 6, 7, 9, 10, 11, 12, 20, 23, 25] [7, 1000, 1001, 1002, 1003, 1004, 1005, 1006] ?_); simp only [mk_keep, keepL, List.mem_cons, List.not_mem_nil, Nat.reduceEqDiff, Nat.zero_ne_one, Nat.one_ne_zero, reduceCtorEq, or_false, false_or, or_true, true_or, or_self, eq_self, ↓reduceIte])
     | (with_reducible first | refine s_cond fun KT KF ht hf => ?_ | refine s_skip ?_)
     | ((with_reducible refine s_long ?_); simp only [List.cons_append, List.nil_append])
     | (with_reducible first | refine s_exit ?_ | refine s_ret ?_ | refine e_seq ?_ | refine r_seq ?_ | refine n_block ?_ | refine e_block ?_ | refine r_block ?_ | refine e_loop ?_ | refine r_loop ?_ | refine e_round ?_ | refine r_round ?_ | refine s_round ?_ | refine f_block ?_ (by decide) | refine r_res ?_ | refine n_res ?_)
     | (simp only [hgb, go_sem, Int.reduceToNat, ↓reduceIte, reduceCtorEq, Nat.reduceEqDiff, Nat.reduceAdd, Nat.reduceMul, Nat.reduceLT, Nat.reduceLeDiff, Nat.reduceBEq, Int.reduceBEq, Int.reduceBNe, String.reduceBEq, Int.reduceEq, Int.reduceLT, Int.reduceLE, Int.reduceGE, Int.reduceGT, f1]; clear hgb)
     | simp only [go_sem, Int.reduceToNat, ↓reduceIte, reduceCtorEq, Nat.reduceEqDiff, Nat.reduceAdd, Nat.reduceMul, Nat.reduceLT, Nat.reduceLeDiff, Nat.reduceBEq, Int.reduceBEq, Int.reduceBNe, String.reduceBEq, Int.reduceEq, Int.reduceLT, Int.reduceLE, Int.reduceGE, Int.reduceGT, f1, hAll]
     | (refine ite_guard (fun hg => ?_) (fun hg => ?_) <;> (try simp only [Bool.not_eq_true, Bool.not_eq_false, Decidable.not_not] at hg) <;> (first | have hgb : (_ : Bool) = _ := hg | have hgb := ff hg | have hgb := tt hg))
     | (refine ⟨fun hc => ht _ ?_, fun hc => hf _ ?_⟩ <;> clear ht hf KT KF)
     | fail)
end Go.Proofs.Ytgmjgognpabmdaa.Fx
