/- The law FuseRanks. -/
import Derived.Test.YtgmjgognpabmdaaFxRefRank
import Derived.Test.YtgmjgognpabmdaaFxAwake25
-- ren_map
namespace Go.Proofs.Ytgmjgognpabmdaa.Fx
open Go Go.RowKit
set_option maxRecDepth 100000
set_option linter.unusedSimpArgs false
set_option linter.unusedVariables false
/-- Rankings, each with a hit behind its end. -/
def xlist (l : List Ht) : TV := .slx 2 (hrows (l ++ [(77, 0)])) l.length
def xlists (ls : List (List Ht)) : List (List TV) := ls.map fun l => [xlist l]
theorem xlists_len (ls : List (List Ht)) : (xlists ls).length = ls.length := by simp [xlists]
theorem xlists_get (ls : List (List Ht)) (i : Nat) : (xlists ls)[i]? = (ls[i]?).map fun l => [xlist l] := by simp [xlists]
theorem hrows_snoc (l : List Ht) (z : Ht) : hrows (l ++ [z]) = hrows l ++ [hrow z] := by simp [hrows]
theorem slx_forget {hw : Nat → Nat} {w : World} {l : List Ht} {y : Value} (h : TVR hw w (xlist l) y) : TVR hw w (.sl 2 (hrows l)) y := by
  unfold xlist at h
  generalize hX : hrows (l ++ [(77, 0)]) = X at h
  generalize hL9 : l.length = L at h
  have e1 : (hrows l).length = L := by rw [hrows_len, hL9]
  cases h with
  | slx _ _ _ b o cap f h0 hl hL hc he g1 g2 =>
    subst hX
    rw [hrows_snoc] at hl hL hc he g1 g2
    rw [List.length_append, List.length_singleton, e1] at hL hc he g1
    by_cases hn : L = 0
    · have : l = [] := List.length_eq_zero_iff.1 (by omega)
      subst this
      subst hn
      exact .nil 2 _ cap
    · rw [← e1]
      refine .sl 2 (hrows l) b o cap f h0 (fun r hr => hl r (List.mem_append.2 (.inl hr))) (by omega) (by omega) (fun i j hi hj => g1 i j (by omega) hj) fun i r j x hr hx => g2 i r j x ?_ hx
      have hi := (List.getElem?_eq_some_iff.1 hr).1
      rw [List.getElem?_append_left hi]; exact hr
theorem lists_forget {hw : Nat → Nat} {w : World} {ls : List (List Ht)} {y : Value} (h : TVR hw w (.sl 1 (xlists ls)) y) : TVR hw w (.sl 1 (lists ls)) y := by
  generalize hX : xlists ls = X at h
  have e1 : (lists ls).length = X.length := by rw [← hX, lists_len, xlists_len]
  cases h with
  | nil sz a cap =>
    have : ls = [] := List.length_eq_zero_iff.1 (by rw [← xlists_len, hX]; rfl)
    subst this
    exact .nil 1 a cap
  | sl _ _ b o cap f h0 hl hc he g1 g2 =>
    rw [← e1] at hc he g1 ⊢
    refine .sl 1 (lists ls) b o cap f h0 (fun r hr => ?_) hc he g1 fun i r j x hr hx => ?_
    · obtain ⟨l, _, rfl⟩ := List.mem_map.1 hr; rfl
    · rw [lists_get] at hr
      obtain ⟨l, hl9, rfl⟩ := Option.map_eq_some_iff.1 hr
      cases j with
      | succ j => simp at hx
      | zero =>
        obtain rfl := Option.some.inj hx
        exact slx_forget (g2 i [xlist l] 0 (xlist l) (by rw [← hX, xlists_get, hl9]; rfl) rfl)
theorem Spec.arg {P : Program} {f : FuncId} {v v' : TV} {rest : List AV} {h h' : List (Nat × Blk)} {res : List AV} (hv : ∀ hw w x, TVR hw w v x → TVR hw w v' x) (hs : Spec P f (.v (.t v') :: rest) h res h') : Spec P f (.v (.t v) :: rest) h res h' := fun w G vals ha hn hz =>
  hs w G vals (match vals, ha with
    | x :: vs, ⟨h1, h2⟩ => ⟨.t (hv _ _ _ (cv_tv h1)), h2⟩) hn hz
theorem tot_small4 {ls : List (List Ht)} (h1 : ls.length ≤ 1048576) (h2 : ∀ l ∈ ls, l.length ≤ 1048576) : tot ls * 16 ≤ 70368744177664 := by
  have key : ∀ ls : List (List Ht), (∀ l ∈ ls, l.length ≤ 1048576) → tot ls ≤ ls.length * 1048576 := by
    intro ls
    induction ls with
    | nil => intro _; simp [tot]
    | cons l ls ih =>
      intro h
      have := ih fun x hx => h x (by simp [hx])
      have := h l (by simp)
      simp only [tot, List.map_cons, List.sum_cons, List.length_cons] at *
      omega
  have := key ls h2
  omega
set_option maxHeartbeats 4000000 in
theorem twinx_named (ls : List (List Ht)) (hl : tot ls * 16 ≤ 70368744177664) (hn : ls.length * 24 ≤ 140737488355328) : Spec Try.prog 28 [.v (.t (.sl 1 (lists ls)))] [] [.v (.mr 27 0 ls.length)] [(27, .cells 1 (up (xlists ls)))] := by
  have hll : (lists ls).length = ls.length := lists_len ls
  refine spec_by Try.func28 rfl mixed tOk evOk (n := 29) rfl (by simp) (by simp) ?_
  rw [initSt_mk, show Try.f28.results.toList = [.tmp 2] from rfl]
  simp only [initL, AV.sv, List.map_cons, List.map_nil, Nat.reduceAdd, Nat.zero_add]
  repeat' (first
   | (with_reducible first | refine s_seq ?_ | refine s_block ?_ | refine s_region fun kr hr => ?_)
   | (with_reducible refine s_text tOk [16, 18, 19, 26, 27, 1000, 1001, 1002, 1003] (by kernel_rfl) (by simp [HeapIn, namers, namerDst, namerOp, namedOp, namedFn, ownLoad, Blk.has, hasRows, hasL, CV.has, hasRows_up, hasM_up, hasRows_append, hll]; (try ((repeat' apply And.intro) <;> intros <;> omega))) fun kr hr => ?_)
   | (with_reducible first | refine s_op fun K' hk => ?_ | refine t_op fun K' hk => ?_ | (refine hk _ ?_; clear hk K') | (refine ht _ ?_; clear ht hf KT KF) | (refine hf _ ?_; clear ht hf KT KF) | ((first | refine s_nil ?_ | refine t_nil ?_); refine hr _ ?_; clear hr kr))
   | ((with_reducible refine n_seqK [0, 1, 2, 3, 4, 8] [16, 18, 19, 26, 27] ?_); simp only [mk_keep, keepL, List.mem_cons, List.not_mem_nil, Nat.reduceEqDiff, Nat.zero_ne_one, Nat.one_ne_zero, reduceCtorEq, or_false, false_or, or_true, true_or, or_self, eq_self, ↓reduceIte])
   | (with_reducible first | refine s_cond fun KT KF ht hf => ?_ | refine s_skip ?_)
   | ((with_reducible refine s_long ?_); simp only [List.cons_append, List.nil_append])
   | (with_reducible first | refine s_exit ?_ | refine s_ret ?_ | refine e_seq ?_ | refine r_seq ?_ | refine n_block ?_ | refine e_block ?_ | refine r_block ?_ | refine e_loop ?_ | refine r_loop ?_ | refine e_round ?_ | refine r_round ?_ | refine s_round ?_ | refine f_block ?_ (by decide) | refine r_res ?_ | refine n_res ?_)
   | (simp only [hgb, go_sem, Int.reduceToNat, ↓reduceIte, reduceCtorEq, Nat.reduceEqDiff, Nat.reduceAdd, Nat.reduceMul, Nat.reduceLT, Nat.reduceLeDiff, Nat.reduceBEq, Int.reduceBEq, Int.reduceBNe, String.reduceBEq, Int.reduceEq, Int.reduceLT, Int.reduceLE, Int.reduceGE, Int.reduceGT, hll]; clear hgb)
   | simp only [go_sem, Int.reduceToNat, ↓reduceIte, reduceCtorEq, Nat.reduceEqDiff, Nat.reduceAdd, Nat.reduceMul, Nat.reduceLT, Nat.reduceLeDiff, Nat.reduceBEq, Int.reduceBEq, Int.reduceBNe, String.reduceBEq, Int.reduceEq, Int.reduceLT, Int.reduceLE, Int.reduceGE, Int.reduceGT, hll, hAll]
   | (refine ite_guard (fun hg => ?_) (fun hg => ?_) <;> (try simp only [Bool.not_eq_true, Bool.not_eq_false, Decidable.not_not] at hg) <;> (first | have hgb : (_ : Bool) = _ := hg | have hgb := ff hg | have hgb := tt hg))
   | (refine ⟨fun hc => ht _ ?_, fun hc => hf _ ?_⟩ <;> clear ht hf KT KF)
   | fail)
  refine w_loopG _ (gho_nilName (s := 3) (d := 27) (sz := 1) (by decide) ⟨1, rfl⟩ (by rw [fresh_t]; exact trivial; rfl)) ?_
  rw [mk_nilName]
  refine w_loop [0, 3, 4] [27] (σ := Nat) (fun k st => st = mk [(0, V (.sl 1 (lists ls))), (3, .c (.mr 27 0 k)), (4, I k)] [(27, .cells 1 (up (xlists (ls.take k))))] ∧ k ≤ ls.length) (fun k => ls.length - k) 0 ?_ ?_
  · refine ⟨?_, Nat.zero_le _⟩
    simp only [go_sem, Int.reduceToNat, ↓reduceIte, reduceCtorEq, Nat.reduceEqDiff, Nat.reduceAdd, Nat.reduceMul, Nat.reduceLT, Nat.reduceLeDiff, Nat.reduceBEq, Int.reduceBEq, Int.reduceBNe, String.reduceBEq, Int.reduceEq, Int.reduceLT, Int.reduceLE, Int.reduceGE, Int.reduceGT, mk_keep, keepL, List.mem_cons, List.not_mem_nil, Nat.reduceEqDiff, Nat.zero_ne_one, Nat.one_ne_zero, reduceCtorEq, or_false, false_or, or_true, true_or, or_self, eq_self, ↓reduceIte]
    rfl
  rintro k st' ⟨rfl, hk⟩
  have hlk : (xlists (ls.take k)).length = k := by rw [xlists_len, List.length_take]; omega
  have htk : (up (xlists (ls.take k))).take k = up (xlists (ls.take k)) := List.take_of_length_le (by rw [up_length]; omega)
  by_cases hlt : k < ls.length
  · have f1 := ltI hlt
    have f2 : (lists ls)[k]? = some [.sl 2 (hrows ls[k])] := by rw [lists_get, get_of_lt hlt]; rfl
    have f3 := wUp hlt (by omega)
    have hlen := len_tot hlt
    have hus : up (xlists (ls.take k)) ++ [[.t (.slx 2 (hrows (ls[k] ++ [(77, 0)])) ls[k].length)]] = up (xlists (ls.take (k + 1))) := by
      rw [List.take_succ_eq_append_getElem hlt]; simp only [xlists, xlist, up, List.map_append, List.map_cons, List.map_nil]
    have hl2 : (xlists (ls.take (k + 1))).length = k + 1 := by rw [xlists_len, List.length_take]; omega
    generalize ls[k] = l at *
    have b1 := tt (show l.length * 16 ≤ 140737488355328 by omega)
    have b2 := tt (show l.length ≤ 9223372036854775807 by omega)
    have b3 := tt (show (k + 1) * 24 ≤ 140737488355328 by omega)
    have b4 := tt (show k ≤ 9223372036854775806 by omega)
    have b5 := tt (show (l.length + 1) * 16 ≤ 140737488355328 by omega)
    have b6 := tt (show l.length ≤ 9223372036854775806 by omega)
    have e0 : (hrows l).length = l.length := hrows_len l
    have e1 : (up (hrows l)).take l.length = up (hrows l) := List.take_of_length_le (by rw [up_length]; omega)
    have e2 : up (hrows l) ++ [[.t (.int .i64 77), .t (.int .i64 0)]] = up (hrows (l ++ [(77, 0)])) := by simp [up, hrows, hrow]
    have e3 : (hrows (l ++ [(77, 0)])).length = l.length + 1 := by rw [hrows_len]; simp
    have e4 : (hrows (l ++ [(77, 0)])).take (l.length + 1) = hrows (l ++ [(77, 0)]) := List.take_of_length_le (by omega)
    have e5 := tt (show l.length ≤ l.length + 1 by omega)
    have e6 := tt (show 0 < l.length + 1 by omega)
    have b7 := tt (Nat.zero_le l.length)
    repeat' (first
     | with_reducible refine s_draw (id := 5) ?_
     | ((with_reducible refine a_seg tOk [16, 18, 19, 26, 27] 18 0 16 (by decide) (by kernel_rfl) (by simp [HeapIn, namers, namerDst, namerOp, namedOp, namedFn, ownLoad, Blk.has, hasRows, hasL, CV.has, hasRows_up, hasM_up, hasRows_append, f1, f2, f3, b7, b1, b2, b3, b4, b5, b6, e0, e1, e2, e3, e4, e5, e6, hll, hlk, htk, hus, hl2, viewRows_up]; (try ((repeat' apply And.intro) <;> intros <;> omega))) fun kr hr => ?_); simp only [List.drop_succ_cons, List.drop_zero, List.take_succ_cons, List.take_zero, List.map_cons, List.map_nil, List.cons_append, List.nil_append, Nat.reduceSub])
     | ((with_reducible refine a_seg tOk [16, 18, 19, 26, 27] 18 17 18 (by decide) (by kernel_rfl) (by simp [HeapIn, namers, namerDst, namerOp, namedOp, namedFn, ownLoad, Blk.has, hasRows, hasL, CV.has, hasRows_up, hasM_up, hasRows_append, f1, f2, f3, b7, b1, b2, b3, b4, b5, b6, e0, e1, e2, e3, e4, e5, e6, hll, hlk, htk, hus, hl2, viewRows_up]; (try ((repeat' apply And.intro) <;> intros <;> omega))) fun kr hr => ?_); simp only [List.drop_succ_cons, List.drop_zero, List.take_succ_cons, List.take_zero, List.map_cons, List.map_nil, List.cons_append, List.nil_append, Nat.reduceSub])
     | ((with_reducible refine a_one 18 16 (by decide) (by kernel_rfl) fun kr hr => ?_); simp only [List.drop_succ_cons, List.drop_zero, List.take_succ_cons, List.take_zero, List.map_cons, List.map_nil, List.cons_append, List.nil_append, Nat.reduceSub])
     | with_reducible refine a_end 18 (by decide) ?_
     | (with_reducible refine hr _ ?_; clear hr kr)
     | (with_reducible first | refine s_seq ?_ | refine s_block ?_ | refine s_region fun kr hr => ?_)
     | (with_reducible refine s_text tOk [16, 18, 19, 26, 27] (by kernel_rfl) (by simp [HeapIn, namers, namerDst, namerOp, namedOp, namedFn, ownLoad, Blk.has, hasRows, hasL, CV.has, hasRows_up, hasM_up, hasRows_append, f1, f2, f3, b7, b1, b2, b3, b4, b5, b6, e0, e1, e2, e3, e4, e5, e6, hll, hlk, htk, hus, hl2, viewRows_up]; (try ((repeat' apply And.intro) <;> intros <;> omega))) fun kr hr => ?_)
     | (with_reducible first | refine s_op fun K' hk => ?_ | refine t_op fun K' hk => ?_ | (refine hk _ ?_; clear hk K') | (refine ht _ ?_; clear ht hf KT KF) | (refine hf _ ?_; clear ht hf KT KF) | ((first | refine s_nil ?_ | refine t_nil ?_); refine hr _ ?_; clear hr kr))
     | ((with_reducible refine n_seqK [0, 1, 2, 3, 4, 8] [16, 18, 19, 26, 27] ?_); simp only [mk_keep, keepL, List.mem_cons, List.not_mem_nil, Nat.reduceEqDiff, Nat.zero_ne_one, Nat.one_ne_zero, reduceCtorEq, or_false, false_or, or_true, true_or, or_self, eq_self, ↓reduceIte])
     | (with_reducible first | refine s_cond fun KT KF ht hf => ?_ | refine s_skip ?_)
     | ((with_reducible refine s_long ?_); simp only [List.cons_append, List.nil_append])
     | (with_reducible first | refine s_exit ?_ | refine s_ret ?_ | refine e_seq ?_ | refine r_seq ?_ | refine n_block ?_ | refine e_block ?_ | refine r_block ?_ | refine e_loop ?_ | refine r_loop ?_ | refine e_round ?_ | refine r_round ?_ | refine s_round ?_ | refine f_block ?_ (by decide) | refine r_res ?_ | refine n_res ?_)
     | (simp only [hgb, go_sem, Int.reduceToNat, ↓reduceIte, reduceCtorEq, Nat.reduceEqDiff, Nat.reduceAdd, Nat.reduceMul, Nat.reduceLT, Nat.reduceLeDiff, Nat.reduceBEq, Int.reduceBEq, Int.reduceBNe, String.reduceBEq, Int.reduceEq, Int.reduceLT, Int.reduceLE, Int.reduceGE, Int.reduceGT, f1, f2, f3, b7, b1, b2, b3, b4, b5, b6, e0, e1, e2, e3, e4, e5, e6, hll, hlk, htk, hus, hl2, viewRows_up]; clear hgb)
     | simp only [go_sem, Int.reduceToNat, ↓reduceIte, reduceCtorEq, Nat.reduceEqDiff, Nat.reduceAdd, Nat.reduceMul, Nat.reduceLT, Nat.reduceLeDiff, Nat.reduceBEq, Int.reduceBEq, Int.reduceBNe, String.reduceBEq, Int.reduceEq, Int.reduceLT, Int.reduceLE, Int.reduceGE, Int.reduceGT, f1, f2, f3, b7, b1, b2, b3, b4, b5, b6, e0, e1, e2, e3, e4, e5, e6, hll, hlk, htk, hus, hl2, viewRows_up, hAll]
     | (refine ite_guard (fun hg => ?_) (fun hg => ?_) <;> (try simp only [Bool.not_eq_true, Bool.not_eq_false, Decidable.not_not] at hg) <;> (first | have hgb : (_ : Bool) = _ := hg | have hgb := ff hg | have hgb := tt hg))
     | (refine ⟨fun hc => ht _ ?_, fun hc => hf _ ?_⟩ <;> clear ht hf KT KF)
     | fail)
    refine n_loop (k + 1) [0, 3, 4] [27] ⟨?_, hlt⟩ (by omega)
    simp only [go_sem, Int.reduceToNat, ↓reduceIte, reduceCtorEq, Nat.reduceEqDiff, Nat.reduceAdd, Nat.reduceMul, Nat.reduceLT, Nat.reduceLeDiff, Nat.reduceBEq, Int.reduceBEq, Int.reduceBNe, String.reduceBEq, Int.reduceEq, Int.reduceLT, Int.reduceLE, Int.reduceGE, Int.reduceGT, mk_keep, keepL, List.mem_cons, List.not_mem_nil, Nat.reduceEqDiff, Nat.zero_ne_one, Nat.one_ne_zero, reduceCtorEq, or_false, false_or, or_true, true_or, or_self, eq_self, ↓reduceIte]
  · obtain rfl : k = ls.length := by omega
    have f1 := nltI hlt
    rw [List.take_length] at hlk htk ⊢
    repeat' (first
     | (with_reducible first | refine s_seq ?_ | refine s_block ?_ | refine s_region fun kr hr => ?_)
     | (with_reducible refine s_text tOk [16, 18, 19, 26, 27, 1000, 1001, 1002, 1003] (by kernel_rfl) (by simp [HeapIn, namers, namerDst, namerOp, namedOp, namedFn, ownLoad, Blk.has, hasRows, hasL, CV.has, hasRows_up, hasM_up, hasRows_append, f1, hlk, htk, hll]; (try ((repeat' apply And.intro) <;> intros <;> omega))) fun kr hr => ?_)
     | (with_reducible first | refine s_op fun K' hk => ?_ | refine t_op fun K' hk => ?_ | (refine hk _ ?_; clear hk K') | (refine ht _ ?_; clear ht hf KT KF) | (refine hf _ ?_; clear ht hf KT KF) | ((first | refine s_nil ?_ | refine t_nil ?_); refine hr _ ?_; clear hr kr))
     | ((with_reducible refine n_seqK [0, 1, 2, 3, 4, 8] [16, 18, 19, 26, 27] ?_); simp only [mk_keep, keepL, List.mem_cons, List.not_mem_nil, Nat.reduceEqDiff, Nat.zero_ne_one, Nat.one_ne_zero, reduceCtorEq, or_false, false_or, or_true, true_or, or_self, eq_self, ↓reduceIte])
     | (with_reducible first | refine s_cond fun KT KF ht hf => ?_ | refine s_skip ?_)
     | ((with_reducible refine s_long ?_); simp only [List.cons_append, List.nil_append])
     | (with_reducible first | refine s_exit ?_ | refine s_ret ?_ | refine e_seq ?_ | refine r_seq ?_ | refine n_block ?_ | refine e_block ?_ | refine r_block ?_ | refine e_loop ?_ | refine r_loop ?_ | refine e_round ?_ | refine r_round ?_ | refine s_round ?_ | refine f_block ?_ (by decide) | refine r_res ?_ | refine n_res ?_)
     | (simp only [hgb, go_sem, Int.reduceToNat, ↓reduceIte, reduceCtorEq, Nat.reduceEqDiff, Nat.reduceAdd, Nat.reduceMul, Nat.reduceLT, Nat.reduceLeDiff, Nat.reduceBEq, Int.reduceBEq, Int.reduceBNe, String.reduceBEq, Int.reduceEq, Int.reduceLT, Int.reduceLE, Int.reduceGE, Int.reduceGT, f1, hlk, htk, hll]; clear hgb)
     | simp only [go_sem, Int.reduceToNat, ↓reduceIte, reduceCtorEq, Nat.reduceEqDiff, Nat.reduceAdd, Nat.reduceMul, Nat.reduceLT, Nat.reduceLeDiff, Nat.reduceBEq, Int.reduceBEq, Int.reduceBNe, String.reduceBEq, Int.reduceEq, Int.reduceLT, Int.reduceLE, Int.reduceGE, Int.reduceGT, f1, hlk, htk, hll, hAll]
     | (refine ite_guard (fun hg => ?_) (fun hg => ?_) <;> (try simp only [Bool.not_eq_true, Bool.not_eq_false, Decidable.not_not] at hg) <;> (first | have hgb : (_ : Bool) = _ := hg | have hgb := ff hg | have hgb := tt hg))
     | (refine ⟨fun hc => ht _ ?_, fun hc => hf _ ?_⟩ <;> clear ht hf KT KF)
     | fail)
theorem twinx_spec (ls : List (List Ht)) (hl : tot ls * 16 ≤ 70368744177664) (hn : ls.length * 24 ≤ 140737488355328) : Spec Try.prog 28 [.v (.t (.sl 1 (lists ls)))] [] [.v (.t (.sl 1 (xlists ls)))] [] := by
  have h1 := twinx_named ls hl hn
  have hu : (up (xlists ls)).length = ls.length := by rw [up_length, xlists_len]
  rw [← hu] at h1
  exact Spec.tree h1 (viewRows_up _)
set_option maxHeartbeats 4000000 in
theorem fuseRanks_spec (ls : List (List Ht)) (hl : tot ls * 16 ≤ 70368744177664) (hn : ls.length * 24 ≤ 140737488355328) : Spec Try.prog 8 [.v (.t (.sl 1 (lists ls)))] [] [.v (.t (.bool true))] [] := by
  have h1 := twinx_spec ls hl hn
  have h2 := Spec.arg (v := .sl 1 (xlists ls)) (fun _ _ _ h => lists_forget h) (rank_spec ls (by omega) (by omega))
  have h3 := rrank_spec ls (by omega) (by omega)
  have hR : (hsort 2 (hits (es0.all ls ls.length).mm)).length ≤ 4611686018427387904 := by
    rw [hsort_len]
    have := (all_wf ls ls.length (Nat.le_refl _)).2
    rw [List.take_length] at this
    simp only [hits, List.length_map]; omega
  generalize hsort 2 (hits (es0.all ls ls.length).mm) = R at *
  have h4 := same_spec R R hR
  rw [decide_eq_true rfl] at h4
  have hll : (lists ls).length = ls.length := lists_len ls
  refine spec_by Try.func8 rfl mixed tOk evOk (n := 55) rfl (by simp) (by simp) ?_
  rw [initSt_mk, show Try.f8.results.toList = [.tmp 2] from rfl]
  simp only [initL, AV.sv, List.map_cons, List.map_nil, Nat.reduceAdd, Nat.zero_add]
  repeat' (first
   | (with_reducible first | refine s_seq ?_ | refine s_block ?_ | refine s_region fun kr hr => ?_)
   | (with_reducible refine s_text tOk [1000, 1001, 1002, 1003] (by kernel_rfl) (by simp [HeapIn, namers, namerDst, namerOp, namedOp, namedFn, ownLoad, Blk.has, hasRows, hasL, CV.has, hasRows_up, hasM_up, hasRows_append, hll]; (try ((repeat' apply And.intro) <;> intros <;> omega))) fun kr hr => ?_)
   | (with_reducible first | refine s_op fun K' hk => ?_ | refine t_op fun K' hk => ?_ | (refine hk _ ?_; clear hk K') | (refine ht _ ?_; clear ht hf KT KF) | (refine hf _ ?_; clear ht hf KT KF) | ((first | refine s_nil ?_ | refine t_nil ?_); refine hr _ ?_; clear hr kr))
   | ((with_reducible refine n_seqK [0, 1, 2, 3, 4, 5, 13, 17, 25, 28, 29, 30, 31, 44, 47] [] ?_); simp only [mk_keep, keepL, List.mem_cons, List.not_mem_nil, Nat.reduceEqDiff, Nat.zero_ne_one, Nat.one_ne_zero, reduceCtorEq, or_false, false_or, or_true, true_or, or_self, eq_self, ↓reduceIte])
   | (with_reducible first | refine s_cond fun KT KF ht hf => ?_ | refine s_skip ?_)
   | ((with_reducible refine s_long ?_); simp only [List.cons_append, List.nil_append])
   | (with_reducible first | refine s_exit ?_ | refine s_ret ?_ | refine e_seq ?_ | refine r_seq ?_ | refine n_block ?_ | refine e_block ?_ | refine r_block ?_ | refine e_loop ?_ | refine r_loop ?_ | refine e_round ?_ | refine r_round ?_ | refine s_round ?_ | refine f_block ?_ (by decide) | refine r_res ?_ | refine n_res ?_)
   | (simp only [hgb, go_sem, Int.reduceToNat, ↓reduceIte, reduceCtorEq, Nat.reduceEqDiff, Nat.reduceAdd, Nat.reduceMul, Nat.reduceLT, Nat.reduceLeDiff, Nat.reduceBEq, Int.reduceBEq, Int.reduceBNe, String.reduceBEq, Int.reduceEq, Int.reduceLT, Int.reduceLE, Int.reduceGE, Int.reduceGT, hll, callE, resSV, AV.flat, CV.flat, TV.flat]; clear hgb)
   | simp only [go_sem, Int.reduceToNat, ↓reduceIte, reduceCtorEq, Nat.reduceEqDiff, Nat.reduceAdd, Nat.reduceMul, Nat.reduceLT, Nat.reduceLeDiff, Nat.reduceBEq, Int.reduceBEq, Int.reduceBNe, String.reduceBEq, Int.reduceEq, Int.reduceLT, Int.reduceLE, Int.reduceGE, Int.reduceGT, hll, callE, resSV, AV.flat, CV.flat, TV.flat, hAll]
   | refine Or.inl ⟨_, ⟨fun _ _ => rfl, h1⟩, ?_⟩
   | refine ⟨_, ⟨fun _ _ => rfl, h1⟩, ?_⟩
   | refine Or.inl ⟨_, ⟨fun _ _ => rfl, h2⟩, ?_⟩
   | refine ⟨_, ⟨fun _ _ => rfl, h2⟩, ?_⟩
   | (refine ite_guard (fun hg => ?_) (fun hg => ?_) <;> (try simp only [Bool.not_eq_true, Bool.not_eq_false, Decidable.not_not] at hg) <;> (first | have hgb : (_ : Bool) = _ := hg | have hgb := ff hg | have hgb := tt hg))
   | (refine ⟨fun hc => ht _ ?_, fun hc => hf _ ?_⟩ <;> clear ht hf KT KF)
   | fail)
  refine w_loop [0, 3, 4, 5] [] (σ := Nat) (fun k st => st = mk [(0, V (.sl 1 (lists ls))), (3, V (.sl 1 (xlists ls))), (4, V (.sl 2 (hrows R))), (5, I k)] [] ∧ k ≤ ls.length) (fun k => ls.length - k) 0 ?_ ?_
  · refine ⟨?_, Nat.zero_le _⟩
    simp only [go_sem, Int.reduceToNat, ↓reduceIte, reduceCtorEq, Nat.reduceEqDiff, Nat.reduceAdd, Nat.reduceMul, Nat.reduceLT, Nat.reduceLeDiff, Nat.reduceBEq, Int.reduceBEq, Int.reduceBNe, String.reduceBEq, Int.reduceEq, Int.reduceLT, Int.reduceLE, Int.reduceGE, Int.reduceGT, mk_keep, keepL, List.mem_cons, List.not_mem_nil, Nat.reduceEqDiff, Nat.zero_ne_one, Nat.one_ne_zero, reduceCtorEq, or_false, false_or, or_true, true_or, or_self, eq_self, ↓reduceIte]
    try rfl
  rintro k st' ⟨rfl, hk⟩
  by_cases hlt : k < ls.length
  · have f1 := ltI hlt
    have f2 : (lists ls)[k]? = some [.sl 2 (hrows ls[k])] := by rw [lists_get, get_of_lt hlt]; rfl
    have f3 := wUp hlt (by omega)
    have f4 : (xlists ls)[k]? = some [xlist ls[k]] := by rw [xlists_get, get_of_lt hlt]; rfl
    have hxl : (xlists ls).length = ls.length := xlists_len ls
    have hlen := len_tot hlt
    generalize ls[k] = l at *
    have h5 := Spec.arg (v := xlist l) (fun _ _ _ h => slx_forget h) (same_spec l l (by omega))
    rw [decide_eq_true rfl] at h5
    unfold xlist at f4 h5
    have e0 : (hrows l).length = l.length := hrows_len l
    have e3 : (hrows (l ++ [(77, 0)])).length = l.length + 1 := by rw [hrows_len]; simp
    have e4 : (hrows (l ++ [(77, 0)])).take (l.length + 1) = hrows (l ++ [(77, 0)]) := List.take_of_length_le (by omega)
    have e5 : (hrows (l ++ [(77, 0)]))[l.length]? = some [.int .i64 77, .int .i64 0] := by
      rw [hrows_snoc, List.getElem?_append_right (by omega), e0, Nat.sub_self]; rfl
    have e6 : IntKind.wrap .i64 ((l.length : Int) + 1) = ((l.length + 1 : Nat) : Int) := by rw [wI (by omega) (by omega)]; omega
    have e7 := tt (show l.length < l.length + 1 by omega)
    have e8 := tt (show (l.length : Int) < ((l.length + 1 : Nat) : Int) by omega)
    have e9 := tt (Nat.zero_le (l.length + 1))
    repeat' (first
     | (with_reducible first | refine s_seq ?_ | refine s_block ?_ | refine s_region fun kr hr => ?_)
     | (with_reducible refine s_text tOk [1000, 1001, 1002, 1003] (by kernel_rfl) (by simp [HeapIn, namers, namerDst, namerOp, namedOp, namedFn, ownLoad, Blk.has, hasRows, hasL, CV.has, hasRows_up, hasM_up, hasRows_append, f1, f2, f3, f4, e0, e3, e4, e5, e6, e7, e8, e9, hll, hxl]; (try ((repeat' apply And.intro) <;> intros <;> omega))) fun kr hr => ?_)
     | (with_reducible first | refine s_op fun K' hk => ?_ | refine t_op fun K' hk => ?_ | (refine hk _ ?_; clear hk K') | (refine ht _ ?_; clear ht hf KT KF) | (refine hf _ ?_; clear ht hf KT KF) | ((first | refine s_nil ?_ | refine t_nil ?_); refine hr _ ?_; clear hr kr))
     | ((with_reducible refine n_seqK [0, 1, 2, 3, 4, 5, 13, 17, 25, 28, 29, 30, 31, 44, 47] [] ?_); simp only [mk_keep, keepL, List.mem_cons, List.not_mem_nil, Nat.reduceEqDiff, Nat.zero_ne_one, Nat.one_ne_zero, reduceCtorEq, or_false, false_or, or_true, true_or, or_self, eq_self, ↓reduceIte])
     | (with_reducible first | refine s_cond fun KT KF ht hf => ?_ | refine s_skip ?_)
     | ((with_reducible refine s_long ?_); simp only [List.cons_append, List.nil_append])
     | (with_reducible first | refine s_exit ?_ | refine s_ret ?_ | refine e_seq ?_ | refine r_seq ?_ | refine n_block ?_ | refine e_block ?_ | refine r_block ?_ | refine e_loop ?_ | refine r_loop ?_ | refine e_round ?_ | refine r_round ?_ | refine s_round ?_ | refine f_block ?_ (by decide) | refine r_res ?_ | refine n_res ?_)
     | (simp only [hgb, go_sem, Int.reduceToNat, ↓reduceIte, reduceCtorEq, Nat.reduceEqDiff, Nat.reduceAdd, Nat.reduceMul, Nat.reduceLT, Nat.reduceLeDiff, Nat.reduceBEq, Int.reduceBEq, Int.reduceBNe, String.reduceBEq, Int.reduceEq, Int.reduceLT, Int.reduceLE, Int.reduceGE, Int.reduceGT, f1, f2, f3, f4, e0, e3, e4, e5, e6, e7, e8, e9, hll, hxl, callE, resSV, AV.flat, CV.flat, TV.flat]; clear hgb)
     | simp only [go_sem, Int.reduceToNat, ↓reduceIte, reduceCtorEq, Nat.reduceEqDiff, Nat.reduceAdd, Nat.reduceMul, Nat.reduceLT, Nat.reduceLeDiff, Nat.reduceBEq, Int.reduceBEq, Int.reduceBNe, String.reduceBEq, Int.reduceEq, Int.reduceLT, Int.reduceLE, Int.reduceGE, Int.reduceGT, f1, f2, f3, f4, e0, e3, e4, e5, e6, e7, e8, e9, hll, hxl, callE, resSV, AV.flat, CV.flat, TV.flat, hAll]
     | refine Or.inl ⟨_, ⟨fun _ _ => rfl, h5⟩, ?_⟩
     | refine ⟨_, ⟨fun _ _ => rfl, h5⟩, ?_⟩
     | (refine ite_guard (fun hg => ?_) (fun hg => ?_) <;> (try simp only [Bool.not_eq_true, Bool.not_eq_false, Decidable.not_not] at hg) <;> (first | have hgb : (_ : Bool) = _ := hg | have hgb := ff hg | have hgb := tt hg))
     | (refine ⟨fun hc => ht _ ?_, fun hc => hf _ ?_⟩ <;> clear ht hf KT KF)
     | fail)
    refine n_loop (k + 1) [0, 3, 4, 5] [] ⟨?_, hlt⟩ (by omega)
    simp only [go_sem, Int.reduceToNat, ↓reduceIte, reduceCtorEq, Nat.reduceEqDiff, Nat.reduceAdd, Nat.reduceMul, Nat.reduceLT, Nat.reduceLeDiff, Nat.reduceBEq, Int.reduceBEq, Int.reduceBNe, String.reduceBEq, Int.reduceEq, Int.reduceLT, Int.reduceLE, Int.reduceGE, Int.reduceGT, mk_keep, keepL, List.mem_cons, List.not_mem_nil, Nat.reduceEqDiff, Nat.zero_ne_one, Nat.one_ne_zero, reduceCtorEq, or_false, false_or, or_true, true_or, or_self, eq_self, ↓reduceIte]
  · obtain rfl : k = ls.length := by omega
    have f1 := nltI hlt
    repeat' (first
     | (with_reducible first | refine s_seq ?_ | refine s_block ?_ | refine s_region fun kr hr => ?_)
     | (with_reducible refine s_text tOk [1000, 1001, 1002, 1003] (by kernel_rfl) (by simp [HeapIn, namers, namerDst, namerOp, namedOp, namedFn, ownLoad, Blk.has, hasRows, hasL, CV.has, hasRows_up, hasM_up, hasRows_append, f1, hll]; (try ((repeat' apply And.intro) <;> intros <;> omega))) fun kr hr => ?_)
     | (with_reducible first | refine s_op fun K' hk => ?_ | refine t_op fun K' hk => ?_ | (refine hk _ ?_; clear hk K') | (refine ht _ ?_; clear ht hf KT KF) | (refine hf _ ?_; clear ht hf KT KF) | ((first | refine s_nil ?_ | refine t_nil ?_); refine hr _ ?_; clear hr kr))
     | ((with_reducible refine n_seqK [0, 1, 2, 3, 4, 5, 13, 17, 25, 28, 29, 30, 31, 44, 47] [] ?_); simp only [mk_keep, keepL, List.mem_cons, List.not_mem_nil, Nat.reduceEqDiff, Nat.zero_ne_one, Nat.one_ne_zero, reduceCtorEq, or_false, false_or, or_true, true_or, or_self, eq_self, ↓reduceIte])
     | (with_reducible first | refine s_cond fun KT KF ht hf => ?_ | refine s_skip ?_)
     | ((with_reducible refine s_long ?_); simp only [List.cons_append, List.nil_append])
     | (with_reducible first | refine s_exit ?_ | refine s_ret ?_ | refine e_seq ?_ | refine r_seq ?_ | refine n_block ?_ | refine e_block ?_ | refine r_block ?_ | refine e_loop ?_ | refine r_loop ?_ | refine e_round ?_ | refine r_round ?_ | refine s_round ?_ | refine f_block ?_ (by decide) | refine r_res ?_ | refine n_res ?_)
     | (simp only [hgb, go_sem, Int.reduceToNat, ↓reduceIte, reduceCtorEq, Nat.reduceEqDiff, Nat.reduceAdd, Nat.reduceMul, Nat.reduceLT, Nat.reduceLeDiff, Nat.reduceBEq, Int.reduceBEq, Int.reduceBNe, String.reduceBEq, Int.reduceEq, Int.reduceLT, Int.reduceLE, Int.reduceGE, Int.reduceGT, f1, hll, callE, resSV, AV.flat, CV.flat, TV.flat]; clear hgb)
     | simp only [go_sem, Int.reduceToNat, ↓reduceIte, reduceCtorEq, Nat.reduceEqDiff, Nat.reduceAdd, Nat.reduceMul, Nat.reduceLT, Nat.reduceLeDiff, Nat.reduceBEq, Int.reduceBEq, Int.reduceBNe, String.reduceBEq, Int.reduceEq, Int.reduceLT, Int.reduceLE, Int.reduceGE, Int.reduceGT, f1, hll, callE, resSV, AV.flat, CV.flat, TV.flat, hAll]
     | refine Or.inl ⟨_, ⟨fun _ _ => rfl, h3⟩, ?_⟩
     | refine ⟨_, ⟨fun _ _ => rfl, h3⟩, ?_⟩
     | refine Or.inl ⟨_, ⟨fun _ _ => rfl, h4⟩, ?_⟩
     | refine ⟨_, ⟨fun _ _ => rfl, h4⟩, ?_⟩
     | refine Or.inl ⟨_, ⟨fun _ _ => rfl, awake25_spec⟩, ?_⟩
     | refine ⟨_, ⟨fun _ _ => rfl, awake25_spec⟩, ?_⟩
     | (refine ite_guard (fun hg => ?_) (fun hg => ?_) <;> (try simp only [Bool.not_eq_true, Bool.not_eq_false, Decidable.not_not] at hg) <;> (first | have hgb : (_ : Bool) = _ := hg | have hgb := ff hg | have hgb := tt hg))
     | (refine ⟨fun hc => ht _ ?_, fun hc => hf _ ?_⟩ <;> clear ht hf KT KF)
     | fail)
end Go.Proofs.Ytgmjgognpabmdaa.Fx
