/- Sums told as hits. -/
import Derived.Test.YtgmjgognpabmdaaFxEach
import Derived.Test.YtgmjgognpabmdaaFxClone
import Derived.Test.YtgmjgognpabmdaaFxSd
-- ren_map
namespace Go.Proofs.Ytgmjgognpabmdaa.Fx
open Go Go.RowKit
set_option maxRecDepth 100000
set_option linter.unusedSimpArgs false
set_option linter.unusedVariables false
/-- A map as the evaluator keeps it: no key twice, no stamp twice, each stamp below the clock. -/
structure Wf {κ ν : Type} (c : Nat) (m : List (κ × ν × Nat)) : Prop where
  keys : (m.map (·.1)).Nodup
  born : (m.map (·.2.2)).Nodup
  lt : ∀ e ∈ m, e.2.2 < c
theorem find_born {κ ν : Type} : ∀ {m : List (κ × ν × Nat)}, (m.map (·.2.2)).Nodup → ∀ e ∈ m, m.find? (fun x => x.2.2 == e.2.2) = some e
  | x :: m, hn, e, he => by
    rw [List.map_cons, List.nodup_cons] at hn
    by_cases hx : x.2.2 = e.2.2
    · rcases List.mem_cons.1 he with rfl | h
      · simp
      · exact absurd (List.mem_map.2 ⟨e, h, hx.symm⟩) hn.1
    · have hb : (x.2.2 == e.2.2) = false := by simpa using hx
      rw [List.find?_cons, hb]
      rcases List.mem_cons.1 he with rfl | h
      · exact absurd rfl hx
      · exact find_born hn.2 e h
theorem find_up {m : IM} (hn : (m.map (·.2.2)).Nodup) {e : Int × Int × Nat} (he : e ∈ m) : (upII m).find? (fun x => x.2.2 == e.2.2) = some (.v (.t (.int .i64 e.1)), .v (.t (.int .i64 e.2.1)), e.2.2) := by
  unfold upII upM
  rw [List.find?_map]
  have := find_born hn e he
  rw [show ((fun x : AV × AV × Nat => x.2.2 == e.2.2) ∘ fun e : Int × Int × Nat => (AV.v (.t (.int .i64 e.1)), AV.v (.t (.int .i64 e.2.1)), e.2.2)) = fun x => x.2.2 == e.2.2 from rfl, this]
  rfl
def hits (m : IM) : List Ht := m.map fun e => (e.1, e.2.1)
theorem born_inj {κ ν : Type} {m : List (κ × ν × Nat)} (hn : (m.map (·.2.2)).Nodup) {x y : κ × ν × Nat} (hx : x ∈ m) (hy : y ∈ m) (h : x.2.2 = y.2.2) : x = y := by
  have h1 := find_born hn x hx
  have h2 := find_born hn y hy
  rw [h] at h1
  exact Option.some.inj (h1.symm.trans h2)
theorem vs_perm {κ ν : Type} : ∀ {vs m : List (κ × ν × Nat)}, (vs.map (·.2.2)).Nodup → (∀ e ∈ vs, e ∈ m) → vs.length ≤ m.length ∧ ((∀ e ∈ m, e.2.2 ∈ vs.map (·.2.2)) → (m.map (·.2.2)).Nodup → vs.Perm m)
  | [], m, _, _ => ⟨Nat.zero_le _, fun h _ => by
    cases m with
    | nil => exact List.Perm.refl _
    | cons e m => have := h e (by simp); simp at this⟩
  | v :: vs, m, hn, hs => by
    rw [List.map_cons, List.nodup_cons] at hn
    obtain ⟨s, t, rfl⟩ := List.append_of_mem (hs v (by simp))
    have hsub : ∀ e ∈ vs, e ∈ s ++ t := fun e he => by
      have := hs e (by simp [he])
      simp only [List.mem_append, List.mem_cons] at this ⊢
      rcases this with h | rfl | h
      · exact .inl h
      · exact absurd (List.mem_map.2 ⟨e, he, rfl⟩) hn.1
      · exact .inr h
    obtain ⟨h1, h2⟩ := vs_perm hn.2 hsub
    refine ⟨by simp only [List.length_cons, List.length_append] at h1 ⊢; omega, fun ha hm => ?_⟩
    have hm' : ((v :: (s ++ t)).map (·.2.2)).Nodup := ((List.perm_middle (a := v) (l₁ := s) (l₂ := t)).map (·.2.2)).nodup_iff.1 hm
    rw [List.map_cons, List.nodup_cons] at hm'
    refine ((h2 (fun e he => ?_) hm'.2).cons v).trans List.perm_middle.symm
    have := ha e (by simp only [List.mem_append, List.mem_cons] at he ⊢; rcases he with h | h <;> simp [h])
    rw [List.map_cons] at this
    rcases List.mem_cons.1 this with h | h
    · exact absurd (List.mem_map.2 ⟨e, he, h⟩) hm'.1
    · exact h
theorem hits_perm {m m' : IM} (h : m.Perm m') : (hits m).Perm (hits m') := h.map _
theorem hsort_congr {m : Int} (hM : mOk m = true) {a b : List Ht} (h : a.Perm b) : hsort m a = hsort m b :=
  sd_unique hM (((hsort_perm m a).trans h).trans (hsort_perm m b).symm) (hsort_sd hM a) (hsort_sd hM b)
theorem ranked_spec (c : Nat) (m : IM) (hw : Wf c m) (hl : m.length * 16 ≤ 140737488355328) : Spec Try.prog 50 [.v (.mm 1000)] [(1000, .map c (upII m))] [.v (.t (.sl 2 (hrows (hsort 2 (hits m)))))] [(1000, .map c (upII m))] := by
  refine spec_by Try.func50 rfl mixed tOk evOk (n := 21) rfl (by simp) (by simp) ?_
  rw [initSt_mk, show Try.f50.results.toList = [.tmp 2] from rfl]
  simp only [initL, AV.sv, List.map_cons, List.map_nil, Nat.reduceAdd, Nat.zero_add]
  repeat' (first
   | (with_reducible first | refine s_seq ?_ | refine s_block ?_ | refine s_region fun kr hr => ?_)
   | (with_reducible refine s_text tOk [7, 17, 18, 1000, 1001, 1002, 1003] (by kernel_rfl) (by simp [HeapIn, namers, namerDst, namerOp, namedOp, namedFn, ownLoad, Blk.has, hasRows, hasL, CV.has, hasRows_up, hasM_up, hasRows_append]; (try ((repeat' apply And.intro) <;> intros <;> omega))) fun kr hr => ?_)
   | (with_reducible first | refine s_op fun K' hk => ?_ | refine t_op fun K' hk => ?_ | (refine hk _ ?_; clear hk K') | (refine ht _ ?_; clear ht hf KT KF) | (refine hf _ ?_; clear ht hf KT KF) | ((first | refine s_nil ?_ | refine t_nil ?_); refine hr _ ?_; clear hr kr))
   | ((with_reducible refine n_seqK [0, 1, 2, 3, 4, 5, 7, 9, 14] [7, 17, 18, 1000] ?_); simp only [mk_keep, keepL, List.mem_cons, List.not_mem_nil, Nat.reduceEqDiff, Nat.zero_ne_one, Nat.one_ne_zero, reduceCtorEq, or_false, false_or, or_true, true_or, or_self, eq_self, ↓reduceIte])
   | (with_reducible first | refine s_cond fun KT KF ht hf => ?_ | refine s_skip ?_)
   | ((with_reducible refine s_long ?_); simp only [List.cons_append, List.nil_append])
   | (with_reducible first | refine s_exit ?_ | refine s_ret ?_ | refine e_seq ?_ | refine r_seq ?_ | refine n_block ?_ | refine e_block ?_ | refine r_block ?_ | refine e_loop ?_ | refine r_loop ?_ | refine e_round ?_ | refine r_round ?_ | refine s_round ?_ | refine f_block ?_ (by decide) | refine r_res ?_ | refine n_res ?_)
   | (simp only [hgb, go_sem, Int.reduceToNat, ↓reduceIte, reduceCtorEq, Nat.reduceEqDiff, Nat.reduceAdd, Nat.reduceMul, Nat.reduceLT, Nat.reduceLeDiff, Nat.reduceBEq, Int.reduceBEq, Int.reduceBNe, String.reduceBEq, Int.reduceEq, Int.reduceLT, Int.reduceLE, Int.reduceGE, Int.reduceGT]; clear hgb)
   | simp only [go_sem, Int.reduceToNat, ↓reduceIte, reduceCtorEq, Nat.reduceEqDiff, Nat.reduceAdd, Nat.reduceMul, Nat.reduceLT, Nat.reduceLeDiff, Nat.reduceBEq, Int.reduceBEq, Int.reduceBNe, String.reduceBEq, Int.reduceEq, Int.reduceLT, Int.reduceLE, Int.reduceGE, Int.reduceGT, hAll]
   | (refine ite_guard (fun hg => ?_) (fun hg => ?_) <;> (try simp only [Bool.not_eq_true, Bool.not_eq_false, Decidable.not_not] at hg) <;> (first | have hgb : (_ : Bool) = _ := hg | have hgb := ff hg | have hgb := tt hg))
   | (refine ⟨fun hc => ht _ ?_, fun hc => hf _ ?_⟩ <;> clear ht hf KT KF)
   | fail)
  refine w_loopG _ (gho_nilName (s := 3) (d := 18) (sz := 2) (by decide) ⟨2, rfl⟩ (by rw [fresh_t]; exact trivial; simp [freshL, Blk.has, hasM_up, hasM, ins])) ?_
  rw [mk_nilName]
  refine w_loop [3, 7] [7, 18, 1000] (σ := IM) (fun vs st => st = mk [(3, .c (.mr 18 0 vs.length)), (7, .c (.mp 7 0 0))] [(7, .iter 1000 c (vs.map (·.2.2)) c), (18, .cells 2 (up (hrows (hits vs)))), (1000, .map c (upII m))] ∧ (vs.map (·.2.2)).Nodup ∧ ∀ e ∈ vs, e ∈ m) (fun vs => m.length - vs.length) [] ?_ ?_
  · refine ⟨?_, List.nodup_nil, fun _ h => by cases h⟩
    simp only [go_sem, Int.reduceToNat, ↓reduceIte, reduceCtorEq, Nat.reduceEqDiff, Nat.reduceAdd, Nat.reduceMul, Nat.reduceLT, Nat.reduceLeDiff, Nat.reduceBEq, Int.reduceBEq, Int.reduceBNe, String.reduceBEq, Int.reduceEq, Int.reduceLT, Int.reduceLE, Int.reduceGE, Int.reduceGT, mk_keep, keepL, List.mem_cons, List.not_mem_nil, Nat.reduceEqDiff, Nat.zero_ne_one, Nat.one_ne_zero, reduceCtorEq, or_false, false_or, or_true, true_or, or_self, eq_self, ↓reduceIte]
    try rfl
  rintro vs st' ⟨rfl, hnd, hsub⟩
  obtain ⟨hvl, hvp⟩ := vs_perm hnd hsub
  repeat' (first
   | (with_reducible first | refine s_seq ?_ | refine s_block ?_ | refine s_region fun kr hr => ?_)
   | (with_reducible refine s_text tOk [7, 17, 18, 1000, 1001, 1002, 1003] (by kernel_rfl) (by simp [HeapIn, namers, namerDst, namerOp, namedOp, namedFn, ownLoad, Blk.has, hasRows, hasL, CV.has, hasRows_up, hasM_up, hasRows_append]; (try ((repeat' apply And.intro) <;> intros <;> omega))) fun kr hr => ?_)
   | (with_reducible first | refine s_op fun K' hk => ?_ | refine t_op fun K' hk => ?_ | (refine hk _ ?_; clear hk K') | (refine ht _ ?_; clear ht hf KT KF) | (refine hf _ ?_; clear ht hf KT KF) | ((first | refine s_nil ?_ | refine t_nil ?_); refine hr _ ?_; clear hr kr))
   | ((with_reducible refine n_seqK [0, 1, 2, 3, 4, 5, 7, 9, 14] [7, 17, 18, 1000] ?_); simp only [mk_keep, keepL, List.mem_cons, List.not_mem_nil, Nat.reduceEqDiff, Nat.zero_ne_one, Nat.one_ne_zero, reduceCtorEq, or_false, false_or, or_true, true_or, or_self, eq_self, ↓reduceIte])
   | (with_reducible first | refine s_cond fun KT KF ht hf => ?_ | refine s_skip ?_)
   | ((with_reducible refine s_long ?_); simp only [List.cons_append, List.nil_append])
   | (with_reducible first | refine s_exit ?_ | refine s_ret ?_ | refine e_seq ?_ | refine r_seq ?_ | refine n_block ?_ | refine e_block ?_ | refine r_block ?_ | refine e_loop ?_ | refine r_loop ?_ | refine e_round ?_ | refine r_round ?_ | refine s_round ?_ | refine f_block ?_ (by decide) | refine r_res ?_ | refine n_res ?_)
   | (simp only [hgb, go_sem, Int.reduceToNat, ↓reduceIte, reduceCtorEq, Nat.reduceEqDiff, Nat.reduceAdd, Nat.reduceMul, Nat.reduceLT, Nat.reduceLeDiff, Nat.reduceBEq, Int.reduceBEq, Int.reduceBNe, String.reduceBEq, Int.reduceEq, Int.reduceLT, Int.reduceLE, Int.reduceGE, Int.reduceGT]; clear hgb)
   | simp only [go_sem, Int.reduceToNat, ↓reduceIte, reduceCtorEq, Nat.reduceEqDiff, Nat.reduceAdd, Nat.reduceMul, Nat.reduceLT, Nat.reduceLeDiff, Nat.reduceBEq, Int.reduceBEq, Int.reduceBNe, String.reduceBEq, Int.reduceEq, Int.reduceLT, Int.reduceLE, Int.reduceGE, Int.reduceGT, hAll]
   | (refine ite_guard (fun hg => ?_) (fun hg => ?_) <;> (try simp only [Bool.not_eq_true, Bool.not_eq_false, Decidable.not_not] at hg) <;> (first | have hgb : (_ : Bool) = _ := hg | have hgb := ff hg | have hgb := tt hg))
   | (refine ⟨fun hc => ht _ ?_, fun hc => hf _ ?_⟩ <;> clear ht hf KT KF)
   | fail)
  refine ⟨fun e he => ?_, fun hnA => hk _ ?_, fun eN hnM hnS => ?_⟩
  · obtain ⟨x, hx, rfl⟩ := List.mem_map.1 he
    exact hw.lt x hx
  · clear hk K'
    have hp := hvp (fun e he => hnA _ (List.mem_map.2 ⟨e, he, rfl⟩)) hw.born
    have hq := hsort_congr (m := 2) rfl (hits_perm hp)
    have hvl2 : (hits vs).length = vs.length := by simp [hits]
    have hts := tsort_some 2 (hits vs) vs.length rfl (by omega) (by omega)
    rw [show (hits vs).take vs.length = hits vs from List.take_of_length_le (by omega), hq] at hts
    have hsl : (hsort 2 (hits m)).length = vs.length := by rw [hsort_len]; simp [hits, hp.length_eq]
    have htk : (hrows (hsort 2 (hits m))).take vs.length = hrows (hsort 2 (hits m)) := List.take_of_length_le (by rw [hrows_len]; omega)
    repeat' (first
     | (with_reducible first | refine s_seq ?_ | refine s_block ?_ | refine s_region fun kr hr => ?_)
     | (with_reducible refine s_text tOk [7, 17, 18, 20, 1000, 1001, 1002, 1003] (by kernel_rfl) (by simp [HeapIn, namers, namerDst, namerOp, namedOp, namedFn, ownLoad, Blk.has, hasRows, hasL, CV.has, hasRows_up, hasM_up, hasRows_append, htk, hrows_len, hsl, listB]; (try ((repeat' apply And.intro) <;> intros <;> omega))) fun kr hr => ?_)
     | (with_reducible first | refine s_op fun K' hk => ?_ | refine t_op fun K' hk => ?_ | (refine hk _ ?_; clear hk K') | (refine ht _ ?_; clear ht hf KT KF) | (refine hf _ ?_; clear ht hf KT KF) | ((first | refine s_nil ?_ | refine t_nil ?_); refine hr _ ?_; clear hr kr))
     | ((with_reducible refine n_seqK [0, 1, 2, 3, 4, 5, 7, 9, 14] [7, 17, 18, 20, 1000] ?_); simp only [mk_keep, keepL, List.mem_cons, List.not_mem_nil, Nat.reduceEqDiff, Nat.zero_ne_one, Nat.one_ne_zero, reduceCtorEq, or_false, false_or, or_true, true_or, or_self, eq_self, ↓reduceIte])
     | (with_reducible first | refine s_cond fun KT KF ht hf => ?_ | refine s_skip ?_)
     | ((with_reducible refine s_long ?_); simp only [List.cons_append, List.nil_append])
     | (with_reducible first | refine s_exit ?_ | refine s_ret ?_ | refine e_seq ?_ | refine r_seq ?_ | refine n_block ?_ | refine e_block ?_ | refine r_block ?_ | refine e_loop ?_ | refine r_loop ?_ | refine e_round ?_ | refine r_round ?_ | refine s_round ?_ | refine f_block ?_ (by decide) | refine r_res ?_ | refine n_res ?_)
     | (simp only [hgb, go_sem, Int.reduceToNat, ↓reduceIte, reduceCtorEq, Nat.reduceEqDiff, Nat.reduceAdd, Nat.reduceMul, Nat.reduceLT, Nat.reduceLeDiff, Nat.reduceBEq, Int.reduceBEq, Int.reduceBNe, String.reduceBEq, Int.reduceEq, Int.reduceLT, Int.reduceLE, Int.reduceGE, Int.reduceGT, htk, hrows_len, hsl, listB, callE, resSV, AV.flat, CV.flat, TV.flat]; clear hgb)
     | simp only [go_sem, Int.reduceToNat, ↓reduceIte, reduceCtorEq, Nat.reduceEqDiff, Nat.reduceAdd, Nat.reduceMul, Nat.reduceLT, Nat.reduceLeDiff, Nat.reduceBEq, Int.reduceBEq, Int.reduceBNe, String.reduceBEq, Int.reduceEq, Int.reduceLT, Int.reduceLE, Int.reduceGE, Int.reduceGT, htk, hrows_len, hsl, listB, callE, resSV, AV.flat, CV.flat, TV.flat, hAll]
     | refine Or.inr (m_callN [(1000,18),(10,20)] [1000] [1000,10] [20] [18] ⟨fun _ _ => rfl, hts⟩ rfl rfl (by first | (simp [avren_v, avren_a, CV.ren, renL, renL_map, tbl, listB]; done) | fail) rfl rfl rfl rfl (by decide) (by first | (simp [hAll, hRen, mk_heap, hL, tbl, Blk.ren, renRows_up, ren_up, renRows, renL, CV.ren, listB]; done) | fail) (by first | (simp [Blk.has, hasRows, hasL, CV.has, hasRows_up, hasM_up, listB]; done) | fail) (by first | (intro k; simp [hasA, AV.has, CV.has, hasL, Blk.has, hasRows, hasRows_up, hasM_up, listB]; done) | (intro k; simp [hasA, AV.has, CV.has, hasL, Blk.has, hasRows, hasRows_up, hasM_up, listB]; omega) | fail) ?_)
     | refine (m_callN [(1000,18),(10,20)] [1000] [1000,10] [20] [18] ⟨fun _ _ => rfl, hts⟩ rfl rfl (by first | (simp [avren_v, avren_a, CV.ren, renL, renL_map, tbl, listB]; done) | fail) rfl rfl rfl rfl (by decide) (by first | (simp [hAll, hRen, mk_heap, hL, tbl, Blk.ren, renRows_up, ren_up, renRows, renL, CV.ren, listB]; done) | fail) (by first | (simp [Blk.has, hasRows, hasL, CV.has, hasRows_up, hasM_up, listB]; done) | fail) (by first | (intro k; simp [hasA, AV.has, CV.has, hasL, Blk.has, hasRows, hasRows_up, hasM_up, listB]; done) | (intro k; simp [hasA, AV.has, CV.has, hasL, Blk.has, hasRows, hasRows_up, hasM_up, listB]; omega) | fail) ?_)
     | (refine ite_guard (fun hg => ?_) (fun hg => ?_) <;> (try simp only [Bool.not_eq_true, Bool.not_eq_false, Decidable.not_not] at hg) <;> (first | have hgb : (_ : Bool) = _ := hg | have hgb := ff hg | have hgb := tt hg))
     | (refine ⟨fun hc => ht _ ?_, fun hc => hf _ ?_⟩ <;> clear ht hf KT KF)
     | fail)
  · obtain ⟨⟨k1, v1, b1⟩, hx, rfl⟩ := List.mem_map.1 hnM
    refine hk _ ?_
    clear hk K'
    have hfu := find_up hw.born hx
    simp only at hfu hnS
    have hgl : (vs.map (fun x => x.2.2) ++ [b1]).getLast? = some b1 := by simp
    have hnd' : ((vs ++ [(k1, v1, b1)]).map (·.2.2)).Nodup := by
      rw [List.map_append, List.nodup_append]
      exact ⟨hnd, by simp, fun a ha b hb => by simp only [List.map_cons, List.map_nil, List.mem_singleton] at hb; subst hb; exact fun e => hnS (e ▸ ha)⟩
    have hsub' : ∀ e ∈ vs ++ [(k1, v1, b1)], e ∈ m := fun e he => by
      rcases List.mem_append.1 he with h | h
      · exact hsub e h
      · rw [List.mem_singleton.1 h]; exact hx
    have hlen' := (vs_perm hnd' hsub').1
    have hlen2 : vs.length + 1 ≤ m.length := by simpa using hlen'
    have b3 := tt (show (vs.length + 1) * 16 ≤ 140737488355328 by omega)
    have b4 := tt (show vs.length ≤ 9223372036854775806 by omega)
    have hvl2 : (hrows (hits vs)).length = vs.length := by rw [hrows_len]; simp [hits]
    have htk : (up (hrows (hits vs))).take vs.length = up (hrows (hits vs)) := List.take_of_length_le (by rw [up_length]; omega)
    have hus : up (hrows (hits vs)) ++ [[.t (.int .i64 k1), .t (.int .i64 v1)]] = up (hrows (hits (vs ++ [(k1, v1, b1)]))) := by
      simp [up, hrows, hits, hrow]
    repeat' (first
     | (with_reducible first | refine s_seq ?_ | refine s_block ?_ | refine s_region fun kr hr => ?_)
     | (with_reducible refine s_text tOk [7, 17, 18, 1000, 1001, 1002, 1003] (by kernel_rfl) (by simp [HeapIn, namers, namerDst, namerOp, namedOp, namedFn, ownLoad, Blk.has, hasRows, hasL, CV.has, hasRows_up, hasM_up, hasRows_append, hgl, hfu, b3, b4, hvl2, htk, up_length, hus]; (try ((repeat' apply And.intro) <;> intros <;> omega))) fun kr hr => ?_)
     | (with_reducible first | refine s_op fun K' hk => ?_ | refine t_op fun K' hk => ?_ | (refine hk _ ?_; clear hk K') | (refine ht _ ?_; clear ht hf KT KF) | (refine hf _ ?_; clear ht hf KT KF) | ((first | refine s_nil ?_ | refine t_nil ?_); refine hr _ ?_; clear hr kr))
     | ((with_reducible refine n_seqK [0, 1, 2, 3, 4, 5, 7, 9, 14] [7, 17, 18, 1000] ?_); simp only [mk_keep, keepL, List.mem_cons, List.not_mem_nil, Nat.reduceEqDiff, Nat.zero_ne_one, Nat.one_ne_zero, reduceCtorEq, or_false, false_or, or_true, true_or, or_self, eq_self, ↓reduceIte])
     | (with_reducible first | refine s_cond fun KT KF ht hf => ?_ | refine s_skip ?_)
     | ((with_reducible refine s_long ?_); simp only [List.cons_append, List.nil_append])
     | (with_reducible first | refine s_exit ?_ | refine s_ret ?_ | refine e_seq ?_ | refine r_seq ?_ | refine n_block ?_ | refine e_block ?_ | refine r_block ?_ | refine e_loop ?_ | refine r_loop ?_ | refine e_round ?_ | refine r_round ?_ | refine s_round ?_ | refine f_block ?_ (by decide) | refine r_res ?_ | refine n_res ?_)
     | (simp only [hgb, go_sem, Int.reduceToNat, ↓reduceIte, reduceCtorEq, Nat.reduceEqDiff, Nat.reduceAdd, Nat.reduceMul, Nat.reduceLT, Nat.reduceLeDiff, Nat.reduceBEq, Int.reduceBEq, Int.reduceBNe, String.reduceBEq, Int.reduceEq, Int.reduceLT, Int.reduceLE, Int.reduceGE, Int.reduceGT, hgl, hfu, b3, b4, hvl2, htk, up_length, hus]; clear hgb)
     | simp only [go_sem, Int.reduceToNat, ↓reduceIte, reduceCtorEq, Nat.reduceEqDiff, Nat.reduceAdd, Nat.reduceMul, Nat.reduceLT, Nat.reduceLeDiff, Nat.reduceBEq, Int.reduceBEq, Int.reduceBNe, String.reduceBEq, Int.reduceEq, Int.reduceLT, Int.reduceLE, Int.reduceGE, Int.reduceGT, hgl, hfu, b3, b4, hvl2, htk, up_length, hus, hAll]
     | (refine ite_guard (fun hg => ?_) (fun hg => ?_) <;> (try simp only [Bool.not_eq_true, Bool.not_eq_false, Decidable.not_not] at hg) <;> (first | have hgb : (_ : Bool) = _ := hg | have hgb := ff hg | have hgb := tt hg))
     | (refine ⟨fun hc => ht _ ?_, fun hc => hf _ ?_⟩ <;> clear ht hf KT KF)
     | fail)
    refine n_loop (vs ++ [(k1, v1, b1)]) [3, 7] [7, 18, 1000] ⟨?_, hnd', hsub'⟩ (by simp only [List.length_append, List.length_singleton]; omega)
    simp only [go_sem, Int.reduceToNat, ↓reduceIte, reduceCtorEq, Nat.reduceEqDiff, Nat.reduceAdd, Nat.reduceMul, Nat.reduceLT, Nat.reduceLeDiff, Nat.reduceBEq, Int.reduceBEq, Int.reduceBNe, String.reduceBEq, Int.reduceEq, Int.reduceLT, Int.reduceLE, Int.reduceGE, Int.reduceGT, mk_keep, keepL, List.mem_cons, List.not_mem_nil, Nat.reduceEqDiff, Nat.zero_ne_one, Nat.one_ne_zero, reduceCtorEq, or_false, false_or, or_true, true_or, or_self, eq_self, ↓reduceIte]
    simp [hrows_len, hits]
end Go.Proofs.Ytgmjgognpabmdaa.Fx
