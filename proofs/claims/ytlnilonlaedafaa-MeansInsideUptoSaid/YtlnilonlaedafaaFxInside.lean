/- The law MeansInside. -/
import Derived.Test.YtlnilonlaedafaaFxInsideLaw
namespace Go.Proofs.Ytlnilonlaedafaa.Fx
open Go Go.RowKit
set_option maxRecDepth 100000
set_option linter.unusedSimpArgs false
set_option linter.unusedVariables false
theorem ex_of {α : Type} (a : α) : ∃ x, x = a := ⟨a, rfl⟩
theorem orows_one {v : List Int} (h : v ≠ []) : orows [v] = [[CV.own 1 (up (ints v))]] := by
  cases v with
  | nil => exact absurd rfl h
  | cons a t => rfl
theorem twin_one {v : List Int} (h : v ≠ []) (hv : Sized v.length) : Spec Try.prog 13 [.v (.t (.sl 1 [[.sl 1 (ints v)]]))] [] [.v (.mr 20 0 1)] [(20, .cells 1 [[CV.own 1 (up (ints v))]])] := by
  have h1 := twin_own [v] ⟨by simp, by simpa using hv⟩
  rw [orows_one h] at h1
  exact h1
theorem upv_cons (v : List Int) (l : List (List Int)) : [[CV.t (.sl 1 (ints v))]] ++ up (vrows l) = up (vrows (v :: l)) := rfl
set_option maxHeartbeats 32000000 in
theorem meansInside_spec (l cs : List (List Int)) (hl : SizedAll l) (hcs : SizedAll cs) (hb : l.length + cs.length + 1 ≤ 5864062014634) :
    Spec Try.prog 6 [.v (.t (vecs l)), .v (.t (vecs cs))] [] [.v (.t (.bool true))] [] := by
  have q1 := fit_spec l hl
  have lR := fitL_len l
  have aR := fitL_alike l
  have sR := fitL_sized (l := l) (by omega)
  have dN := fitN_le l
  have hdR : fitN l = max 1 (min (hd l).length 8) ∨ l.length = 0 := by unfold fitN; split <;> omega
  obtain ⟨R, eR⟩ := ex_of (fitL l)
  obtain ⟨d, ed⟩ := ex_of (fitN l)
  rw [← eR] at q1 lR aR sR
  rw [← ed] at aR dN
  rw [vecs_eq, vecs_eq] at q1
  by_cases h0 : l.length = 0
  · have f0 := tt (show (R.length : Int) = 0 by omega)
    refine spec_by Try.func6 rfl mixed tOk evOk (n := 215) rfl (by simp) (by simp) ?_
    rw [initSt_mk, show Try.f6.results.toList = [.tmp 4] from rfl]
    simp only [initL, AV.sv, List.map_cons, List.map_nil, Nat.reduceAdd, Nat.zero_add, vecs_eq]
    repeat' (first
     | (with_reducible first | refine s_seq ?_ | refine s_block ?_ | refine s_region fun kr hr => ?_)
     | (with_reducible refine s_text tOk [32, 33, 36, 58, 66, 1000, 1001, 1002, 1003] (by kernel_rfl) (by simp [HeapIn, namers, namerDst, namerOp, namedOp, namedFn, ownLoad, Blk.has, hasRows, hasL, CV.has, hasRows_up, hasRows_append, f0, vrows_len]; (try ((repeat' apply And.intro) <;> intros <;> omega))) fun kr hr => ?_)
     | (with_reducible first | refine s_op fun K' hk => ?_ | refine t_op fun K' hk => ?_ | (refine hk _ ?_; clear hk K') | (refine ht _ ?_; clear ht hf KT KF) | (refine hf _ ?_; clear ht hf KT KF) | ((first | refine s_nil ?_ | refine t_nil ?_); refine hr _ ?_; clear hr kr))
     | ((with_reducible refine n_seqK [0, 1, 2, 3, 4, 5, 6, 7, 8, 9, 10, 11, 12, 13, 14, 15, 16, 17, 21, 22, 23, 26, 27, 28, 47, 51, 73, 110, 113, 117, 135, 161, 175, 213] [32, 33, 36, 58, 66] ?_); simp only [mk_keep, keepL, List.mem_cons, List.not_mem_nil, Nat.reduceEqDiff, Nat.zero_ne_one, Nat.one_ne_zero, reduceCtorEq, or_false, false_or, or_true, true_or, or_self, eq_self, ↓reduceIte])
     | (with_reducible first | refine s_cond fun KT KF ht hf => ?_ | refine s_skip ?_)
     | ((with_reducible refine s_long ?_); simp only [List.cons_append, List.nil_append])
     | (with_reducible first | refine s_exit ?_ | refine s_ret ?_ | refine e_seq ?_ | refine r_seq ?_ | refine n_block ?_ | refine e_block ?_ | refine r_block ?_ | refine e_loop ?_ | refine r_loop ?_ | refine e_round ?_ | refine r_round ?_ | refine s_round ?_ | refine f_block ?_ (by decide) | refine r_res ?_ | refine n_res ?_)
     | (simp only [hgb, go_sem, Int.reduceToNat, ↓reduceIte, reduceCtorEq, Nat.reduceEqDiff, Nat.reduceAdd, Nat.reduceMul, Nat.reduceLT, Nat.reduceLeDiff, Nat.reduceBEq, Int.reduceBEq, Int.reduceBNe, String.reduceBEq, Int.reduceEq, Int.reduceLT, Int.reduceLE, Int.reduceGE, Int.reduceGT, f0, vrows_len, callE, resSV, AV.flat, CV.flat, TV.flat]; clear hgb)
     | simp only [go_sem, Int.reduceToNat, ↓reduceIte, reduceCtorEq, Nat.reduceEqDiff, Nat.reduceAdd, Nat.reduceMul, Nat.reduceLT, Nat.reduceLeDiff, Nat.reduceBEq, Int.reduceBEq, Int.reduceBNe, String.reduceBEq, Int.reduceEq, Int.reduceLT, Int.reduceLE, Int.reduceGE, Int.reduceGT, f0, vrows_len, callE, resSV, AV.flat, CV.flat, TV.flat, hAll]
     | refine Or.inl ⟨_, ⟨fun _ _ => rfl, q1⟩, ?_⟩
     | refine ⟨_, ⟨fun _ _ => rfl, q1⟩, ?_⟩
     | refine Or.inl ⟨_, ⟨fun _ _ => rfl, sure18_spec⟩, ?_⟩
     | refine ⟨_, ⟨fun _ _ => rfl, sure18_spec⟩, ?_⟩
     | (refine ite_guard (fun hg => ?_) (fun hg => ?_) <;> (try simp only [Bool.not_eq_true, Bool.not_eq_false, Decidable.not_not] at hg) <;> (first | have hgb : (_ : Bool) = _ := hg | have hgb := ff hg | have hgb := tt hg))
     | (refine ⟨fun hc => ht _ ?_, fun hc => hf _ ?_⟩ <;> clear ht hf KT KF)
     | fail)
  have f0 := ff (show ¬ (R.length : Int) = 0 by omega)
  by_cases h1 : cs.length = 0
  · have f1 := tt (show (cs.length : Int) = 0 by omega)
    refine spec_by Try.func6 rfl mixed tOk evOk (n := 215) rfl (by simp) (by simp) ?_
    rw [initSt_mk, show Try.f6.results.toList = [.tmp 4] from rfl]
    simp only [initL, AV.sv, List.map_cons, List.map_nil, Nat.reduceAdd, Nat.zero_add, vecs_eq]
    repeat' (first
     | (with_reducible first | refine s_seq ?_ | refine s_block ?_ | refine s_region fun kr hr => ?_)
     | (with_reducible refine s_text tOk [32, 33, 36, 58, 66, 1000, 1001, 1002, 1003] (by kernel_rfl) (by simp [HeapIn, namers, namerDst, namerOp, namedOp, namedFn, ownLoad, Blk.has, hasRows, hasL, CV.has, hasRows_up, hasRows_append, f0, f1, vrows_len]; (try ((repeat' apply And.intro) <;> intros <;> omega))) fun kr hr => ?_)
     | (with_reducible first | refine s_op fun K' hk => ?_ | refine t_op fun K' hk => ?_ | (refine hk _ ?_; clear hk K') | (refine ht _ ?_; clear ht hf KT KF) | (refine hf _ ?_; clear ht hf KT KF) | ((first | refine s_nil ?_ | refine t_nil ?_); refine hr _ ?_; clear hr kr))
     | ((with_reducible refine n_seqK [0, 1, 2, 3, 4, 5, 6, 7, 8, 9, 10, 11, 12, 13, 14, 15, 16, 17, 21, 22, 23, 26, 27, 28, 47, 51, 73, 110, 113, 117, 135, 161, 175, 213] [32, 33, 36, 58, 66] ?_); simp only [mk_keep, keepL, List.mem_cons, List.not_mem_nil, Nat.reduceEqDiff, Nat.zero_ne_one, Nat.one_ne_zero, reduceCtorEq, or_false, false_or, or_true, true_or, or_self, eq_self, ↓reduceIte])
     | (with_reducible first | refine s_cond fun KT KF ht hf => ?_ | refine s_skip ?_)
     | ((with_reducible refine s_long ?_); simp only [List.cons_append, List.nil_append])
     | (with_reducible first | refine s_exit ?_ | refine s_ret ?_ | refine e_seq ?_ | refine r_seq ?_ | refine n_block ?_ | refine e_block ?_ | refine r_block ?_ | refine e_loop ?_ | refine r_loop ?_ | refine e_round ?_ | refine r_round ?_ | refine s_round ?_ | refine f_block ?_ (by decide) | refine r_res ?_ | refine n_res ?_)
     | (simp only [hgb, go_sem, Int.reduceToNat, ↓reduceIte, reduceCtorEq, Nat.reduceEqDiff, Nat.reduceAdd, Nat.reduceMul, Nat.reduceLT, Nat.reduceLeDiff, Nat.reduceBEq, Int.reduceBEq, Int.reduceBNe, String.reduceBEq, Int.reduceEq, Int.reduceLT, Int.reduceLE, Int.reduceGE, Int.reduceGT, f0, f1, vrows_len, callE, resSV, AV.flat, CV.flat, TV.flat]; clear hgb)
     | simp only [go_sem, Int.reduceToNat, ↓reduceIte, reduceCtorEq, Nat.reduceEqDiff, Nat.reduceAdd, Nat.reduceMul, Nat.reduceLT, Nat.reduceLeDiff, Nat.reduceBEq, Int.reduceBEq, Int.reduceBNe, String.reduceBEq, Int.reduceEq, Int.reduceLT, Int.reduceLE, Int.reduceGE, Int.reduceGT, f0, f1, vrows_len, callE, resSV, AV.flat, CV.flat, TV.flat, hAll]
     | refine Or.inl ⟨_, ⟨fun _ _ => rfl, q1⟩, ?_⟩
     | refine ⟨_, ⟨fun _ _ => rfl, q1⟩, ?_⟩
     | refine Or.inl ⟨_, ⟨fun _ _ => rfl, sure18_spec⟩, ?_⟩
     | refine ⟨_, ⟨fun _ _ => rfl, sure18_spec⟩, ?_⟩
     | (refine ite_guard (fun hg => ?_) (fun hg => ?_) <;> (try simp only [Bool.not_eq_true, Bool.not_eq_false, Decidable.not_not] at hg) <;> (first | have hgb : (_ : Bool) = _ := hg | have hgb := ff hg | have hgb := tt hg))
     | (refine ⟨fun hc => ht _ ?_, fun hc => hf _ ?_⟩ <;> clear ht hf KT KF)
     | fail)
  have f1 := ff (show ¬ (cs.length : Int) = 0 by omega)
  have hR0 : 0 < R.length := by omega
  obtain ⟨r0, er0⟩ := ex_of (R[0]'hR0)
  have mr0 : r0 ∈ R := er0 ▸ List.getElem_mem hR0
  obtain ⟨_, lr0⟩ := aR r0 mr0
  have s2 : SizedAll (r0 :: cs) := ⟨by rw [List.length_cons]; omega, fun v hv => by
    rcases List.mem_cons.1 hv with rfl | hv
    · exact sR.2 _ mr0
    · exact hcs.2 v hv⟩
  have q2 := fit_spec (r0 :: cs) s2
  have lB := fitL_len (r0 :: cs)
  have aB := fitL_alike (r0 :: cs)
  have sB := fitL_sized (l := r0 :: cs) (by rw [List.length_cons]; omega)
  have dB : fitN (r0 :: cs) = d := by
    unfold fitN
    rw [if_pos (by simp)]
    show max 1 (min r0.length 8) = d
    omega
  rw [dB] at aB
  obtain ⟨B, eB⟩ := ex_of (fitL (r0 :: cs))
  rw [← eB] at q2 lB aB sB
  rw [List.length_cons] at lB
  obtain ⟨C, eC⟩ := ex_of (B.drop 1)
  have lC : C.length = cs.length := by rw [eC, List.length_drop]; omega
  have aC : Alike d C := fun v hv => aB v (List.mem_of_mem_drop (eC ▸ hv))
  have sC : SizedAll C := ⟨by have := sB.1; omega, fun v hv => sB.2 v (List.mem_of_mem_drop (eC ▸ hv))⟩
  have q3 := step_spec R C sR sC (by omega)
  rw [stepOf, if_pos (okStep_alike aR aC hR0 (by omega))] at q3
  have lG := stepF_len R C
  obtain ⟨G, eG⟩ := ex_of (stepF R C)
  rw [← eG] at q3 lG
  rw [vecs_eq, vecs_eq] at q2
  rw [vecs_eq, vecs_eq, vecs_eq] at q3
  have g1 := tt hR0
  have g2 := tt (show (0 : Int) < (R.length : Int) by omega)
  have g3 : (vrows R)[0]? = some [vec r0] := by rw [vrows_get, get_of_lt hR0, ← er0]; rfl
  have g4 : List.drop 1 (vrows B) = vrows C := by rw [eC]; simp [vrows]
  have g5 := tt (show (cs.length + 1) * 24 ≤ 140737488355328 by omega)
  have g6 := tt (show cs.length ≤ 9223372036854775806 by omega)
  have g7 := tt (show 1 ≤ cs.length + 1 by omega)
  have g8 : List.take (cs.length + 1) (vrows (r0 :: cs)) = vrows (r0 :: cs) := List.take_of_length_le (by rw [vrows_len]; simp)
  have g9 := tt (show cs.length + 1 ≤ (vrows (r0 :: cs)).length by rw [vrows_len]; simp)
  have g10 : 1 + cs.length = cs.length + 1 := Nat.add_comm _ _
  have g11 := upv_cons r0 cs
  have g13 : List.take (cs.length + 1) (vrows B) = vrows B := List.take_of_length_le (by rw [vrows_len]; omega)
  have g12 : (up (vrows cs)).length = cs.length := by rw [upv_len]
  refine spec_by Try.func6 rfl mixed tOk evOk (n := 215) rfl (by simp) (by simp) ?_
  rw [initSt_mk, show Try.f6.results.toList = [.tmp 4] from rfl]
  simp only [initL, AV.sv, List.map_cons, List.map_nil, Nat.reduceAdd, Nat.zero_add, vecs_eq]
  repeat' (first
   | ((with_reducible_and_instances refine s_frz 36 rfl (viewRows_up _) ?_); simp only [del, mapV, SV.frz, CV.frz, hasA, AV.has, CV.has, List.drop_zero, List.map_cons, List.map_nil, Nat.zero_add, Nat.reduceEqDiff, Nat.reduceLeDiff, Nat.le_refl, ↓reduceIte, Bool.false_eq_true, f0, f1, g1, g2, g3, g4, g5, g6, g7, g8, g9, g10, g11, g12, g13, vrows_len, vec_eq, lB, lC, lG])
   | (with_reducible first | refine s_seq ?_ | refine s_block ?_ | refine s_region fun kr hr => ?_)
   | (with_reducible refine s_text tOk [32, 33, 36, 58, 66, 1000, 1001, 1002, 1003] (by kernel_rfl) (by simp [HeapIn, namers, namerDst, namerOp, namedOp, namedFn, ownLoad, Blk.has, hasRows, hasL, CV.has, hasRows_up, hasRows_append, f0, f1, g1, g2, g3, g4, g5, g6, g7, g8, g9, g10, g11, g12, g13, vrows_len, vec_eq, lB, lC, lG]; (try ((repeat' apply And.intro) <;> intros <;> omega))) fun kr hr => ?_)
   | (with_reducible first | refine s_op fun K' hk => ?_ | refine t_op fun K' hk => ?_ | (refine hk _ ?_; clear hk K') | (refine ht _ ?_; clear ht hf KT KF) | (refine hf _ ?_; clear ht hf KT KF) | ((first | refine s_nil ?_ | refine t_nil ?_); refine hr _ ?_; clear hr kr))
   | ((with_reducible refine n_seqK [0, 1, 2, 3, 4, 5, 6, 7, 8, 9, 10, 11, 12, 13, 14, 15, 16, 17, 21, 22, 23, 26, 27, 28, 47, 51, 73, 110, 113, 117, 135, 161, 175, 213] [32, 33, 36, 58, 66] ?_); simp only [mk_keep, keepL, List.mem_cons, List.not_mem_nil, Nat.reduceEqDiff, Nat.zero_ne_one, Nat.one_ne_zero, reduceCtorEq, or_false, false_or, or_true, true_or, or_self, eq_self, ↓reduceIte])
   | (with_reducible first | refine s_cond fun KT KF ht hf => ?_ | refine s_skip ?_)
   | ((with_reducible refine s_long ?_); simp only [List.cons_append, List.nil_append])
   | (with_reducible first | refine s_exit ?_ | refine s_ret ?_ | refine e_seq ?_ | refine r_seq ?_ | refine n_block ?_ | refine e_block ?_ | refine r_block ?_ | refine e_loop ?_ | refine r_loop ?_ | refine e_round ?_ | refine r_round ?_ | refine s_round ?_ | refine f_block ?_ (by decide) | refine r_res ?_ | refine n_res ?_)
   | (simp only [hgb, go_sem, Int.reduceToNat, ↓reduceIte, reduceCtorEq, Nat.reduceEqDiff, Nat.reduceAdd, Nat.reduceMul, Nat.reduceLT, Nat.reduceLeDiff, Nat.reduceBEq, Int.reduceBEq, Int.reduceBNe, String.reduceBEq, Int.reduceEq, Int.reduceLT, Int.reduceLE, Int.reduceGE, Int.reduceGT, f0, f1, g1, g2, g3, g4, g5, g6, g7, g8, g9, g10, g11, g12, g13, vrows_len, vec_eq, lB, lC, lG, callE, resSV, AV.flat, CV.flat, TV.flat]; clear hgb)
   | simp only [go_sem, Int.reduceToNat, ↓reduceIte, reduceCtorEq, Nat.reduceEqDiff, Nat.reduceAdd, Nat.reduceMul, Nat.reduceLT, Nat.reduceLeDiff, Nat.reduceBEq, Int.reduceBEq, Int.reduceBNe, String.reduceBEq, Int.reduceEq, Int.reduceLT, Int.reduceLE, Int.reduceGE, Int.reduceGT, f0, f1, g1, g2, g3, g4, g5, g6, g7, g8, g9, g10, g11, g12, g13, vrows_len, vec_eq, lB, lC, lG, callE, resSV, AV.flat, CV.flat, TV.flat, hAll]
   | refine Or.inl ⟨_, ⟨fun _ _ => rfl, q1⟩, ?_⟩
   | refine ⟨_, ⟨fun _ _ => rfl, q1⟩, ?_⟩
   | refine Or.inl ⟨_, ⟨fun _ _ => rfl, q2⟩, ?_⟩
   | refine ⟨_, ⟨fun _ _ => rfl, q2⟩, ?_⟩
   | refine Or.inl ⟨_, ⟨fun _ _ => rfl, q3⟩, ?_⟩
   | refine ⟨_, ⟨fun _ _ => rfl, q3⟩, ?_⟩
   | (refine ite_guard (fun hg => ?_) (fun hg => ?_) <;> (try simp only [Bool.not_eq_true, Bool.not_eq_false, Decidable.not_not] at hg) <;> (first | have hgb : (_ : Bool) = _ := hg | have hgb := ff hg | have hgb := tt hg))
   | (refine ⟨fun hc => ht _ ?_, fun hc => hf _ ?_⟩ <;> clear ht hf KT KF)
   | fail)
  refine w_loop [4, 5, 6, 8, 9] [] (σ := Nat) (fun i st => st = mk [(4, .c (.t (.bool false))), (5, V (.sl 1 (vrows R))), (6, V (.sl 1 (vrows C))), (8, V (.sl 1 (vrows G))), (9, I i)] [] ∧ i ≤ C.length) (fun i => C.length - i) 0 ?_ ?_
  · refine ⟨?_, Nat.zero_le _⟩
    simp only [go_sem, Int.reduceToNat, ↓reduceIte, reduceCtorEq, Nat.reduceEqDiff, Nat.reduceAdd, Nat.reduceMul, Nat.reduceLT, Nat.reduceLeDiff, Nat.reduceBEq, Int.reduceBEq, Int.reduceBNe, String.reduceBEq, Int.reduceEq, Int.reduceLT, Int.reduceLE, Int.reduceGE, Int.reduceGT, mk_keep, keepL, List.mem_cons, List.not_mem_nil, Nat.reduceEqDiff, Nat.zero_ne_one, Nat.one_ne_zero, reduceCtorEq, or_false, false_or, or_true, true_or, or_self, eq_self, ↓reduceIte]
  rintro i st ⟨rfl, hi⟩
  by_cases hil : i < C.length
  · have f2 := tt (show (i : Int) < C.length by omega)
    have f3 := wUp (k := i) (n := C.length) (by omega) (by omega)
    have f4 : (vrows C)[i]? = some [vec C[i]] := by rw [vrows_get, get_of_lt hil]; rfl
    have aci := aC C[i] (List.getElem_mem hil)
    have sci := sC.at hil
    have eci : C.getD i [] = C[i] := by simp [hil]
    have f5 : (vrows G)[i]? = some [vec (stepRow R C i)] := by rw [vrows_get, eG]; simp [stepF, hil]
    have lst : (stepRow R C i).length = d := by
      unfold stepRow; split
      · rw [eci]; exact aci.2
      · rw [eci]; simp [sums, aci.2]
    have hbt := fun k hk => step_between (l := R) (c := C) (d := d) hil (by rw [eci]; exact aci.2) (k := k) hk
    rw [eci] at hbt
    generalize stepRow R C i = S at *
    obtain ⟨ci, z0⟩ := ex_of C[i]
    rw [← z0] at f4 aci sci hbt
    have hne : ci ≠ [] := fun e => by have := aci.2; rw [e] at this; simp at this; omega
    have qt := twin_one hne sci
    have e1 : (up (ints ci)).length = d := by rw [upi_len, aci.2]
    have e2 := extV_nil true ci aci.2
    have e3 := extV_nil false ci aci.2
    repeat' (first
     | (with_reducible first | refine s_seq ?_ | refine s_block ?_ | refine s_region fun kr hr => ?_)
     | (with_reducible refine s_text tOk [32, 33, 36, 58, 59, 61, 66, 67, 69, 1000, 1001, 1002, 1003] (by kernel_rfl) (by simp [HeapIn, namers, namerDst, namerOp, namedOp, namedFn, ownLoad, Blk.has, hasRows, hasL, CV.has, hasRows_up, hasRows_append, f2, f3, f4, vrows_len, vec_eq, e1]; (try ((repeat' apply And.intro) <;> intros <;> omega))) fun kr hr => ?_)
     | (with_reducible first | refine s_op fun K' hk => ?_ | refine t_op fun K' hk => ?_ | (refine hk _ ?_; clear hk K') | (refine ht _ ?_; clear ht hf KT KF) | (refine hf _ ?_; clear ht hf KT KF) | ((first | refine s_nil ?_ | refine t_nil ?_); refine hr _ ?_; clear hr kr))
     | ((with_reducible refine n_seqK [0, 1, 2, 3, 4, 5, 6, 7, 8, 9, 10, 11, 12, 13, 14, 15, 16, 17, 21, 22, 23, 26, 27, 28, 47, 51, 73, 110, 113, 117, 135, 161, 175, 213] [32, 33, 36, 58, 59, 61, 66, 67, 69] ?_); simp only [mk_keep, keepL, List.mem_cons, List.not_mem_nil, Nat.reduceEqDiff, Nat.zero_ne_one, Nat.one_ne_zero, reduceCtorEq, or_false, false_or, or_true, true_or, or_self, eq_self, ↓reduceIte])
     | (with_reducible first | refine s_cond fun KT KF ht hf => ?_ | refine s_skip ?_)
     | ((with_reducible refine s_long ?_); simp only [List.cons_append, List.nil_append])
     | (with_reducible first | refine s_exit ?_ | refine s_ret ?_ | refine e_seq ?_ | refine r_seq ?_ | refine n_block ?_ | refine e_block ?_ | refine r_block ?_ | refine e_loop ?_ | refine r_loop ?_ | refine e_round ?_ | refine r_round ?_ | refine s_round ?_ | refine f_block ?_ (by decide) | refine r_res ?_ | refine n_res ?_)
     | (simp only [hgb, go_sem, Int.reduceToNat, ↓reduceIte, reduceCtorEq, Nat.reduceEqDiff, Nat.reduceAdd, Nat.reduceMul, Nat.reduceLT, Nat.reduceLeDiff, Nat.reduceBEq, Int.reduceBEq, Int.reduceBNe, String.reduceBEq, Int.reduceEq, Int.reduceLT, Int.reduceLE, Int.reduceGE, Int.reduceGT, f2, f3, f4, vrows_len, vec_eq, e1, callE, resSV, AV.flat, CV.flat, TV.flat]; clear hgb)
     | simp only [go_sem, Int.reduceToNat, ↓reduceIte, reduceCtorEq, Nat.reduceEqDiff, Nat.reduceAdd, Nat.reduceMul, Nat.reduceLT, Nat.reduceLeDiff, Nat.reduceBEq, Int.reduceBEq, Int.reduceBNe, String.reduceBEq, Int.reduceEq, Int.reduceLT, Int.reduceLE, Int.reduceGE, Int.reduceGT, f2, f3, f4, vrows_len, vec_eq, e1, callE, resSV, AV.flat, CV.flat, TV.flat, hAll]
     | refine Or.inr (m_callT ⟨fun _ _ => rfl, qt⟩ rfl rfl (by first | (intro k; simp [hasA, AV.has, CV.has, hasL, hasL, CV.has]; done) | fail) (by first | (intro k; simp [hasRows, hasRows_up, hasL, CV.has]; done) | fail) (by decide) (by first | (simp [freshL, Blk.has, hasRows, hasL, CV.has, hasRows_up, hasL, CV.has]; done) | fail) ?_)
     | refine (m_callT ⟨fun _ _ => rfl, qt⟩ rfl rfl (by first | (intro k; simp [hasA, AV.has, CV.has, hasL, hasL, CV.has]; done) | fail) (by first | (intro k; simp [hasRows, hasRows_up, hasL, CV.has]; done) | fail) (by decide) (by first | (simp [freshL, Blk.has, hasRows, hasL, CV.has, hasRows_up, hasL, CV.has]; done) | fail) ?_)
     | refine Or.inr ?_
     | (refine ite_guard (fun hg => ?_) (fun hg => ?_) <;> (try simp only [Bool.not_eq_true, Bool.not_eq_false, Decidable.not_not] at hg) <;> (first | have hgb : (_ : Bool) = _ := hg | have hgb := ff hg | have hgb := tt hg))
     | (refine ⟨fun hc => ht _ ?_, fun hc => hf _ ?_⟩ <;> clear ht hf KT KF)
     | fail)
    refine w_loop [4, 5, 6, 8, 9, 10, 11, 12, 13] [61, 69] (σ := Nat) (fun r st => st = mk [(4, .c (.t (.bool false))), (5, V (.sl 1 (vrows R))), (6, V (.sl 1 (vrows C))), (8, V (.sl 1 (vrows G))), (9, I i), (10, .c (.t (.bool (!(groupOf C i (R.take r)).isEmpty)))), (11, .c (.mr 61 0 d)), (12, .c (.mr 69 0 d)), (13, I r)] [(61, .cells 1 (up (ints (extV true ci (groupOf C i (R.take r)) d)))), (69, .cells 1 (up (ints (extV false ci (groupOf C i (R.take r)) d))))] ∧ r ≤ R.length) (fun r => R.length - r) 0 ?_ ?_
    · refine ⟨?_, Nat.zero_le _⟩
      simp only [go_sem, Int.reduceToNat, ↓reduceIte, reduceCtorEq, Nat.reduceEqDiff, Nat.reduceAdd, Nat.reduceMul, Nat.reduceLT, Nat.reduceLeDiff, Nat.reduceBEq, Int.reduceBEq, Int.reduceBNe, String.reduceBEq, Int.reduceEq, Int.reduceLT, Int.reduceLE, Int.reduceGE, Int.reduceGT, mk_keep, keepL, List.mem_cons, List.not_mem_nil, Nat.reduceEqDiff, Nat.zero_ne_one, Nat.one_ne_zero, reduceCtorEq, or_false, false_or, or_true, true_or, or_self, eq_self, ↓reduceIte, List.take_zero, groupOf, List.filter_nil, e2, e3, List.isEmpty_nil]
    rintro r st ⟨rfl, hrl⟩
    by_cases hrr : r < R.length
    · have p1 := tt (show (r : Int) < R.length by omega)
      have p3 := wUp (k := r) (n := R.length) (by omega) (by omega)
      have p4 : (vrows R)[r]? = some [vec R[r]] := by rw [vrows_get, get_of_lt hrr]; rfl
      have arv := aR R[r] (List.getElem_mem hrr)
      have srv := sR.at hrr
      have hgt := group_take (c := C) (i := i) hrr
      obtain ⟨v, z1⟩ := ex_of R[r]
      rw [← z1] at p4 arv srv hgt
      obtain ⟨w1, w2⟩ := at_eq v (cs := C) (by omega)
      have qn := near_spec v C srv sC
      rw [w1] at qn
      have hmin := nearest_min v (cs := C) hil
      rw [eci, ← z0] at hmin
      have eat : C.getD (at' v C) [] = C[at' v C] := by simp [w2]
      rw [eat] at hmin
      have p5 : (vrows C)[at' v C]? = some [vec C[at' v C]] := by rw [vrows_get, get_of_lt w2]; rfl
      have qL := RL2_spec v C[at' v C] srv (sC.at w2)
      have qL2 := RL2_spec v ci srv sci
      generalize at' v C = at0 at *
      obtain ⟨ca, z2⟩ := ex_of (C[at0]'w2)
      rw [← z2] at p5 hmin qL
      rw [vec_eq, vecs_eq] at qn
      rw [vec_eq, vec_eq] at qL qL2
      have p6 := ff (show ¬ (at0 : Int) < 0 by omega)
      have p7 := ff (show ¬ (C.length : Int) ≤ (at0 : Int) by omega)
      have p8 := ff (show ¬ l2 v ci < l2 v ca by omega)
      have p9 := tt (show (at0 : Int) < (C.length : Int) by omega)
      have p10 := tt (Int.natCast_nonneg at0)
      by_cases hat : at0 = i
      · subst hat
        rw [if_pos rfl] at hgt
        obtain rfl : ci = ca := z0.trans z2.symm
        generalize groupOf C at0 (R.take r) = g at *
        have y1 := extJ_zero true ci g v d
        have y2 := extJ_zero false ci g v d
        repeat' (first
         | (with_reducible first | refine s_seq ?_ | refine s_block ?_ | refine s_region fun kr hr => ?_)
         | (with_reducible refine s_text tOk [32, 33, 36, 58, 61, 66, 69, 1000, 1001, 1002, 1003] (by kernel_rfl) (by simp [HeapIn, namers, namerDst, namerOp, namedOp, namedFn, ownLoad, Blk.has, hasRows, hasL, CV.has, hasRows_up, hasRows_append, f4, p1, p3, p4, p5, p6, p7, p8, p9, p10, vrows_len, vec_eq, ge_iff_le, gt_iff_lt]; (try ((repeat' apply And.intro) <;> intros <;> omega))) fun kr hr => ?_)
         | (with_reducible first | refine s_op fun K' hk => ?_ | refine t_op fun K' hk => ?_ | (refine hk _ ?_; clear hk K') | (refine ht _ ?_; clear ht hf KT KF) | (refine hf _ ?_; clear ht hf KT KF) | ((first | refine s_nil ?_ | refine t_nil ?_); refine hr _ ?_; clear hr kr))
         | ((with_reducible refine n_seqK [0, 1, 2, 3, 4, 5, 6, 7, 8, 9, 10, 11, 12, 13, 14, 15, 16, 17, 21, 22, 23, 26, 27, 28, 47, 51, 73, 110, 113, 117, 135, 161, 175, 213] [32, 33, 36, 58, 61, 66, 69] ?_); simp only [mk_keep, keepL, List.mem_cons, List.not_mem_nil, Nat.reduceEqDiff, Nat.zero_ne_one, Nat.one_ne_zero, reduceCtorEq, or_false, false_or, or_true, true_or, or_self, eq_self, ↓reduceIte])
         | (with_reducible first | refine s_cond fun KT KF ht hf => ?_ | refine s_skip ?_)
         | ((with_reducible refine s_long ?_); simp only [List.cons_append, List.nil_append])
         | (with_reducible first | refine s_exit ?_ | refine s_ret ?_ | refine e_seq ?_ | refine r_seq ?_ | refine n_block ?_ | refine e_block ?_ | refine r_block ?_ | refine e_loop ?_ | refine r_loop ?_ | refine e_round ?_ | refine r_round ?_ | refine s_round ?_ | refine f_block ?_ (by decide) | refine r_res ?_ | refine n_res ?_)
         | (simp only [hgb, go_sem, Int.reduceToNat, ↓reduceIte, reduceCtorEq, Nat.reduceEqDiff, Nat.reduceAdd, Nat.reduceMul, Nat.reduceLT, Nat.reduceLeDiff, Nat.reduceBEq, Int.reduceBEq, Int.reduceBNe, String.reduceBEq, Int.reduceEq, Int.reduceLT, Int.reduceLE, Int.reduceGE, Int.reduceGT, f4, p1, p3, p4, p5, p6, p7, p8, p9, p10, vrows_len, vec_eq, ge_iff_le, gt_iff_lt, callE, resSV, AV.flat, CV.flat, TV.flat]; clear hgb)
         | simp only [go_sem, Int.reduceToNat, ↓reduceIte, reduceCtorEq, Nat.reduceEqDiff, Nat.reduceAdd, Nat.reduceMul, Nat.reduceLT, Nat.reduceLeDiff, Nat.reduceBEq, Int.reduceBEq, Int.reduceBNe, String.reduceBEq, Int.reduceEq, Int.reduceLT, Int.reduceLE, Int.reduceGE, Int.reduceGT, f4, p1, p3, p4, p5, p6, p7, p8, p9, p10, vrows_len, vec_eq, ge_iff_le, gt_iff_lt, callE, resSV, AV.flat, CV.flat, TV.flat, hAll]
         | refine Or.inl ⟨_, ⟨fun _ _ => rfl, qn⟩, ?_⟩
         | refine ⟨_, ⟨fun _ _ => rfl, qn⟩, ?_⟩
         | refine Or.inl ⟨_, ⟨fun _ _ => rfl, qL⟩, ?_⟩
         | refine ⟨_, ⟨fun _ _ => rfl, qL⟩, ?_⟩
         | refine Or.inl ⟨_, ⟨fun _ _ => rfl, qL2⟩, ?_⟩
         | refine ⟨_, ⟨fun _ _ => rfl, qL2⟩, ?_⟩
         | (refine ite_guard (fun hg => ?_) (fun hg => ?_) <;> (try simp only [Bool.not_eq_true, Bool.not_eq_false, Decidable.not_not] at hg) <;> (first | have hgb : (_ : Bool) = _ := hg | have hgb := ff hg | have hgb := tt hg))
         | (refine ⟨fun hc => ht _ ?_, fun hc => hf _ ?_⟩ <;> clear ht hf KT KF)
         | fail)
        refine w_loop [4, 5, 6, 8, 9, 10, 11, 12, 13, 15] [61, 69] (σ := Nat) (fun k st => st = mk [(4, .c (.t (.bool false))), (5, V (.sl 1 (vrows R))), (6, V (.sl 1 (vrows C))), (8, V (.sl 1 (vrows G))), (9, I at0), (10, .c (.t (.bool (!g.isEmpty)))), (11, .c (.mr 61 0 d)), (12, .c (.mr 69 0 d)), (13, I r), (15, I k)] [(61, .cells 1 (up (ints (extJ true ci g v d k)))), (69, .cells 1 (up (ints (extJ false ci g v d k))))] ∧ k ≤ d) (fun k => d - k) 0 ?_ ?_
        · refine ⟨?_, Nat.zero_le _⟩
          simp only [go_sem, Int.reduceToNat, ↓reduceIte, reduceCtorEq, Nat.reduceEqDiff, Nat.reduceAdd, Nat.reduceMul, Nat.reduceLT, Nat.reduceLeDiff, Nat.reduceBEq, Int.reduceBEq, Int.reduceBNe, String.reduceBEq, Int.reduceEq, Int.reduceLT, Int.reduceLE, Int.reduceGE, Int.reduceGT, mk_keep, keepL, List.mem_cons, List.not_mem_nil, Nat.reduceEqDiff, Nat.zero_ne_one, Nat.one_ne_zero, reduceCtorEq, or_false, false_or, or_true, true_or, or_self, eq_self, ↓reduceIte, y1, y2]
        rintro k st ⟨rfl, hkd⟩
        by_cases hk2 : k < d
        · have u1 := tt (show (k : Int) < d by omega)
          have u3 := wUp (k := k) (n := d) hk2 (by omega)
          have u4 : (ints v)[k]? = some [.int .i64 (v.getD k 0)] := by simp [ints, List.getElem?_map, show k < v.length by omega]
          have u5 : (up (ints (extJ true ci g v d k)))[k]? = some [.t (.int .i64 (extC true ci g k))] := by rw [upi_get, extJ_get _ _ _ _ hk2]; rfl
          have u6 : (up (ints (extJ false ci g v d k)))[k]? = some [.t (.int .i64 (extC false ci g k))] := by rw [upi_get, extJ_get _ _ _ _ hk2]; rfl
          have u7 : (up (ints (extJ true ci g v d k))).length = d := by rw [upi_len, extJ_len]
          have u8 : (up (ints (extJ false ci g v d k))).length = d := by rw [upi_len, extJ_len]
          have u9 : v.length = d := arv.2
          have u10 : (ints v).length = d := by rw [ints_len, arv.2]
          have u11 := tt hk2
          have sn1 := extC_snoc true ci g v k
          have sn2 := extC_snoc false ci g v k
          have t1 := extJ_set true ci g v hk2
          have t2 := extJ_set false ci g v hk2
          have t3 := extJ_keep true ci g v hk2
          have t4 := extJ_keep false ci g v hk2
          cases hge : g.isEmpty
          · have hg0 : g ≠ [] := by simpa using hge
            rw [if_neg hg0] at sn1 sn2
            by_cases x1 : v.getD k 0 < extC true ci g k
            · have sn1' : extC true ci (g ++ [v]) k = v.getD k 0 := by rw [sn1]; simp only [ext1, if_true]; omega
              rw [sn1'] at t1
              have x1' := tt x1
              by_cases x2 : extC false ci g k < v.getD k 0
              · have sn2' : extC false ci (g ++ [v]) k = v.getD k 0 := by rw [sn2]; simp only [ext1, Bool.false_eq_true, if_false]; omega
                rw [sn2'] at t2
                have x2' := tt x2
                repeat' (first
                 | (with_reducible first | refine s_seq ?_ | refine s_block ?_ | refine s_region fun kr hr => ?_)
                 | (with_reducible refine s_text tOk [32, 33, 36, 58, 61, 66, 69, 1000, 1001, 1002, 1003] (by kernel_rfl) (by simp [HeapIn, namers, namerDst, namerOp, namedOp, namedFn, ownLoad, Blk.has, hasRows, hasL, CV.has, hasRows_up, hasRows_append, f4, p4, u1, u3, u4, u5, u6, u7, u8, u9, u10, u11, x1', x2', up_set1, t1, t2, vrows_len, vec_eq, ints_len, gt_iff_lt]; (try ((repeat' apply And.intro) <;> intros <;> omega))) fun kr hr => ?_)
                 | (with_reducible first | refine s_op fun K' hk => ?_ | refine t_op fun K' hk => ?_ | (refine hk _ ?_; clear hk K') | (refine ht _ ?_; clear ht hf KT KF) | (refine hf _ ?_; clear ht hf KT KF) | ((first | refine s_nil ?_ | refine t_nil ?_); refine hr _ ?_; clear hr kr))
                 | ((with_reducible refine n_seqK [0, 1, 2, 3, 4, 5, 6, 7, 8, 9, 10, 11, 12, 13, 14, 15, 16, 17, 21, 22, 23, 26, 27, 28, 47, 51, 73, 110, 113, 117, 135, 161, 175, 213] [32, 33, 36, 58, 61, 66, 69] ?_); simp only [mk_keep, keepL, List.mem_cons, List.not_mem_nil, Nat.reduceEqDiff, Nat.zero_ne_one, Nat.one_ne_zero, reduceCtorEq, or_false, false_or, or_true, true_or, or_self, eq_self, ↓reduceIte])
                 | (with_reducible first | refine s_cond fun KT KF ht hf => ?_ | refine s_skip ?_)
                 | ((with_reducible refine s_long ?_); simp only [List.cons_append, List.nil_append])
                 | (with_reducible first | refine s_exit ?_ | refine s_ret ?_ | refine e_seq ?_ | refine r_seq ?_ | refine n_block ?_ | refine e_block ?_ | refine r_block ?_ | refine e_loop ?_ | refine r_loop ?_ | refine e_round ?_ | refine r_round ?_ | refine s_round ?_ | refine f_block ?_ (by decide) | refine r_res ?_ | refine n_res ?_)
                 | (simp only [hgb, go_sem, Int.reduceToNat, ↓reduceIte, reduceCtorEq, Nat.reduceEqDiff, Nat.reduceAdd, Nat.reduceMul, Nat.reduceLT, Nat.reduceLeDiff, Nat.reduceBEq, Int.reduceBEq, Int.reduceBNe, String.reduceBEq, Int.reduceEq, Int.reduceLT, Int.reduceLE, Int.reduceGE, Int.reduceGT, f4, p4, u1, u3, u4, u5, u6, u7, u8, u9, u10, u11, x1', x2', up_set1, t1, t2, vrows_len, vec_eq, ints_len, gt_iff_lt]; clear hgb)
                 | simp only [go_sem, Int.reduceToNat, ↓reduceIte, reduceCtorEq, Nat.reduceEqDiff, Nat.reduceAdd, Nat.reduceMul, Nat.reduceLT, Nat.reduceLeDiff, Nat.reduceBEq, Int.reduceBEq, Int.reduceBNe, String.reduceBEq, Int.reduceEq, Int.reduceLT, Int.reduceLE, Int.reduceGE, Int.reduceGT, f4, p4, u1, u3, u4, u5, u6, u7, u8, u9, u10, u11, x1', x2', up_set1, t1, t2, vrows_len, vec_eq, ints_len, gt_iff_lt, hAll]
                 | (refine ite_guard (fun hg => ?_) (fun hg => ?_) <;> (try simp only [Bool.not_eq_true, Bool.not_eq_false, Decidable.not_not] at hg) <;> (first | have hgb : (_ : Bool) = _ := hg | have hgb := ff hg | have hgb := tt hg))
                 | (refine ⟨fun hc => ht _ ?_, fun hc => hf _ ?_⟩ <;> clear ht hf KT KF)
                 | fail)
                refine n_loop (k + 1) [4, 5, 6, 8, 9, 10, 11, 12, 13, 15] [61, 69] ⟨?_, hk2⟩ (by omega)
                simp only [go_sem, Int.reduceToNat, ↓reduceIte, reduceCtorEq, Nat.reduceEqDiff, Nat.reduceAdd, Nat.reduceMul, Nat.reduceLT, Nat.reduceLeDiff, Nat.reduceBEq, Int.reduceBEq, Int.reduceBNe, String.reduceBEq, Int.reduceEq, Int.reduceLT, Int.reduceLE, Int.reduceGE, Int.reduceGT, mk_keep, keepL, List.mem_cons, List.not_mem_nil, Nat.reduceEqDiff, Nat.zero_ne_one, Nat.one_ne_zero, reduceCtorEq, or_false, false_or, or_true, true_or, or_self, eq_self, ↓reduceIte, Bool.not_false]
              · have sn2' : extC false ci (g ++ [v]) k = extC false ci g k := by rw [sn2]; simp only [ext1, Bool.false_eq_true, if_false]; omega
                have t4' := t4 sn2'
                have x2' := ff x2
                repeat' (first
                 | (with_reducible first | refine s_seq ?_ | refine s_block ?_ | refine s_region fun kr hr => ?_)
                 | (with_reducible refine s_text tOk [32, 33, 36, 58, 61, 66, 69, 1000, 1001, 1002, 1003] (by kernel_rfl) (by simp [HeapIn, namers, namerDst, namerOp, namedOp, namedFn, ownLoad, Blk.has, hasRows, hasL, CV.has, hasRows_up, hasRows_append, f4, p4, u1, u3, u4, u5, u6, u7, u8, u9, u10, u11, x1', x2', up_set1, t1, vrows_len, vec_eq, ints_len, gt_iff_lt]; (try ((repeat' apply And.intro) <;> intros <;> omega))) fun kr hr => ?_)
                 | (with_reducible first | refine s_op fun K' hk => ?_ | refine t_op fun K' hk => ?_ | (refine hk _ ?_; clear hk K') | (refine ht _ ?_; clear ht hf KT KF) | (refine hf _ ?_; clear ht hf KT KF) | ((first | refine s_nil ?_ | refine t_nil ?_); refine hr _ ?_; clear hr kr))
                 | ((with_reducible refine n_seqK [0, 1, 2, 3, 4, 5, 6, 7, 8, 9, 10, 11, 12, 13, 14, 15, 16, 17, 21, 22, 23, 26, 27, 28, 47, 51, 73, 110, 113, 117, 135, 161, 175, 213] [32, 33, 36, 58, 61, 66, 69] ?_); simp only [mk_keep, keepL, List.mem_cons, List.not_mem_nil, Nat.reduceEqDiff, Nat.zero_ne_one, Nat.one_ne_zero, reduceCtorEq, or_false, false_or, or_true, true_or, or_self, eq_self, ↓reduceIte])
                 | (with_reducible first | refine s_cond fun KT KF ht hf => ?_ | refine s_skip ?_)
                 | ((with_reducible refine s_long ?_); simp only [List.cons_append, List.nil_append])
                 | (with_reducible first | refine s_exit ?_ | refine s_ret ?_ | refine e_seq ?_ | refine r_seq ?_ | refine n_block ?_ | refine e_block ?_ | refine r_block ?_ | refine e_loop ?_ | refine r_loop ?_ | refine e_round ?_ | refine r_round ?_ | refine s_round ?_ | refine f_block ?_ (by decide) | refine r_res ?_ | refine n_res ?_)
                 | (simp only [hgb, go_sem, Int.reduceToNat, ↓reduceIte, reduceCtorEq, Nat.reduceEqDiff, Nat.reduceAdd, Nat.reduceMul, Nat.reduceLT, Nat.reduceLeDiff, Nat.reduceBEq, Int.reduceBEq, Int.reduceBNe, String.reduceBEq, Int.reduceEq, Int.reduceLT, Int.reduceLE, Int.reduceGE, Int.reduceGT, f4, p4, u1, u3, u4, u5, u6, u7, u8, u9, u10, u11, x1', x2', up_set1, t1, vrows_len, vec_eq, ints_len, gt_iff_lt]; clear hgb)
                 | simp only [go_sem, Int.reduceToNat, ↓reduceIte, reduceCtorEq, Nat.reduceEqDiff, Nat.reduceAdd, Nat.reduceMul, Nat.reduceLT, Nat.reduceLeDiff, Nat.reduceBEq, Int.reduceBEq, Int.reduceBNe, String.reduceBEq, Int.reduceEq, Int.reduceLT, Int.reduceLE, Int.reduceGE, Int.reduceGT, f4, p4, u1, u3, u4, u5, u6, u7, u8, u9, u10, u11, x1', x2', up_set1, t1, vrows_len, vec_eq, ints_len, gt_iff_lt, hAll]
                 | (refine ite_guard (fun hg => ?_) (fun hg => ?_) <;> (try simp only [Bool.not_eq_true, Bool.not_eq_false, Decidable.not_not] at hg) <;> (first | have hgb : (_ : Bool) = _ := hg | have hgb := ff hg | have hgb := tt hg))
                 | (refine ⟨fun hc => ht _ ?_, fun hc => hf _ ?_⟩ <;> clear ht hf KT KF)
                 | fail)
                refine n_loop (k + 1) [4, 5, 6, 8, 9, 10, 11, 12, 13, 15] [61, 69] ⟨?_, hk2⟩ (by omega)
                simp only [go_sem, Int.reduceToNat, ↓reduceIte, reduceCtorEq, Nat.reduceEqDiff, Nat.reduceAdd, Nat.reduceMul, Nat.reduceLT, Nat.reduceLeDiff, Nat.reduceBEq, Int.reduceBEq, Int.reduceBNe, String.reduceBEq, Int.reduceEq, Int.reduceLT, Int.reduceLE, Int.reduceGE, Int.reduceGT, mk_keep, keepL, List.mem_cons, List.not_mem_nil, Nat.reduceEqDiff, Nat.zero_ne_one, Nat.one_ne_zero, reduceCtorEq, or_false, false_or, or_true, true_or, or_self, eq_self, ↓reduceIte, Bool.not_false, t4']
            · have sn1' : extC true ci (g ++ [v]) k = extC true ci g k := by rw [sn1]; simp only [ext1, if_true]; omega
              have t3' := t3 sn1'
              have x1' := ff x1
              by_cases x2 : extC false ci g k < v.getD k 0
              · have sn2' : extC false ci (g ++ [v]) k = v.getD k 0 := by rw [sn2]; simp only [ext1, Bool.false_eq_true, if_false]; omega
                rw [sn2'] at t2
                have x2' := tt x2
                repeat' (first
                 | (with_reducible first | refine s_seq ?_ | refine s_block ?_ | refine s_region fun kr hr => ?_)
                 | (with_reducible refine s_text tOk [32, 33, 36, 58, 61, 66, 69, 1000, 1001, 1002, 1003] (by kernel_rfl) (by simp [HeapIn, namers, namerDst, namerOp, namedOp, namedFn, ownLoad, Blk.has, hasRows, hasL, CV.has, hasRows_up, hasRows_append, f4, p4, u1, u3, u4, u5, u6, u7, u8, u9, u10, u11, x1', x2', up_set1, t2, vrows_len, vec_eq, ints_len, gt_iff_lt]; (try ((repeat' apply And.intro) <;> intros <;> omega))) fun kr hr => ?_)
                 | (with_reducible first | refine s_op fun K' hk => ?_ | refine t_op fun K' hk => ?_ | (refine hk _ ?_; clear hk K') | (refine ht _ ?_; clear ht hf KT KF) | (refine hf _ ?_; clear ht hf KT KF) | ((first | refine s_nil ?_ | refine t_nil ?_); refine hr _ ?_; clear hr kr))
                 | ((with_reducible refine n_seqK [0, 1, 2, 3, 4, 5, 6, 7, 8, 9, 10, 11, 12, 13, 14, 15, 16, 17, 21, 22, 23, 26, 27, 28, 47, 51, 73, 110, 113, 117, 135, 161, 175, 213] [32, 33, 36, 58, 61, 66, 69] ?_); simp only [mk_keep, keepL, List.mem_cons, List.not_mem_nil, Nat.reduceEqDiff, Nat.zero_ne_one, Nat.one_ne_zero, reduceCtorEq, or_false, false_or, or_true, true_or, or_self, eq_self, ↓reduceIte])
                 | (with_reducible first | refine s_cond fun KT KF ht hf => ?_ | refine s_skip ?_)
                 | ((with_reducible refine s_long ?_); simp only [List.cons_append, List.nil_append])
                 | (with_reducible first | refine s_exit ?_ | refine s_ret ?_ | refine e_seq ?_ | refine r_seq ?_ | refine n_block ?_ | refine e_block ?_ | refine r_block ?_ | refine e_loop ?_ | refine r_loop ?_ | refine e_round ?_ | refine r_round ?_ | refine s_round ?_ | refine f_block ?_ (by decide) | refine r_res ?_ | refine n_res ?_)
                 | (simp only [hgb, go_sem, Int.reduceToNat, ↓reduceIte, reduceCtorEq, Nat.reduceEqDiff, Nat.reduceAdd, Nat.reduceMul, Nat.reduceLT, Nat.reduceLeDiff, Nat.reduceBEq, Int.reduceBEq, Int.reduceBNe, String.reduceBEq, Int.reduceEq, Int.reduceLT, Int.reduceLE, Int.reduceGE, Int.reduceGT, f4, p4, u1, u3, u4, u5, u6, u7, u8, u9, u10, u11, x1', x2', up_set1, t2, vrows_len, vec_eq, ints_len, gt_iff_lt]; clear hgb)
                 | simp only [go_sem, Int.reduceToNat, ↓reduceIte, reduceCtorEq, Nat.reduceEqDiff, Nat.reduceAdd, Nat.reduceMul, Nat.reduceLT, Nat.reduceLeDiff, Nat.reduceBEq, Int.reduceBEq, Int.reduceBNe, String.reduceBEq, Int.reduceEq, Int.reduceLT, Int.reduceLE, Int.reduceGE, Int.reduceGT, f4, p4, u1, u3, u4, u5, u6, u7, u8, u9, u10, u11, x1', x2', up_set1, t2, vrows_len, vec_eq, ints_len, gt_iff_lt, hAll]
                 | (refine ite_guard (fun hg => ?_) (fun hg => ?_) <;> (try simp only [Bool.not_eq_true, Bool.not_eq_false, Decidable.not_not] at hg) <;> (first | have hgb : (_ : Bool) = _ := hg | have hgb := ff hg | have hgb := tt hg))
                 | (refine ⟨fun hc => ht _ ?_, fun hc => hf _ ?_⟩ <;> clear ht hf KT KF)
                 | fail)
                refine n_loop (k + 1) [4, 5, 6, 8, 9, 10, 11, 12, 13, 15] [61, 69] ⟨?_, hk2⟩ (by omega)
                simp only [go_sem, Int.reduceToNat, ↓reduceIte, reduceCtorEq, Nat.reduceEqDiff, Nat.reduceAdd, Nat.reduceMul, Nat.reduceLT, Nat.reduceLeDiff, Nat.reduceBEq, Int.reduceBEq, Int.reduceBNe, String.reduceBEq, Int.reduceEq, Int.reduceLT, Int.reduceLE, Int.reduceGE, Int.reduceGT, mk_keep, keepL, List.mem_cons, List.not_mem_nil, Nat.reduceEqDiff, Nat.zero_ne_one, Nat.one_ne_zero, reduceCtorEq, or_false, false_or, or_true, true_or, or_self, eq_self, ↓reduceIte, Bool.not_false, t3']
              · have sn2' : extC false ci (g ++ [v]) k = extC false ci g k := by rw [sn2]; simp only [ext1, Bool.false_eq_true, if_false]; omega
                have t4' := t4 sn2'
                have x2' := ff x2
                repeat' (first
                 | (with_reducible first | refine s_seq ?_ | refine s_block ?_ | refine s_region fun kr hr => ?_)
                 | (with_reducible refine s_text tOk [32, 33, 36, 58, 61, 66, 69, 1000, 1001, 1002, 1003] (by kernel_rfl) (by simp [HeapIn, namers, namerDst, namerOp, namedOp, namedFn, ownLoad, Blk.has, hasRows, hasL, CV.has, hasRows_up, hasRows_append, f4, p4, u1, u3, u4, u5, u6, u7, u8, u9, u10, u11, x1', x2', vrows_len, vec_eq, ints_len, gt_iff_lt]; (try ((repeat' apply And.intro) <;> intros <;> omega))) fun kr hr => ?_)
                 | (with_reducible first | refine s_op fun K' hk => ?_ | refine t_op fun K' hk => ?_ | (refine hk _ ?_; clear hk K') | (refine ht _ ?_; clear ht hf KT KF) | (refine hf _ ?_; clear ht hf KT KF) | ((first | refine s_nil ?_ | refine t_nil ?_); refine hr _ ?_; clear hr kr))
                 | ((with_reducible refine n_seqK [0, 1, 2, 3, 4, 5, 6, 7, 8, 9, 10, 11, 12, 13, 14, 15, 16, 17, 21, 22, 23, 26, 27, 28, 47, 51, 73, 110, 113, 117, 135, 161, 175, 213] [32, 33, 36, 58, 61, 66, 69] ?_); simp only [mk_keep, keepL, List.mem_cons, List.not_mem_nil, Nat.reduceEqDiff, Nat.zero_ne_one, Nat.one_ne_zero, reduceCtorEq, or_false, false_or, or_true, true_or, or_self, eq_self, ↓reduceIte])
                 | (with_reducible first | refine s_cond fun KT KF ht hf => ?_ | refine s_skip ?_)
                 | ((with_reducible refine s_long ?_); simp only [List.cons_append, List.nil_append])
                 | (with_reducible first | refine s_exit ?_ | refine s_ret ?_ | refine e_seq ?_ | refine r_seq ?_ | refine n_block ?_ | refine e_block ?_ | refine r_block ?_ | refine e_loop ?_ | refine r_loop ?_ | refine e_round ?_ | refine r_round ?_ | refine s_round ?_ | refine f_block ?_ (by decide) | refine r_res ?_ | refine n_res ?_)
                 | (simp only [hgb, go_sem, Int.reduceToNat, ↓reduceIte, reduceCtorEq, Nat.reduceEqDiff, Nat.reduceAdd, Nat.reduceMul, Nat.reduceLT, Nat.reduceLeDiff, Nat.reduceBEq, Int.reduceBEq, Int.reduceBNe, String.reduceBEq, Int.reduceEq, Int.reduceLT, Int.reduceLE, Int.reduceGE, Int.reduceGT, f4, p4, u1, u3, u4, u5, u6, u7, u8, u9, u10, u11, x1', x2', vrows_len, vec_eq, ints_len, gt_iff_lt]; clear hgb)
                 | simp only [go_sem, Int.reduceToNat, ↓reduceIte, reduceCtorEq, Nat.reduceEqDiff, Nat.reduceAdd, Nat.reduceMul, Nat.reduceLT, Nat.reduceLeDiff, Nat.reduceBEq, Int.reduceBEq, Int.reduceBNe, String.reduceBEq, Int.reduceEq, Int.reduceLT, Int.reduceLE, Int.reduceGE, Int.reduceGT, f4, p4, u1, u3, u4, u5, u6, u7, u8, u9, u10, u11, x1', x2', vrows_len, vec_eq, ints_len, gt_iff_lt, hAll]
                 | (refine ite_guard (fun hg => ?_) (fun hg => ?_) <;> (try simp only [Bool.not_eq_true, Bool.not_eq_false, Decidable.not_not] at hg) <;> (first | have hgb : (_ : Bool) = _ := hg | have hgb := ff hg | have hgb := tt hg))
                 | (refine ⟨fun hc => ht _ ?_, fun hc => hf _ ?_⟩ <;> clear ht hf KT KF)
                 | fail)
                refine n_loop (k + 1) [4, 5, 6, 8, 9, 10, 11, 12, 13, 15] [61, 69] ⟨?_, hk2⟩ (by omega)
                simp only [go_sem, Int.reduceToNat, ↓reduceIte, reduceCtorEq, Nat.reduceEqDiff, Nat.reduceAdd, Nat.reduceMul, Nat.reduceLT, Nat.reduceLeDiff, Nat.reduceBEq, Int.reduceBEq, Int.reduceBNe, String.reduceBEq, Int.reduceEq, Int.reduceLT, Int.reduceLE, Int.reduceGE, Int.reduceGT, mk_keep, keepL, List.mem_cons, List.not_mem_nil, Nat.reduceEqDiff, Nat.zero_ne_one, Nat.one_ne_zero, reduceCtorEq, or_false, false_or, or_true, true_or, or_self, eq_self, ↓reduceIte, Bool.not_false, t3', t4']
          · have hg0 : g = [] := by simpa using hge
            rw [if_pos hg0] at sn1 sn2
            rw [sn1] at t1
            rw [sn2] at t2
            repeat' (first
             | (with_reducible first | refine s_seq ?_ | refine s_block ?_ | refine s_region fun kr hr => ?_)
             | (with_reducible refine s_text tOk [32, 33, 36, 58, 61, 66, 69, 1000, 1001, 1002, 1003] (by kernel_rfl) (by simp [HeapIn, namers, namerDst, namerOp, namedOp, namedFn, ownLoad, Blk.has, hasRows, hasL, CV.has, hasRows_up, hasRows_append, f4, p4, u1, u3, u4, u5, u6, u7, u8, u9, u10, u11, up_set1, t1, t2, vrows_len, vec_eq, ints_len, gt_iff_lt]; (try ((repeat' apply And.intro) <;> intros <;> omega))) fun kr hr => ?_)
             | (with_reducible first | refine s_op fun K' hk => ?_ | refine t_op fun K' hk => ?_ | (refine hk _ ?_; clear hk K') | (refine ht _ ?_; clear ht hf KT KF) | (refine hf _ ?_; clear ht hf KT KF) | ((first | refine s_nil ?_ | refine t_nil ?_); refine hr _ ?_; clear hr kr))
             | ((with_reducible refine n_seqK [0, 1, 2, 3, 4, 5, 6, 7, 8, 9, 10, 11, 12, 13, 14, 15, 16, 17, 21, 22, 23, 26, 27, 28, 47, 51, 73, 110, 113, 117, 135, 161, 175, 213] [32, 33, 36, 58, 61, 66, 69] ?_); simp only [mk_keep, keepL, List.mem_cons, List.not_mem_nil, Nat.reduceEqDiff, Nat.zero_ne_one, Nat.one_ne_zero, reduceCtorEq, or_false, false_or, or_true, true_or, or_self, eq_self, ↓reduceIte])
             | (with_reducible first | refine s_cond fun KT KF ht hf => ?_ | refine s_skip ?_)
             | ((with_reducible refine s_long ?_); simp only [List.cons_append, List.nil_append])
             | (with_reducible first | refine s_exit ?_ | refine s_ret ?_ | refine e_seq ?_ | refine r_seq ?_ | refine n_block ?_ | refine e_block ?_ | refine r_block ?_ | refine e_loop ?_ | refine r_loop ?_ | refine e_round ?_ | refine r_round ?_ | refine s_round ?_ | refine f_block ?_ (by decide) | refine r_res ?_ | refine n_res ?_)
             | (simp only [hgb, go_sem, Int.reduceToNat, ↓reduceIte, reduceCtorEq, Nat.reduceEqDiff, Nat.reduceAdd, Nat.reduceMul, Nat.reduceLT, Nat.reduceLeDiff, Nat.reduceBEq, Int.reduceBEq, Int.reduceBNe, String.reduceBEq, Int.reduceEq, Int.reduceLT, Int.reduceLE, Int.reduceGE, Int.reduceGT, f4, p4, u1, u3, u4, u5, u6, u7, u8, u9, u10, u11, up_set1, t1, t2, vrows_len, vec_eq, ints_len, gt_iff_lt]; clear hgb)
             | simp only [go_sem, Int.reduceToNat, ↓reduceIte, reduceCtorEq, Nat.reduceEqDiff, Nat.reduceAdd, Nat.reduceMul, Nat.reduceLT, Nat.reduceLeDiff, Nat.reduceBEq, Int.reduceBEq, Int.reduceBNe, String.reduceBEq, Int.reduceEq, Int.reduceLT, Int.reduceLE, Int.reduceGE, Int.reduceGT, f4, p4, u1, u3, u4, u5, u6, u7, u8, u9, u10, u11, up_set1, t1, t2, vrows_len, vec_eq, ints_len, gt_iff_lt, hAll]
             | (refine ite_guard (fun hg => ?_) (fun hg => ?_) <;> (try simp only [Bool.not_eq_true, Bool.not_eq_false, Decidable.not_not] at hg) <;> (first | have hgb : (_ : Bool) = _ := hg | have hgb := ff hg | have hgb := tt hg))
             | (refine ⟨fun hc => ht _ ?_, fun hc => hf _ ?_⟩ <;> clear ht hf KT KF)
             | fail)
            refine n_loop (k + 1) [4, 5, 6, 8, 9, 10, 11, 12, 13, 15] [61, 69] ⟨?_, hk2⟩ (by omega)
            simp only [go_sem, Int.reduceToNat, ↓reduceIte, reduceCtorEq, Nat.reduceEqDiff, Nat.reduceAdd, Nat.reduceMul, Nat.reduceLT, Nat.reduceLeDiff, Nat.reduceBEq, Int.reduceBEq, Int.reduceBNe, String.reduceBEq, Int.reduceEq, Int.reduceLT, Int.reduceLE, Int.reduceGE, Int.reduceGT, mk_keep, keepL, List.mem_cons, List.not_mem_nil, Nat.reduceEqDiff, Nat.zero_ne_one, Nat.one_ne_zero, reduceCtorEq, or_false, false_or, or_true, true_or, or_self, eq_self, ↓reduceIte, Bool.not_true]
        · have u1 := ff (show ¬ ((k : Int) < d) by omega)
          obtain rfl : k = d := by omega
          have y3 := extJ_all true ci g v k
          have y4 := extJ_all false ci g v k
          have y5 : (g ++ [v]).isEmpty = false := by simp
          repeat' (first
           | (with_reducible first | refine s_seq ?_ | refine s_block ?_ | refine s_region fun kr hr => ?_)
           | (with_reducible refine s_text tOk [32, 33, 36, 58, 61, 66, 69, 1000, 1001, 1002, 1003] (by kernel_rfl) (by simp [HeapIn, namers, namerDst, namerOp, namedOp, namedFn, ownLoad, Blk.has, hasRows, hasL, CV.has, hasRows_up, hasRows_append, u1, p3, vrows_len]; (try ((repeat' apply And.intro) <;> intros <;> omega))) fun kr hr => ?_)
           | (with_reducible first | refine s_op fun K' hk => ?_ | refine t_op fun K' hk => ?_ | (refine hk _ ?_; clear hk K') | (refine ht _ ?_; clear ht hf KT KF) | (refine hf _ ?_; clear ht hf KT KF) | ((first | refine s_nil ?_ | refine t_nil ?_); refine hr _ ?_; clear hr kr))
           | ((with_reducible refine n_seqK [0, 1, 2, 3, 4, 5, 6, 7, 8, 9, 10, 11, 12, 13, 14, 15, 16, 17, 21, 22, 23, 26, 27, 28, 47, 51, 73, 110, 113, 117, 135, 161, 175, 213] [32, 33, 36, 58, 61, 66, 69] ?_); simp only [mk_keep, keepL, List.mem_cons, List.not_mem_nil, Nat.reduceEqDiff, Nat.zero_ne_one, Nat.one_ne_zero, reduceCtorEq, or_false, false_or, or_true, true_or, or_self, eq_self, ↓reduceIte])
           | (with_reducible first | refine s_cond fun KT KF ht hf => ?_ | refine s_skip ?_)
           | ((with_reducible refine s_long ?_); simp only [List.cons_append, List.nil_append])
           | (with_reducible first | refine s_exit ?_ | refine s_ret ?_ | refine e_seq ?_ | refine r_seq ?_ | refine n_block ?_ | refine e_block ?_ | refine r_block ?_ | refine e_loop ?_ | refine r_loop ?_ | refine e_round ?_ | refine r_round ?_ | refine s_round ?_ | refine f_block ?_ (by decide) | refine r_res ?_ | refine n_res ?_)
           | (simp only [hgb, go_sem, Int.reduceToNat, ↓reduceIte, reduceCtorEq, Nat.reduceEqDiff, Nat.reduceAdd, Nat.reduceMul, Nat.reduceLT, Nat.reduceLeDiff, Nat.reduceBEq, Int.reduceBEq, Int.reduceBNe, String.reduceBEq, Int.reduceEq, Int.reduceLT, Int.reduceLE, Int.reduceGE, Int.reduceGT, u1, p3, vrows_len]; clear hgb)
           | simp only [go_sem, Int.reduceToNat, ↓reduceIte, reduceCtorEq, Nat.reduceEqDiff, Nat.reduceAdd, Nat.reduceMul, Nat.reduceLT, Nat.reduceLeDiff, Nat.reduceBEq, Int.reduceBEq, Int.reduceBNe, String.reduceBEq, Int.reduceEq, Int.reduceLT, Int.reduceLE, Int.reduceGE, Int.reduceGT, u1, p3, vrows_len, hAll]
           | (refine ite_guard (fun hg => ?_) (fun hg => ?_) <;> (try simp only [Bool.not_eq_true, Bool.not_eq_false, Decidable.not_not] at hg) <;> (first | have hgb : (_ : Bool) = _ := hg | have hgb := ff hg | have hgb := tt hg))
           | (refine ⟨fun hc => ht _ ?_, fun hc => hf _ ?_⟩ <;> clear ht hf KT KF)
           | fail)
          refine n_loop (r + 1) [4, 5, 6, 8, 9, 10, 11, 12, 13] [61, 69] ⟨?_, hrr⟩ (by omega)
          simp only [go_sem, Int.reduceToNat, ↓reduceIte, reduceCtorEq, Nat.reduceEqDiff, Nat.reduceAdd, Nat.reduceMul, Nat.reduceLT, Nat.reduceLeDiff, Nat.reduceBEq, Int.reduceBEq, Int.reduceBNe, String.reduceBEq, Int.reduceEq, Int.reduceLT, Int.reduceLE, Int.reduceGE, Int.reduceGT, mk_keep, keepL, List.mem_cons, List.not_mem_nil, Nat.reduceEqDiff, Nat.zero_ne_one, Nat.one_ne_zero, reduceCtorEq, or_false, false_or, or_true, true_or, or_self, eq_self, ↓reduceIte, hgt, y3, y4, y5, Bool.not_false]
      · have p11 := ff (show ¬ (at0 : Int) = (i : Int) by omega)
        rw [if_neg hat] at hgt
        repeat' (first
         | (with_reducible first | refine s_seq ?_ | refine s_block ?_ | refine s_region fun kr hr => ?_)
         | (with_reducible refine s_text tOk [32, 33, 36, 58, 61, 66, 69, 1000, 1001, 1002, 1003] (by kernel_rfl) (by simp [HeapIn, namers, namerDst, namerOp, namedOp, namedFn, ownLoad, Blk.has, hasRows, hasL, CV.has, hasRows_up, hasRows_append, f4, p1, p3, p4, p5, p6, p7, p8, p9, p10, p11, vrows_len, vec_eq, ge_iff_le, gt_iff_lt]; (try ((repeat' apply And.intro) <;> intros <;> omega))) fun kr hr => ?_)
         | (with_reducible first | refine s_op fun K' hk => ?_ | refine t_op fun K' hk => ?_ | (refine hk _ ?_; clear hk K') | (refine ht _ ?_; clear ht hf KT KF) | (refine hf _ ?_; clear ht hf KT KF) | ((first | refine s_nil ?_ | refine t_nil ?_); refine hr _ ?_; clear hr kr))
         | ((with_reducible refine n_seqK [0, 1, 2, 3, 4, 5, 6, 7, 8, 9, 10, 11, 12, 13, 14, 15, 16, 17, 21, 22, 23, 26, 27, 28, 47, 51, 73, 110, 113, 117, 135, 161, 175, 213] [32, 33, 36, 58, 61, 66, 69] ?_); simp only [mk_keep, keepL, List.mem_cons, List.not_mem_nil, Nat.reduceEqDiff, Nat.zero_ne_one, Nat.one_ne_zero, reduceCtorEq, or_false, false_or, or_true, true_or, or_self, eq_self, ↓reduceIte])
         | (with_reducible first | refine s_cond fun KT KF ht hf => ?_ | refine s_skip ?_)
         | ((with_reducible refine s_long ?_); simp only [List.cons_append, List.nil_append])
         | (with_reducible first | refine s_exit ?_ | refine s_ret ?_ | refine e_seq ?_ | refine r_seq ?_ | refine n_block ?_ | refine e_block ?_ | refine r_block ?_ | refine e_loop ?_ | refine r_loop ?_ | refine e_round ?_ | refine r_round ?_ | refine s_round ?_ | refine f_block ?_ (by decide) | refine r_res ?_ | refine n_res ?_)
         | (simp only [hgb, go_sem, Int.reduceToNat, ↓reduceIte, reduceCtorEq, Nat.reduceEqDiff, Nat.reduceAdd, Nat.reduceMul, Nat.reduceLT, Nat.reduceLeDiff, Nat.reduceBEq, Int.reduceBEq, Int.reduceBNe, String.reduceBEq, Int.reduceEq, Int.reduceLT, Int.reduceLE, Int.reduceGE, Int.reduceGT, f4, p1, p3, p4, p5, p6, p7, p8, p9, p10, p11, vrows_len, vec_eq, ge_iff_le, gt_iff_lt, callE, resSV, AV.flat, CV.flat, TV.flat]; clear hgb)
         | simp only [go_sem, Int.reduceToNat, ↓reduceIte, reduceCtorEq, Nat.reduceEqDiff, Nat.reduceAdd, Nat.reduceMul, Nat.reduceLT, Nat.reduceLeDiff, Nat.reduceBEq, Int.reduceBEq, Int.reduceBNe, String.reduceBEq, Int.reduceEq, Int.reduceLT, Int.reduceLE, Int.reduceGE, Int.reduceGT, f4, p1, p3, p4, p5, p6, p7, p8, p9, p10, p11, vrows_len, vec_eq, ge_iff_le, gt_iff_lt, callE, resSV, AV.flat, CV.flat, TV.flat, hAll]
         | refine Or.inl ⟨_, ⟨fun _ _ => rfl, qn⟩, ?_⟩
         | refine ⟨_, ⟨fun _ _ => rfl, qn⟩, ?_⟩
         | refine Or.inl ⟨_, ⟨fun _ _ => rfl, qL⟩, ?_⟩
         | refine ⟨_, ⟨fun _ _ => rfl, qL⟩, ?_⟩
         | refine Or.inl ⟨_, ⟨fun _ _ => rfl, qL2⟩, ?_⟩
         | refine ⟨_, ⟨fun _ _ => rfl, qL2⟩, ?_⟩
         | (refine ite_guard (fun hg => ?_) (fun hg => ?_) <;> (try simp only [Bool.not_eq_true, Bool.not_eq_false, Decidable.not_not] at hg) <;> (first | have hgb : (_ : Bool) = _ := hg | have hgb := ff hg | have hgb := tt hg))
         | (refine ⟨fun hc => ht _ ?_, fun hc => hf _ ?_⟩ <;> clear ht hf KT KF)
         | fail)
        refine n_loop (r + 1) [4, 5, 6, 8, 9, 10, 11, 12, 13] [61, 69] ⟨?_, hrr⟩ (by omega)
        simp only [mk_keep, keepL, List.mem_cons, List.not_mem_nil, Nat.reduceEqDiff, Nat.zero_ne_one, Nat.one_ne_zero, reduceCtorEq, or_false, false_or, or_true, true_or, or_self, eq_self, ↓reduceIte, hgt]
    · have p1 := ff (show ¬ ((r : Int) < R.length) by omega)
      obtain rfl : r = R.length := by omega
      rw [List.take_length]
      generalize groupOf C i R = g at *
      repeat' (first
       | (with_reducible first | refine s_seq ?_ | refine s_block ?_ | refine s_region fun kr hr => ?_)
       | (with_reducible refine s_text tOk [32, 33, 36, 58, 61, 66, 69, 1000, 1001, 1002, 1003] (by kernel_rfl) (by simp [HeapIn, namers, namerDst, namerOp, namedOp, namedFn, ownLoad, Blk.has, hasRows, hasL, CV.has, hasRows_up, hasRows_append, p1, vrows_len]; (try ((repeat' apply And.intro) <;> intros <;> omega))) fun kr hr => ?_)
       | (with_reducible first | refine s_op fun K' hk => ?_ | refine t_op fun K' hk => ?_ | (refine hk _ ?_; clear hk K') | (refine ht _ ?_; clear ht hf KT KF) | (refine hf _ ?_; clear ht hf KT KF) | ((first | refine s_nil ?_ | refine t_nil ?_); refine hr _ ?_; clear hr kr))
       | ((with_reducible refine n_seqK [0, 1, 2, 3, 4, 5, 6, 7, 8, 9, 10, 11, 12, 13, 14, 15, 16, 17, 21, 22, 23, 26, 27, 28, 47, 51, 73, 110, 113, 117, 135, 161, 175, 213] [32, 33, 36, 58, 61, 66, 69] ?_); simp only [mk_keep, keepL, List.mem_cons, List.not_mem_nil, Nat.reduceEqDiff, Nat.zero_ne_one, Nat.one_ne_zero, reduceCtorEq, or_false, false_or, or_true, true_or, or_self, eq_self, ↓reduceIte])
       | (with_reducible first | refine s_cond fun KT KF ht hf => ?_ | refine s_skip ?_)
       | ((with_reducible refine s_long ?_); simp only [List.cons_append, List.nil_append])
       | (with_reducible first | refine s_exit ?_ | refine s_ret ?_ | refine e_seq ?_ | refine r_seq ?_ | refine n_block ?_ | refine e_block ?_ | refine r_block ?_ | refine e_loop ?_ | refine r_loop ?_ | refine e_round ?_ | refine r_round ?_ | refine s_round ?_ | refine f_block ?_ (by decide) | refine r_res ?_ | refine n_res ?_)
       | (simp only [hgb, go_sem, Int.reduceToNat, ↓reduceIte, reduceCtorEq, Nat.reduceEqDiff, Nat.reduceAdd, Nat.reduceMul, Nat.reduceLT, Nat.reduceLeDiff, Nat.reduceBEq, Int.reduceBEq, Int.reduceBNe, String.reduceBEq, Int.reduceEq, Int.reduceLT, Int.reduceLE, Int.reduceGE, Int.reduceGT, p1, vrows_len]; clear hgb)
       | simp only [go_sem, Int.reduceToNat, ↓reduceIte, reduceCtorEq, Nat.reduceEqDiff, Nat.reduceAdd, Nat.reduceMul, Nat.reduceLT, Nat.reduceLeDiff, Nat.reduceBEq, Int.reduceBEq, Int.reduceBNe, String.reduceBEq, Int.reduceEq, Int.reduceLT, Int.reduceLE, Int.reduceGE, Int.reduceGT, p1, vrows_len, hAll]
       | (refine ite_guard (fun hg => ?_) (fun hg => ?_) <;> (try simp only [Bool.not_eq_true, Bool.not_eq_false, Decidable.not_not] at hg) <;> (first | have hgb : (_ : Bool) = _ := hg | have hgb := ff hg | have hgb := tt hg))
       | (refine ⟨fun hc => ht _ ?_, fun hc => hf _ ?_⟩ <;> clear ht hf KT KF)
       | fail)
      refine w_loop [4, 5, 6, 8, 9, 11, 12, 16] [61, 69] (σ := Nat) (fun k st => st = mk [(4, .c (.t (.bool false))), (5, V (.sl 1 (vrows R))), (6, V (.sl 1 (vrows C))), (8, V (.sl 1 (vrows G))), (9, I i), (11, .c (.mr 61 0 d)), (12, .c (.mr 69 0 d)), (16, I k)] [(61, .cells 1 (up (ints (extV true ci g d)))), (69, .cells 1 (up (ints (extV false ci g d))))] ∧ k ≤ d) (fun k => d - k) 0 ?_ ?_
      · refine ⟨?_, Nat.zero_le _⟩
        simp only [go_sem, Int.reduceToNat, ↓reduceIte, reduceCtorEq, Nat.reduceEqDiff, Nat.reduceAdd, Nat.reduceMul, Nat.reduceLT, Nat.reduceLeDiff, Nat.reduceBEq, Int.reduceBEq, Int.reduceBNe, String.reduceBEq, Int.reduceEq, Int.reduceLT, Int.reduceLE, Int.reduceGE, Int.reduceGT, mk_keep, keepL, List.mem_cons, List.not_mem_nil, Nat.reduceEqDiff, Nat.zero_ne_one, Nat.one_ne_zero, reduceCtorEq, or_false, false_or, or_true, true_or, or_self, eq_self, ↓reduceIte]
      rintro k st ⟨rfl, hkd⟩
      by_cases hk2 : k < d
      · have u1 := tt (show (k : Int) < d by omega)
        have u3 := wUp (k := k) (n := d) hk2 (by omega)
        have u4 : (ints S)[k]? = some [.int .i64 (S.getD k 0)] := by simp [ints, List.getElem?_map, show k < S.length by omega]
        have u5 : (up (ints (extV true ci g d)))[k]? = some [.t (.int .i64 (extC true ci g k))] := by rw [upi_get]; simp [extV, hk2]
        have u6 : (up (ints (extV false ci g d)))[k]? = some [.t (.int .i64 (extC false ci g k))] := by rw [upi_get]; simp [extV, hk2]
        have u7 : (up (ints (extV true ci g d))).length = d := by rw [upi_len, extV_len]
        have u8 : (up (ints (extV false ci g d))).length = d := by rw [upi_len, extV_len]
        have u10 : (ints S).length = d := by rw [ints_len, lst]
        have u11 := tt hk2
        obtain ⟨x1, x2⟩ := hbt k hk2
        have x1' := ff (show ¬ S.getD k 0 < extC true ci g k by omega)
        have x2' := ff (show ¬ extC false ci g k < S.getD k 0 by omega)
        repeat' (first
         | (with_reducible first | refine s_seq ?_ | refine s_block ?_ | refine s_region fun kr hr => ?_)
         | (with_reducible refine s_text tOk [32, 33, 36, 58, 61, 66, 69, 1000, 1001, 1002, 1003] (by kernel_rfl) (by simp [HeapIn, namers, namerDst, namerOp, namedOp, namedFn, ownLoad, Blk.has, hasRows, hasL, CV.has, hasRows_up, hasRows_append, f5, u1, u3, u4, u5, u6, u7, u8, u10, u11, x1', x2', lst, vrows_len, vec_eq, ints_len, gt_iff_lt, beq_self_eq_true]; (try ((repeat' apply And.intro) <;> intros <;> omega))) fun kr hr => ?_)
         | (with_reducible first | refine s_op fun K' hk => ?_ | refine t_op fun K' hk => ?_ | (refine hk _ ?_; clear hk K') | (refine ht _ ?_; clear ht hf KT KF) | (refine hf _ ?_; clear ht hf KT KF) | ((first | refine s_nil ?_ | refine t_nil ?_); refine hr _ ?_; clear hr kr))
         | ((with_reducible refine n_seqK [0, 1, 2, 3, 4, 5, 6, 7, 8, 9, 10, 11, 12, 13, 14, 15, 16, 17, 21, 22, 23, 26, 27, 28, 47, 51, 73, 110, 113, 117, 135, 161, 175, 213] [32, 33, 36, 58, 61, 66, 69] ?_); simp only [mk_keep, keepL, List.mem_cons, List.not_mem_nil, Nat.reduceEqDiff, Nat.zero_ne_one, Nat.one_ne_zero, reduceCtorEq, or_false, false_or, or_true, true_or, or_self, eq_self, ↓reduceIte])
         | (with_reducible first | refine s_cond fun KT KF ht hf => ?_ | refine s_skip ?_)
         | ((with_reducible refine s_long ?_); simp only [List.cons_append, List.nil_append])
         | (with_reducible first | refine s_exit ?_ | refine s_ret ?_ | refine e_seq ?_ | refine r_seq ?_ | refine n_block ?_ | refine e_block ?_ | refine r_block ?_ | refine e_loop ?_ | refine r_loop ?_ | refine e_round ?_ | refine r_round ?_ | refine s_round ?_ | refine f_block ?_ (by decide) | refine r_res ?_ | refine n_res ?_)
         | (simp only [hgb, go_sem, Int.reduceToNat, ↓reduceIte, reduceCtorEq, Nat.reduceEqDiff, Nat.reduceAdd, Nat.reduceMul, Nat.reduceLT, Nat.reduceLeDiff, Nat.reduceBEq, Int.reduceBEq, Int.reduceBNe, String.reduceBEq, Int.reduceEq, Int.reduceLT, Int.reduceLE, Int.reduceGE, Int.reduceGT, f5, u1, u3, u4, u5, u6, u7, u8, u10, u11, x1', x2', lst, vrows_len, vec_eq, ints_len, gt_iff_lt, beq_self_eq_true]; clear hgb)
         | simp only [go_sem, Int.reduceToNat, ↓reduceIte, reduceCtorEq, Nat.reduceEqDiff, Nat.reduceAdd, Nat.reduceMul, Nat.reduceLT, Nat.reduceLeDiff, Nat.reduceBEq, Int.reduceBEq, Int.reduceBNe, String.reduceBEq, Int.reduceEq, Int.reduceLT, Int.reduceLE, Int.reduceGE, Int.reduceGT, f5, u1, u3, u4, u5, u6, u7, u8, u10, u11, x1', x2', lst, vrows_len, vec_eq, ints_len, gt_iff_lt, beq_self_eq_true, hAll]
         | (refine ite_guard (fun hg => ?_) (fun hg => ?_) <;> (try simp only [Bool.not_eq_true, Bool.not_eq_false, Decidable.not_not] at hg) <;> (first | have hgb : (_ : Bool) = _ := hg | have hgb := ff hg | have hgb := tt hg))
         | (refine ⟨fun hc => ht _ ?_, fun hc => hf _ ?_⟩ <;> clear ht hf KT KF)
         | fail)
        refine n_loop (k + 1) [4, 5, 6, 8, 9, 11, 12, 16] [61, 69] ⟨?_, hk2⟩ (by omega)
        simp only [go_sem, Int.reduceToNat, ↓reduceIte, reduceCtorEq, Nat.reduceEqDiff, Nat.reduceAdd, Nat.reduceMul, Nat.reduceLT, Nat.reduceLeDiff, Nat.reduceBEq, Int.reduceBEq, Int.reduceBNe, String.reduceBEq, Int.reduceEq, Int.reduceLT, Int.reduceLE, Int.reduceGE, Int.reduceGT, mk_keep, keepL, List.mem_cons, List.not_mem_nil, Nat.reduceEqDiff, Nat.zero_ne_one, Nat.one_ne_zero, reduceCtorEq, or_false, false_or, or_true, true_or, or_self, eq_self, ↓reduceIte]
      · have u1 := ff (show ¬ ((k : Int) < d) by omega)
        repeat' (first
         | (with_reducible first | refine s_seq ?_ | refine s_block ?_ | refine s_region fun kr hr => ?_)
         | (with_reducible refine s_text tOk [32, 33, 36, 58, 61, 66, 69, 1000, 1001, 1002, 1003] (by kernel_rfl) (by simp [HeapIn, namers, namerDst, namerOp, namedOp, namedFn, ownLoad, Blk.has, hasRows, hasL, CV.has, hasRows_up, hasRows_append, u1, f3, vrows_len]; (try ((repeat' apply And.intro) <;> intros <;> omega))) fun kr hr => ?_)
         | (with_reducible first | refine s_op fun K' hk => ?_ | refine t_op fun K' hk => ?_ | (refine hk _ ?_; clear hk K') | (refine ht _ ?_; clear ht hf KT KF) | (refine hf _ ?_; clear ht hf KT KF) | ((first | refine s_nil ?_ | refine t_nil ?_); refine hr _ ?_; clear hr kr))
         | ((with_reducible refine n_seqK [0, 1, 2, 3, 4, 5, 6, 7, 8, 9, 10, 11, 12, 13, 14, 15, 16, 17, 21, 22, 23, 26, 27, 28, 47, 51, 73, 110, 113, 117, 135, 161, 175, 213] [32, 33, 36, 58, 61, 66, 69] ?_); simp only [mk_keep, keepL, List.mem_cons, List.not_mem_nil, Nat.reduceEqDiff, Nat.zero_ne_one, Nat.one_ne_zero, reduceCtorEq, or_false, false_or, or_true, true_or, or_self, eq_self, ↓reduceIte])
         | (with_reducible first | refine s_cond fun KT KF ht hf => ?_ | refine s_skip ?_)
         | ((with_reducible refine s_long ?_); simp only [List.cons_append, List.nil_append])
         | (with_reducible first | refine s_exit ?_ | refine s_ret ?_ | refine e_seq ?_ | refine r_seq ?_ | refine n_block ?_ | refine e_block ?_ | refine r_block ?_ | refine e_loop ?_ | refine r_loop ?_ | refine e_round ?_ | refine r_round ?_ | refine s_round ?_ | refine f_block ?_ (by decide) | refine r_res ?_ | refine n_res ?_)
         | (simp only [hgb, go_sem, Int.reduceToNat, ↓reduceIte, reduceCtorEq, Nat.reduceEqDiff, Nat.reduceAdd, Nat.reduceMul, Nat.reduceLT, Nat.reduceLeDiff, Nat.reduceBEq, Int.reduceBEq, Int.reduceBNe, String.reduceBEq, Int.reduceEq, Int.reduceLT, Int.reduceLE, Int.reduceGE, Int.reduceGT, u1, f3, vrows_len]; clear hgb)
         | simp only [go_sem, Int.reduceToNat, ↓reduceIte, reduceCtorEq, Nat.reduceEqDiff, Nat.reduceAdd, Nat.reduceMul, Nat.reduceLT, Nat.reduceLeDiff, Nat.reduceBEq, Int.reduceBEq, Int.reduceBNe, String.reduceBEq, Int.reduceEq, Int.reduceLT, Int.reduceLE, Int.reduceGE, Int.reduceGT, u1, f3, vrows_len, hAll]
         | (refine ite_guard (fun hg => ?_) (fun hg => ?_) <;> (try simp only [Bool.not_eq_true, Bool.not_eq_false, Decidable.not_not] at hg) <;> (first | have hgb : (_ : Bool) = _ := hg | have hgb := ff hg | have hgb := tt hg))
         | (refine ⟨fun hc => ht _ ?_, fun hc => hf _ ?_⟩ <;> clear ht hf KT KF)
         | fail)
        refine n_loop (i + 1) [4, 5, 6, 8, 9] [] ⟨?_, hil⟩ (by omega)
        simp only [go_sem, Int.reduceToNat, ↓reduceIte, reduceCtorEq, Nat.reduceEqDiff, Nat.reduceAdd, Nat.reduceMul, Nat.reduceLT, Nat.reduceLeDiff, Nat.reduceBEq, Int.reduceBEq, Int.reduceBNe, String.reduceBEq, Int.reduceEq, Int.reduceLT, Int.reduceLE, Int.reduceGE, Int.reduceGT, mk_keep, keepL, List.mem_cons, List.not_mem_nil, Nat.reduceEqDiff, Nat.zero_ne_one, Nat.one_ne_zero, reduceCtorEq, or_false, false_or, or_true, true_or, or_self, eq_self, ↓reduceIte]
  · have f2 := ff (show ¬ ((i : Int) < C.length) by omega)
    repeat' (first
     | (with_reducible first | refine s_seq ?_ | refine s_block ?_ | refine s_region fun kr hr => ?_)
     | (with_reducible refine s_text tOk [32, 33, 36, 58, 66, 1000, 1001, 1002, 1003] (by kernel_rfl) (by simp [HeapIn, namers, namerDst, namerOp, namedOp, namedFn, ownLoad, Blk.has, hasRows, hasL, CV.has, hasRows_up, hasRows_append, f2, vrows_len]; (try ((repeat' apply And.intro) <;> intros <;> omega))) fun kr hr => ?_)
     | (with_reducible first | refine s_op fun K' hk => ?_ | refine t_op fun K' hk => ?_ | (refine hk _ ?_; clear hk K') | (refine ht _ ?_; clear ht hf KT KF) | (refine hf _ ?_; clear ht hf KT KF) | ((first | refine s_nil ?_ | refine t_nil ?_); refine hr _ ?_; clear hr kr))
     | ((with_reducible refine n_seqK [0, 1, 2, 3, 4, 5, 6, 7, 8, 9, 10, 11, 12, 13, 14, 15, 16, 17, 21, 22, 23, 26, 27, 28, 47, 51, 73, 110, 113, 117, 135, 161, 175, 213] [32, 33, 36, 58, 66] ?_); simp only [mk_keep, keepL, List.mem_cons, List.not_mem_nil, Nat.reduceEqDiff, Nat.zero_ne_one, Nat.one_ne_zero, reduceCtorEq, or_false, false_or, or_true, true_or, or_self, eq_self, ↓reduceIte])
     | (with_reducible first | refine s_cond fun KT KF ht hf => ?_ | refine s_skip ?_)
     | ((with_reducible refine s_long ?_); simp only [List.cons_append, List.nil_append])
     | (with_reducible first | refine s_exit ?_ | refine s_ret ?_ | refine e_seq ?_ | refine r_seq ?_ | refine n_block ?_ | refine e_block ?_ | refine r_block ?_ | refine e_loop ?_ | refine r_loop ?_ | refine e_round ?_ | refine r_round ?_ | refine s_round ?_ | refine f_block ?_ (by decide) | refine r_res ?_ | refine n_res ?_)
     | (simp only [hgb, go_sem, Int.reduceToNat, ↓reduceIte, reduceCtorEq, Nat.reduceEqDiff, Nat.reduceAdd, Nat.reduceMul, Nat.reduceLT, Nat.reduceLeDiff, Nat.reduceBEq, Int.reduceBEq, Int.reduceBNe, String.reduceBEq, Int.reduceEq, Int.reduceLT, Int.reduceLE, Int.reduceGE, Int.reduceGT, f2, vrows_len, callE, resSV, AV.flat, CV.flat, TV.flat]; clear hgb)
     | simp only [go_sem, Int.reduceToNat, ↓reduceIte, reduceCtorEq, Nat.reduceEqDiff, Nat.reduceAdd, Nat.reduceMul, Nat.reduceLT, Nat.reduceLeDiff, Nat.reduceBEq, Int.reduceBEq, Int.reduceBNe, String.reduceBEq, Int.reduceEq, Int.reduceLT, Int.reduceLE, Int.reduceGE, Int.reduceGT, f2, vrows_len, callE, resSV, AV.flat, CV.flat, TV.flat, hAll]
     | refine Or.inl ⟨_, ⟨fun _ _ => rfl, sure18_spec⟩, ?_⟩
     | refine ⟨_, ⟨fun _ _ => rfl, sure18_spec⟩, ?_⟩
     | (refine ite_guard (fun hg => ?_) (fun hg => ?_) <;> (try simp only [Bool.not_eq_true, Bool.not_eq_false, Decidable.not_not] at hg) <;> (first | have hgb : (_ : Bool) = _ := hg | have hgb := ff hg | have hgb := tt hg))
     | (refine ⟨fun hc => ht _ ?_, fun hc => hf _ ?_⟩ <;> clear ht hf KT KF)
     | fail)
end Go.Proofs.Ytlnilonlaedafaa.Fx
