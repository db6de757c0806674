/- The document's fusion by places. -/
import Derived.Test.YtgmjgognpabmdaaFxIds
import Derived.Test.YtgmjgognpabmdaaFxRankLaw
import Derived.Test.YtgmjgognpabmdaaFxRef07b
import Derived.Test.YtgmjgognpabmdaaFxSrt
-- ren_map
namespace Go.Proofs.Ytgmjgognpabmdaa.Fx
open Go Go.RowKit
set_option maxRecDepth 100000
set_option linter.unusedSimpArgs false
set_option linter.unusedVariables false
/-- An id's sum over so many rankings, as an int. -/
def rsum (ls : List (List Ht)) (i : Int) (k : Nat) : Int := IntKind.wrap .i64 (tsum (ls.take k) i)
theorem rsum_succ {ls : List (List Ht)} {k : Nat} (h : k < ls.length) (i : Int) : rsum ls i (k + 1) = IntKind.wrap .i64 (rsum ls i k + ((ctr ls[k] i).getD 0 : Nat)) := by
  unfold rsum
  rw [List.take_succ_eq_append_getElem h, tsum_snoc, wrap_add, Int.natCast_add]
theorem rsum_in (ls : List (List Ht)) (i : Int) (k : Nat) : -9223372036854775808 ≤ rsum ls i k ∧ rsum ls i k ≤ 9223372036854775807 := by
  unfold rsum; rw [IntKind.wrap_i64]; omega
set_option maxHeartbeats 8000000 in
theorem rrank_walk (ls : List (List Ht)) (hl : tot ls * 16 ≤ 140737488355328) (hn : ls.length ≤ 4611686018427387904) : Spec Try.prog 30 [.v (.t (.sl 1 (lists ls)))] [] [.v (.t (.sl 2 (hrows (srt 2 ((riseS (idsL ls)).map fun i => (i, rsum ls i ls.length))))))] [] := by
  have hids := ids_spec ls (by omega) hn
  have hilen : (riseS (idsL ls)).length ≤ tot ls := by have := riseS_len (idsL ls); rw [idsL_len] at this; exact this
  obtain ⟨idl9, hidl⟩ : ∃ x, riseS (idsL ls) = x := ⟨_, rfl⟩
  rw [hidl] at hids hilen ⊢
  refine spec_by Try.func30 rfl mixed tOk evOk (n := 50) rfl (by simp) (by simp) ?_
  rw [initSt_mk, show Try.f30.results.toList = [.tmp 2] from rfl]
  simp only [initL, AV.sv, List.map_cons, List.map_nil, Nat.reduceAdd, Nat.zero_add]
  repeat' (first
   | (with_reducible first | refine s_seq ?_ | refine s_block ?_ | refine s_region fun kr hr => ?_)
   | (with_reducible refine s_text tOk [46, 47, 1000, 1001, 1002, 1003] (by kernel_rfl) (by simp [HeapIn, namers, namerDst, namerOp, namedOp, namedFn, ownLoad, Blk.has, hasRows, hasL, CV.has, hasRows_up, hasM_up, hasRows_append, lists_len, ints_len]; (try ((repeat' apply And.intro) <;> intros <;> omega))) fun kr hr => ?_)
   | (with_reducible first | refine s_op fun K' hk => ?_ | refine t_op fun K' hk => ?_ | (refine hk _ ?_; clear hk K') | (refine ht _ ?_; clear ht hf KT KF) | (refine hf _ ?_; clear ht hf KT KF) | ((first | refine s_nil ?_ | refine t_nil ?_); refine hr _ ?_; clear hr kr))
   | ((with_reducible refine n_seqK [0, 1, 2, 3, 4, 5, 6, 7, 8, 14, 18, 20, 23, 25, 33, 44, 48] [46, 47] ?_); simp only [mk_keep, keepL, List.mem_cons, List.not_mem_nil, Nat.reduceEqDiff, Nat.zero_ne_one, Nat.one_ne_zero, reduceCtorEq, or_false, false_or, or_true, true_or, or_self, eq_self, ↓reduceIte])
   | (with_reducible first | refine s_cond fun KT KF ht hf => ?_ | refine s_skip ?_)
   | ((with_reducible refine s_long ?_); simp only [List.cons_append, List.nil_append])
   | (with_reducible first | refine s_exit ?_ | refine s_ret ?_ | refine e_seq ?_ | refine r_seq ?_ | refine n_block ?_ | refine e_block ?_ | refine r_block ?_ | refine e_loop ?_ | refine r_loop ?_ | refine e_round ?_ | refine r_round ?_ | refine s_round ?_ | refine f_block ?_ (by decide) | refine r_res ?_ | refine n_res ?_)
   | (simp only [hgb, go_sem, Int.reduceToNat, ↓reduceIte, reduceCtorEq, Nat.reduceEqDiff, Nat.reduceAdd, Nat.reduceMul, Nat.reduceLT, Nat.reduceLeDiff, Nat.reduceBEq, Int.reduceBEq, Int.reduceBNe, String.reduceBEq, Int.reduceEq, Int.reduceLT, Int.reduceLE, Int.reduceGE, Int.reduceGT, lists_len, ints_len, callE, resSV, AV.flat, CV.flat, TV.flat]; clear hgb)
   | simp only [go_sem, Int.reduceToNat, ↓reduceIte, reduceCtorEq, Nat.reduceEqDiff, Nat.reduceAdd, Nat.reduceMul, Nat.reduceLT, Nat.reduceLeDiff, Nat.reduceBEq, Int.reduceBEq, Int.reduceBNe, String.reduceBEq, Int.reduceEq, Int.reduceLT, Int.reduceLE, Int.reduceGE, Int.reduceGT, lists_len, ints_len, callE, resSV, AV.flat, CV.flat, TV.flat, hAll]
   | refine Or.inl ⟨_, ⟨fun _ _ => rfl, hids⟩, ?_⟩
   | refine ⟨_, ⟨fun _ _ => rfl, hids⟩, ?_⟩
   | (refine ite_guard (fun hg => ?_) (fun hg => ?_) <;> (try simp only [Bool.not_eq_true, Bool.not_eq_false, Decidable.not_not] at hg) <;> (first | have hgb : (_ : Bool) = _ := hg | have hgb := ff hg | have hgb := tt hg))
   | (refine ⟨fun hc => ht _ ?_, fun hc => hf _ ?_⟩ <;> clear ht hf KT KF)
   | fail)
  refine w_loopG _ (gho_nilName (s := 3) (d := 47) (sz := 2) (by decide) ⟨2, rfl⟩ (by rw [fresh_t]; exact trivial; rfl)) ?_
  rw [mk_nilName]
  refine w_loop [0, 3, 4, 5] [47] (σ := Nat) (fun j st => st = mk [(0, V (.sl 1 (lists ls))), (3, .c (.mr 47 0 j)), (4, V (.sl 1 (ints idl9))), (5, I j)] [(47, .cells 2 (up (hrows ((idl9.take j).map fun i => (i, rsum ls i ls.length)))))] ∧ j ≤ idl9.length) (fun j => idl9.length - j) 0 ?_ ?_
  · refine ⟨?_, Nat.zero_le _⟩
    simp only [go_sem, Int.reduceToNat, ↓reduceIte, reduceCtorEq, Nat.reduceEqDiff, Nat.reduceAdd, Nat.reduceMul, Nat.reduceLT, Nat.reduceLeDiff, Nat.reduceBEq, Int.reduceBEq, Int.reduceBNe, String.reduceBEq, Int.reduceEq, Int.reduceLT, Int.reduceLE, Int.reduceGE, Int.reduceGT, mk_keep, keepL, List.mem_cons, List.not_mem_nil, Nat.reduceEqDiff, Nat.zero_ne_one, Nat.one_ne_zero, reduceCtorEq, or_false, false_or, or_true, true_or, or_self, eq_self, ↓reduceIte]
    rfl
  rintro j st' ⟨rfl, hj9⟩
  have hlj : ((idl9.take j).map fun i => (i, rsum ls i ls.length)).length = j := by rw [List.length_map, List.length_take]; omega
  by_cases hjl : j < idl9.length
  · have p1 := ltI hjl
    have p2 : (ints idl9)[j]? = some [.int .i64 idl9[j]] := by rw [ints_get, get_of_lt hjl]; rfl
    have p3 := wUp hjl (by omega)
    have htk : (idl9.take (j + 1)).map (fun i => (i, rsum ls i ls.length)) = (idl9.take j).map (fun i => (i, rsum ls i ls.length)) ++ [(idl9[j], rsum ls idl9[j] ls.length)] := by
      rw [List.take_succ_eq_append_getElem hjl, List.map_append]; rfl
    obtain ⟨O, hO⟩ : ∃ O, (idl9.take j).map (fun i => (i, rsum ls i ls.length)) = O := ⟨_, rfl⟩
    obtain ⟨O', hO'⟩ : ∃ O, (idl9.take (j + 1)).map (fun i => (i, rsum ls i ls.length)) = O := ⟨_, rfl⟩
    rw [hO, hO'] at htk
    rw [hO] at hlj ⊢
    obtain ⟨i, hi9⟩ : ∃ i, idl9[j] = i := ⟨_, rfl⟩
    rw [hi9] at p2 htk
    repeat' (first
     | (with_reducible first | refine s_seq ?_ | refine s_block ?_ | refine s_region fun kr hr => ?_)
     | (with_reducible refine s_text tOk [46, 47, 1000, 1001, 1002, 1003] (by kernel_rfl) (by simp [HeapIn, namers, namerDst, namerOp, namedOp, namedFn, ownLoad, Blk.has, hasRows, hasL, CV.has, hasRows_up, hasM_up, hasRows_append, lists_len, ints_len, p1]; (try ((repeat' apply And.intro) <;> intros <;> omega))) fun kr hr => ?_)
     | (with_reducible first | refine s_op fun K' hk => ?_ | refine t_op fun K' hk => ?_ | (refine hk _ ?_; clear hk K') | (refine ht _ ?_; clear ht hf KT KF) | (refine hf _ ?_; clear ht hf KT KF) | ((first | refine s_nil ?_ | refine t_nil ?_); refine hr _ ?_; clear hr kr))
     | ((with_reducible refine n_seqK [0, 1, 2, 3, 4, 5, 6, 7, 8, 14, 18, 20, 23, 25, 33, 44, 48] [46, 47] ?_); simp only [mk_keep, keepL, List.mem_cons, List.not_mem_nil, Nat.reduceEqDiff, Nat.zero_ne_one, Nat.one_ne_zero, reduceCtorEq, or_false, false_or, or_true, true_or, or_self, eq_self, ↓reduceIte])
     | (with_reducible first | refine s_cond fun KT KF ht hf => ?_ | refine s_skip ?_)
     | ((with_reducible refine s_long ?_); simp only [List.cons_append, List.nil_append])
     | (with_reducible first | refine s_exit ?_ | refine s_ret ?_ | refine e_seq ?_ | refine r_seq ?_ | refine n_block ?_ | refine e_block ?_ | refine r_block ?_ | refine e_loop ?_ | refine r_loop ?_ | refine e_round ?_ | refine r_round ?_ | refine s_round ?_ | refine f_block ?_ (by decide) | refine r_res ?_ | refine n_res ?_)
     | (simp only [hgb, go_sem, Int.reduceToNat, ↓reduceIte, reduceCtorEq, Nat.reduceEqDiff, Nat.reduceAdd, Nat.reduceMul, Nat.reduceLT, Nat.reduceLeDiff, Nat.reduceBEq, Int.reduceBEq, Int.reduceBNe, String.reduceBEq, Int.reduceEq, Int.reduceLT, Int.reduceLE, Int.reduceGE, Int.reduceGT, lists_len, ints_len, p1]; clear hgb)
     | simp only [go_sem, Int.reduceToNat, ↓reduceIte, reduceCtorEq, Nat.reduceEqDiff, Nat.reduceAdd, Nat.reduceMul, Nat.reduceLT, Nat.reduceLeDiff, Nat.reduceBEq, Int.reduceBEq, Int.reduceBNe, String.reduceBEq, Int.reduceEq, Int.reduceLT, Int.reduceLE, Int.reduceGE, Int.reduceGT, lists_len, ints_len, p1, hAll]
     | (refine ite_guard (fun hg => ?_) (fun hg => ?_) <;> (try simp only [Bool.not_eq_true, Bool.not_eq_false, Decidable.not_not] at hg) <;> (first | have hgb : (_ : Bool) = _ := hg | have hgb := ff hg | have hgb := tt hg))
     | (refine ⟨fun hc => ht _ ?_, fun hc => hf _ ?_⟩ <;> clear ht hf KT KF)
     | fail)
    refine w_loop [0, 3, 4, 5, 6, 7] [47] (σ := Nat) (fun k st => st = mk [(0, V (.sl 1 (lists ls))), (3, .c (.mr 47 0 j)), (4, V (.sl 1 (ints idl9))), (5, I j), (6, I (rsum ls i k)), (7, I k)] [(47, .cells 2 (up (hrows O)))] ∧ k ≤ ls.length) (fun k => ls.length - k) 0 ?_ ?_
    · refine ⟨?_, Nat.zero_le _⟩
      simp only [go_sem, Int.reduceToNat, ↓reduceIte, reduceCtorEq, Nat.reduceEqDiff, Nat.reduceAdd, Nat.reduceMul, Nat.reduceLT, Nat.reduceLeDiff, Nat.reduceBEq, Int.reduceBEq, Int.reduceBNe, String.reduceBEq, Int.reduceEq, Int.reduceLT, Int.reduceLE, Int.reduceGE, Int.reduceGT, mk_keep, keepL, List.mem_cons, List.not_mem_nil, Nat.reduceEqDiff, Nat.zero_ne_one, Nat.one_ne_zero, reduceCtorEq, or_false, false_or, or_true, true_or, or_self, eq_self, ↓reduceIte]
      rfl
    rintro k st' ⟨rfl, hk⟩
    by_cases hkl : k < ls.length
    · have q1 := ltI hkl
      have q2 : (lists ls)[k]? = some [.sl 2 (hrows ls[k])] := by rw [lists_get, get_of_lt hkl]; rfl
      have q3 := wUp hkl (by omega)
      have hlen := len_tot hkl
      have hat := at_spec ls[k] i (by omega)
      have hrs := rsum_succ hkl i
      have hri := rsum_in ls i k
      obtain ⟨c1, hc1⟩ : ∃ c, rsum ls i (k + 1) = c := ⟨_, rfl⟩
      rw [hc1] at hrs
      generalize rsum ls i k = n at *
      cases hf : ls[k].findIdx? (fun z => z.1 == i) with
      | none =>
        rw [atI_none hf] at hat
        rw [show ctr ls[k] i = none by rw [ctr, hf]; rfl] at hrs
        simp only [Option.getD_none, Int.natCast_zero, Int.add_zero] at hrs
        rw [wI hri.1 hri.2] at hrs
        repeat' (first
         | (with_reducible first | refine s_seq ?_ | refine s_block ?_ | refine s_region fun kr hr => ?_)
         | (with_reducible refine s_text tOk [46, 47, 1000, 1001, 1002, 1003] (by kernel_rfl) (by simp [HeapIn, namers, namerDst, namerOp, namedOp, namedFn, ownLoad, Blk.has, hasRows, hasL, CV.has, hasRows_up, hasM_up, hasRows_append, lists_len, ints_len, q1, q2, q3, p2]; (try ((repeat' apply And.intro) <;> intros <;> omega))) fun kr hr => ?_)
         | (with_reducible first | refine s_op fun K' hk => ?_ | refine t_op fun K' hk => ?_ | (refine hk _ ?_; clear hk K') | (refine ht _ ?_; clear ht hf KT KF) | (refine hf _ ?_; clear ht hf KT KF) | ((first | refine s_nil ?_ | refine t_nil ?_); refine hr _ ?_; clear hr kr))
         | ((with_reducible refine n_seqK [0, 1, 2, 3, 4, 5, 6, 7, 8, 14, 18, 20, 23, 25, 33, 44, 48] [46, 47] ?_); simp only [mk_keep, keepL, List.mem_cons, List.not_mem_nil, Nat.reduceEqDiff, Nat.zero_ne_one, Nat.one_ne_zero, reduceCtorEq, or_false, false_or, or_true, true_or, or_self, eq_self, ↓reduceIte])
         | (with_reducible first | refine s_cond fun KT KF ht hf => ?_ | refine s_skip ?_)
         | ((with_reducible refine s_long ?_); simp only [List.cons_append, List.nil_append])
         | (with_reducible first | refine s_exit ?_ | refine s_ret ?_ | refine e_seq ?_ | refine r_seq ?_ | refine n_block ?_ | refine e_block ?_ | refine r_block ?_ | refine e_loop ?_ | refine r_loop ?_ | refine e_round ?_ | refine r_round ?_ | refine s_round ?_ | refine f_block ?_ (by decide) | refine r_res ?_ | refine n_res ?_)
         | (simp only [hgb, go_sem, Int.reduceToNat, ↓reduceIte, reduceCtorEq, Nat.reduceEqDiff, Nat.reduceAdd, Nat.reduceMul, Nat.reduceLT, Nat.reduceLeDiff, Nat.reduceBEq, Int.reduceBEq, Int.reduceBNe, String.reduceBEq, Int.reduceEq, Int.reduceLT, Int.reduceLE, Int.reduceGE, Int.reduceGT, lists_len, ints_len, q1, q2, q3, p2, callE, resSV, AV.flat, CV.flat, TV.flat]; clear hgb)
         | simp only [go_sem, Int.reduceToNat, ↓reduceIte, reduceCtorEq, Nat.reduceEqDiff, Nat.reduceAdd, Nat.reduceMul, Nat.reduceLT, Nat.reduceLeDiff, Nat.reduceBEq, Int.reduceBEq, Int.reduceBNe, String.reduceBEq, Int.reduceEq, Int.reduceLT, Int.reduceLE, Int.reduceGE, Int.reduceGT, lists_len, ints_len, q1, q2, q3, p2, callE, resSV, AV.flat, CV.flat, TV.flat, hAll]
         | refine Or.inl ⟨_, ⟨fun _ _ => rfl, hat⟩, ?_⟩
         | refine ⟨_, ⟨fun _ _ => rfl, hat⟩, ?_⟩
         | (refine ite_guard (fun hg => ?_) (fun hg => ?_) <;> (try simp only [Bool.not_eq_true, Bool.not_eq_false, Decidable.not_not] at hg) <;> (first | have hgb : (_ : Bool) = _ := hg | have hgb := ff hg | have hgb := tt hg))
         | (refine ⟨fun hc => ht _ ?_, fun hc => hf _ ?_⟩ <;> clear ht hf KT KF)
         | fail)
        refine n_loop (k + 1) [0, 3, 4, 5, 6, 7] [47] ⟨?_, hkl⟩ (by omega)
        simp only [go_sem, Int.reduceToNat, ↓reduceIte, reduceCtorEq, Nat.reduceEqDiff, Nat.reduceAdd, Nat.reduceMul, Nat.reduceLT, Nat.reduceLeDiff, Nat.reduceBEq, Int.reduceBEq, Int.reduceBNe, String.reduceBEq, Int.reduceEq, Int.reduceLT, Int.reduceLE, Int.reduceGE, Int.reduceGT, mk_keep, keepL, List.mem_cons, List.not_mem_nil, Nat.reduceEqDiff, Nat.zero_ne_one, Nat.one_ne_zero, reduceCtorEq, or_false, false_or, or_true, true_or, or_self, eq_self, ↓reduceIte, hc1, hrs]
      | some p =>
        rw [atI_some hf] at hat
        have hpl : p < ls[k].length := (List.findIdx?_eq_some_iff_getElem.1 hf).1
        rw [show ctr ls[k] i = some (1048576 / (61 + p)) by rw [ctr, hf]; rfl] at hrs
        simp only [Option.getD_some] at hrs
        have q7 := tt (show (p : Int) ≥ 0 by omega)
        have w1 : IntKind.wrap .i64 (61 + (p : Int)) = 61 + p := wI (by omega) (by omega)
        have w2 : (1048576 : Int).tdiv (61 + p) = ((1048576 / (61 + p) : Nat) : Int) := by
          rw [Int.tdiv_eq_ediv_of_nonneg (by decide)]
          simp [Int.natCast_ediv]
        have w3 : ((61 : Int) + p = 0) = False := ff (by omega)
        have w4 : IntKind.wrap .i64 ((1048576 / (61 + p) : Nat) : Int) = ((1048576 / (61 + p) : Nat) : Int) := by have hq := Nat.div_le_self 1048576 (61 + p); generalize 1048576 / (61 + p) = q at hq ⊢; exact wI (by omega) (by omega)
        repeat' (first
         | (with_reducible first | refine s_seq ?_ | refine s_block ?_ | refine s_region fun kr hr => ?_)
         | (with_reducible refine s_text tOk [46, 47, 1000, 1001, 1002, 1003] (by kernel_rfl) (by simp [HeapIn, namers, namerDst, namerOp, namedOp, namedFn, ownLoad, Blk.has, hasRows, hasL, CV.has, hasRows_up, hasM_up, hasRows_append, lists_len, ints_len, q1, q2, q3, q7, p2, w1, w2, w3, w4]; (try ((repeat' apply And.intro) <;> intros <;> omega))) fun kr hr => ?_)
         | (with_reducible first | refine s_op fun K' hk => ?_ | refine t_op fun K' hk => ?_ | (refine hk _ ?_; clear hk K') | (refine ht _ ?_; clear ht hf KT KF) | (refine hf _ ?_; clear ht hf KT KF) | ((first | refine s_nil ?_ | refine t_nil ?_); refine hr _ ?_; clear hr kr))
         | ((with_reducible refine n_seqK [0, 1, 2, 3, 4, 5, 6, 7, 8, 14, 18, 20, 23, 25, 33, 44, 48] [46, 47] ?_); simp only [mk_keep, keepL, List.mem_cons, List.not_mem_nil, Nat.reduceEqDiff, Nat.zero_ne_one, Nat.one_ne_zero, reduceCtorEq, or_false, false_or, or_true, true_or, or_self, eq_self, ↓reduceIte])
         | (with_reducible first | refine s_cond fun KT KF ht hf => ?_ | refine s_skip ?_)
         | ((with_reducible refine s_long ?_); simp only [List.cons_append, List.nil_append])
         | (with_reducible first | refine s_exit ?_ | refine s_ret ?_ | refine e_seq ?_ | refine r_seq ?_ | refine n_block ?_ | refine e_block ?_ | refine r_block ?_ | refine e_loop ?_ | refine r_loop ?_ | refine e_round ?_ | refine r_round ?_ | refine s_round ?_ | refine f_block ?_ (by decide) | refine r_res ?_ | refine n_res ?_)
         | (simp only [hgb, go_sem, Int.reduceToNat, ↓reduceIte, reduceCtorEq, Nat.reduceEqDiff, Nat.reduceAdd, Nat.reduceMul, Nat.reduceLT, Nat.reduceLeDiff, Nat.reduceBEq, Int.reduceBEq, Int.reduceBNe, String.reduceBEq, Int.reduceEq, Int.reduceLT, Int.reduceLE, Int.reduceGE, Int.reduceGT, lists_len, ints_len, q1, q2, q3, q7, p2, w1, w2, w3, w4, callE, resSV, AV.flat, CV.flat, TV.flat]; clear hgb)
         | simp only [go_sem, Int.reduceToNat, ↓reduceIte, reduceCtorEq, Nat.reduceEqDiff, Nat.reduceAdd, Nat.reduceMul, Nat.reduceLT, Nat.reduceLeDiff, Nat.reduceBEq, Int.reduceBEq, Int.reduceBNe, String.reduceBEq, Int.reduceEq, Int.reduceLT, Int.reduceLE, Int.reduceGE, Int.reduceGT, lists_len, ints_len, q1, q2, q3, q7, p2, w1, w2, w3, w4, callE, resSV, AV.flat, CV.flat, TV.flat, hAll]
         | refine Or.inl ⟨_, ⟨fun _ _ => rfl, hat⟩, ?_⟩
         | refine ⟨_, ⟨fun _ _ => rfl, hat⟩, ?_⟩
         | (refine ite_guard (fun hg => ?_) (fun hg => ?_) <;> (try simp only [Bool.not_eq_true, Bool.not_eq_false, Decidable.not_not] at hg) <;> (first | have hgb : (_ : Bool) = _ := hg | have hgb := ff hg | have hgb := tt hg))
         | (refine ⟨fun hc => ht _ ?_, fun hc => hf _ ?_⟩ <;> clear ht hf KT KF)
         | fail)
        refine n_loop (k + 1) [0, 3, 4, 5, 6, 7] [47] ⟨?_, hkl⟩ (by omega)
        simp only [go_sem, Int.reduceToNat, ↓reduceIte, reduceCtorEq, Nat.reduceEqDiff, Nat.reduceAdd, Nat.reduceMul, Nat.reduceLT, Nat.reduceLeDiff, Nat.reduceBEq, Int.reduceBEq, Int.reduceBNe, String.reduceBEq, Int.reduceEq, Int.reduceLT, Int.reduceLE, Int.reduceGE, Int.reduceGT, mk_keep, keepL, List.mem_cons, List.not_mem_nil, Nat.reduceEqDiff, Nat.zero_ne_one, Nat.one_ne_zero, reduceCtorEq, or_false, false_or, or_true, true_or, or_self, eq_self, ↓reduceIte, hc1, hrs]
    · obtain rfl : k = ls.length := by omega
      have q1 := nltI hkl
      have b3 := tt (show (O.length + 1) * 16 ≤ 140737488355328 by omega)
      have b4 := tt (show O.length ≤ 9223372036854775806 by omega)
      have e0 : (hrows O).length = O.length := hrows_len O
      have e1 : (up (hrows O)).take O.length = up (hrows O) := List.take_of_length_le (by rw [up_length]; omega)
      obtain ⟨n, hn1⟩ : ∃ n, rsum ls i ls.length = n := ⟨_, rfl⟩
      rw [hn1] at htk ⊢
      have e2 : up (hrows O) ++ [[.t (.int .i64 i), .t (.int .i64 n)]] = up (hrows O') := by rw [htk]; simp [up, hrows, hrow]
      have e3 : (hrows O').length = O.length + 1 := by rw [hrows_len, htk]; simp
      have e4 := tt (Nat.le_refl O.length)
      subst hlj
      repeat' (first
       | (with_reducible first | refine s_seq ?_ | refine s_block ?_ | refine s_region fun kr hr => ?_)
       | (with_reducible refine s_text tOk [46, 47, 1000, 1001, 1002, 1003] (by kernel_rfl) (by simp [HeapIn, namers, namerDst, namerOp, namedOp, namedFn, ownLoad, Blk.has, hasRows, hasL, CV.has, hasRows_up, hasM_up, hasRows_append, lists_len, ints_len, q1, p1, p2, p3, b3, b4, e0, e1, e2, e3, e4]; (try ((repeat' apply And.intro) <;> intros <;> omega))) fun kr hr => ?_)
       | (with_reducible first | refine s_op fun K' hk => ?_ | refine t_op fun K' hk => ?_ | (refine hk _ ?_; clear hk K') | (refine ht _ ?_; clear ht hf KT KF) | (refine hf _ ?_; clear ht hf KT KF) | ((first | refine s_nil ?_ | refine t_nil ?_); refine hr _ ?_; clear hr kr))
       | ((with_reducible refine n_seqK [0, 1, 2, 3, 4, 5, 6, 7, 8, 14, 18, 20, 23, 25, 33, 44, 48] [46, 47] ?_); simp only [mk_keep, keepL, List.mem_cons, List.not_mem_nil, Nat.reduceEqDiff, Nat.zero_ne_one, Nat.one_ne_zero, reduceCtorEq, or_false, false_or, or_true, true_or, or_self, eq_self, ↓reduceIte])
       | (with_reducible first | refine s_cond fun KT KF ht hf => ?_ | refine s_skip ?_)
       | ((with_reducible refine s_long ?_); simp only [List.cons_append, List.nil_append])
       | (with_reducible first | refine s_exit ?_ | refine s_ret ?_ | refine e_seq ?_ | refine r_seq ?_ | refine n_block ?_ | refine e_block ?_ | refine r_block ?_ | refine e_loop ?_ | refine r_loop ?_ | refine e_round ?_ | refine r_round ?_ | refine s_round ?_ | refine f_block ?_ (by decide) | refine r_res ?_ | refine n_res ?_)
       | (simp only [hgb, go_sem, Int.reduceToNat, ↓reduceIte, reduceCtorEq, Nat.reduceEqDiff, Nat.reduceAdd, Nat.reduceMul, Nat.reduceLT, Nat.reduceLeDiff, Nat.reduceBEq, Int.reduceBEq, Int.reduceBNe, String.reduceBEq, Int.reduceEq, Int.reduceLT, Int.reduceLE, Int.reduceGE, Int.reduceGT, lists_len, ints_len, q1, p1, p2, p3, b3, b4, e0, e1, e2, e3, e4]; clear hgb)
       | simp only [go_sem, Int.reduceToNat, ↓reduceIte, reduceCtorEq, Nat.reduceEqDiff, Nat.reduceAdd, Nat.reduceMul, Nat.reduceLT, Nat.reduceLeDiff, Nat.reduceBEq, Int.reduceBEq, Int.reduceBNe, String.reduceBEq, Int.reduceEq, Int.reduceLT, Int.reduceLE, Int.reduceGE, Int.reduceGT, lists_len, ints_len, q1, p1, p2, p3, b3, b4, e0, e1, e2, e3, e4, hAll]
       | (refine ite_guard (fun hg => ?_) (fun hg => ?_) <;> (try simp only [Bool.not_eq_true, Bool.not_eq_false, Decidable.not_not] at hg) <;> (first | have hgb : (_ : Bool) = _ := hg | have hgb := ff hg | have hgb := tt hg))
       | (refine ⟨fun hc => ht _ ?_, fun hc => hf _ ?_⟩ <;> clear ht hf KT KF)
       | fail)
      refine n_loop (O.length + 1) [0, 3, 4, 5] [47] ⟨?_, hjl⟩ (by omega)
      simp only [go_sem, Int.reduceToNat, ↓reduceIte, reduceCtorEq, Nat.reduceEqDiff, Nat.reduceAdd, Nat.reduceMul, Nat.reduceLT, Nat.reduceLeDiff, Nat.reduceBEq, Int.reduceBEq, Int.reduceBNe, String.reduceBEq, Int.reduceEq, Int.reduceLT, Int.reduceLE, Int.reduceGE, Int.reduceGT, mk_keep, keepL, List.mem_cons, List.not_mem_nil, Nat.reduceEqDiff, Nat.zero_ne_one, Nat.one_ne_zero, reduceCtorEq, or_false, false_or, or_true, true_or, or_self, eq_self, ↓reduceIte, hO']
  · obtain rfl : j = idl9.length := by omega
    rw [List.take_length] at *
    obtain ⟨O, hO⟩ : ∃ O, idl9.map (fun i => (i, rsum ls i ls.length)) = O := ⟨_, rfl⟩
    rw [hO] at hlj ⊢
    have hso := rsort_spec 2 O (by omega)
    rw [if_pos (by decide)] at hso
    have e0 : (hrows O).length = O.length := hrows_len O
    have e1 : (hrows O).take O.length = hrows O := List.take_of_length_le (by omega)
    have e4 := tt (Nat.le_refl O.length)
    have e5 : (ints idl9).length = O.length := by rw [ints_len]; omega
    have p1 := nltI (show ¬ O.length < O.length by omega)
    rw [← hlj]
    repeat' (first
     | ((with_reducible_and_instances refine s_frz 47 rfl (viewRows_up _) ?_); simp only [del, mapV, SV.frz, CV.frz, hasA, AV.has, CV.has, List.drop_zero, List.map_cons, List.map_nil, Nat.zero_add, Nat.reduceEqDiff, Nat.reduceLeDiff, Nat.le_refl, ↓reduceIte, Bool.false_eq_true, p1, e0, e1, e4, e5, ints_len])
     | (with_reducible first | refine s_seq ?_ | refine s_block ?_ | refine s_region fun kr hr => ?_)
     | (with_reducible refine s_text tOk [46, 47, 1000, 1001, 1002, 1003] (by kernel_rfl) (by simp [HeapIn, namers, namerDst, namerOp, namedOp, namedFn, ownLoad, Blk.has, hasRows, hasL, CV.has, hasRows_up, hasM_up, hasRows_append, p1, e0, e1, e4, e5, ints_len]; (try ((repeat' apply And.intro) <;> intros <;> omega))) fun kr hr => ?_)
     | (with_reducible first | refine s_op fun K' hk => ?_ | refine t_op fun K' hk => ?_ | (refine hk _ ?_; clear hk K') | (refine ht _ ?_; clear ht hf KT KF) | (refine hf _ ?_; clear ht hf KT KF) | ((first | refine s_nil ?_ | refine t_nil ?_); refine hr _ ?_; clear hr kr))
     | ((with_reducible refine n_seqK [0, 1, 2, 3, 4, 5, 6, 7, 8, 14, 18, 20, 23, 25, 33, 44, 48] [46, 47] ?_); simp only [mk_keep, keepL, List.mem_cons, List.not_mem_nil, Nat.reduceEqDiff, Nat.zero_ne_one, Nat.one_ne_zero, reduceCtorEq, or_false, false_or, or_true, true_or, or_self, eq_self, ↓reduceIte])
     | (with_reducible first | refine s_cond fun KT KF ht hf => ?_ | refine s_skip ?_)
     | ((with_reducible refine s_long ?_); simp only [List.cons_append, List.nil_append])
     | (with_reducible first | refine s_exit ?_ | refine s_ret ?_ | refine e_seq ?_ | refine r_seq ?_ | refine n_block ?_ | refine e_block ?_ | refine r_block ?_ | refine e_loop ?_ | refine r_loop ?_ | refine e_round ?_ | refine r_round ?_ | refine s_round ?_ | refine f_block ?_ (by decide) | refine r_res ?_ | refine n_res ?_)
     | (simp only [hgb, go_sem, Int.reduceToNat, ↓reduceIte, reduceCtorEq, Nat.reduceEqDiff, Nat.reduceAdd, Nat.reduceMul, Nat.reduceLT, Nat.reduceLeDiff, Nat.reduceBEq, Int.reduceBEq, Int.reduceBNe, String.reduceBEq, Int.reduceEq, Int.reduceLT, Int.reduceLE, Int.reduceGE, Int.reduceGT, p1, e0, e1, e4, e5, ints_len, callE, resSV, AV.flat, CV.flat, TV.flat]; clear hgb)
     | simp only [go_sem, Int.reduceToNat, ↓reduceIte, reduceCtorEq, Nat.reduceEqDiff, Nat.reduceAdd, Nat.reduceMul, Nat.reduceLT, Nat.reduceLeDiff, Nat.reduceBEq, Int.reduceBEq, Int.reduceBNe, String.reduceBEq, Int.reduceEq, Int.reduceLT, Int.reduceLE, Int.reduceGE, Int.reduceGT, p1, e0, e1, e4, e5, ints_len, callE, resSV, AV.flat, CV.flat, TV.flat, hAll]
     | refine Or.inl ⟨_, ⟨fun _ _ => rfl, hso⟩, ?_⟩
     | refine ⟨_, ⟨fun _ _ => rfl, hso⟩, ?_⟩
     | (refine ite_guard (fun hg => ?_) (fun hg => ?_) <;> (try simp only [Bool.not_eq_true, Bool.not_eq_false, Decidable.not_not] at hg) <;> (first | have hgb : (_ : Bool) = _ := hg | have hgb := ff hg | have hgb := tt hg))
     | (refine ⟨fun hc => ht _ ?_, fun hc => hf _ ?_⟩ <;> clear ht hf KT KF)
     | fail)
theorem tsome_mem (ls : List (List Ht)) (i : Int) : tsome ls i = true ↔ i ∈ idsL ls := by
  rw [idsL_mem, tsome, List.any_eq_true]
  constructor
  · rintro ⟨l, hl, h⟩; exact ⟨l, hl, ctr_some.1 h⟩
  · rintro ⟨l, hl, h⟩; exact ⟨l, hl, ctr_some.2 h⟩
/-- The document's answer is the program's. -/
theorem rank_eq (ls : List (List Ht)) : srt 2 ((riseS (idsL ls)).map fun i => (i, rsum ls i ls.length)) = hsort 2 (hits (es0.all ls ls.length).mm) := by
  have hk := (all_wf ls ls.length (Nat.le_refl _)).1.keys
  rw [srt_eq rfl]
  refine (hsort_congr rfl ?_).symm
  refine perm_of_mem (hits_nodup hk) (nodup_map (f := (·.1)) ?_) fun x => ?_
  · rw [List.map_map]
    rw [show ((fun x : Ht => x.1) ∘ fun i => (i, rsum ls i ls.length)) = id from rfl, List.map_id]
    exact (riseS_sorted _).imp fun h => by omega
  · obtain ⟨i, v⟩ := x
    rw [mem_hits hk, all_sem ls i _ (Nat.le_refl _), List.mem_map, List.take_length]
    constructor
    · intro h
      split at h
      · rename_i hi
        refine ⟨i, (riseS_mem _ _).2 ((tsome_mem ls i).1 hi), ?_⟩
        rw [rsum, List.take_length, Option.some.inj h]
      · cases h
    · rintro ⟨a, ha, he⟩
      obtain ⟨rfl, rfl⟩ := Prod.mk.inj he
      rw [if_pos ((tsome_mem ls a).2 ((riseS_mem _ _).1 ha)), rsum, List.take_length]
theorem rrank_spec (ls : List (List Ht)) (hl : tot ls * 16 ≤ 140737488355328) (hn : ls.length ≤ 4611686018427387904) : Spec Try.prog 30 [.v (.t (.sl 1 (lists ls)))] [] [.v (.t (.sl 2 (hrows (hsort 2 (hits (es0.all ls ls.length).mm)))))] [] := by
  have := rrank_walk ls hl hn
  rw [rank_eq] at this
  exact this
end Go.Proofs.Ytgmjgognpabmdaa.Fx
