/- Rows of as many components; with as many centroids as rows nothing is lost. -/
import Derived.Test.YtlnilonlaedafaaFxMean
import Derived.Test.YtlnilonlaedafaaFxTrainRef
namespace Go.Proofs.Ytlnilonlaedafaa.Fx
open Go Go.RowKit
set_option maxRecDepth 100000
set_option linter.unusedSimpArgs false
set_option linter.unusedVariables false
def fitN (l : List (List Int)) : Nat := if 0 < l.length then max 1 (min (hd l).length 8) else 1
def fitX (v : List Int) (k : Nat) : Int := if k < v.length then max (-32768) (min (v.getD k 0) 32767) else 0
def fitV (n : Nat) (v : List Int) : List Int := (List.range n).map (fitX v)
def fitL (l : List (List Int)) : List (List Int) := l.map (fitV (fitN l))
theorem fitN_le (l : List (List Int)) : 1 ≤ fitN l ∧ fitN l ≤ 8 := by unfold fitN; split <;> omega
theorem fitV_len (n : Nat) (v : List Int) : (fitV n v).length = n := by simp [fitV]
theorem fitX_in (v : List Int) (k : Nat) : inside (fitX v k) = true := by
  unfold fitX inside
  split <;> simp <;> omega
theorem fitV_may {n : Nat} (h : 1 ≤ n ∧ n ≤ 8) (v : List Int) : may (fitV n v) = true := by
  simp only [may, fitV_len, Bool.and_eq_true, decide_eq_true_eq, List.all_eq_true]
  refine ⟨⟨fun x hx => ?_, h.1⟩, by omega⟩
  simp only [fitV, List.mem_map, List.mem_range] at hx
  obtain ⟨k, _, rfl⟩ := hx
  exact fitX_in v k
theorem fitL_alike (l : List (List Int)) : Alike (fitN l) (fitL l) := by
  intro v hv
  simp only [fitL, List.mem_map] at hv
  obtain ⟨u, _, rfl⟩ := hv
  exact ⟨fitV_may (fitN_le l) u, fitV_len _ _⟩
theorem fitL_len (l : List (List Int)) : (fitL l).length = l.length := by simp [fitL]
theorem fitL_sized {l : List (List Int)} (h : l.length ≤ 5864062014634) : SizedAll (fitL l) :=
  ⟨by rw [fitL_len]; exact h, fun v hv => by have := (fitL_alike l v hv).2; have := fitN_le l; omega⟩
theorem fitV_take (v : List Int) (n j : Nat) (h : j ≤ n) : (fitV n v).take j = (List.range j).map (fitX v) := by
  rw [fitV, ← List.map_take, List.take_range, Nat.min_eq_left h]
def fitJ (v : List Int) (j : Nat) : List Int := (List.range j).map (fitX v)
theorem fitJ_succ (v : List Int) (j : Nat) : fitJ v (j + 1) = fitJ v j ++ [fitX v j] := by simp [fitJ, List.range_succ]
theorem fitJ_len (v : List Int) (j : Nat) : (fitJ v j).length = j := by simp [fitJ]
def fitK (l : List (List Int)) (n i : Nat) : List (List Int) := (l.take i).map (fitV n)
theorem fitK_succ {l : List (List Int)} {n i : Nat} (h : i < l.length) : fitK l n (i + 1) = fitK l n i ++ [fitV n l[i]] := by
  unfold fitK; rw [List.take_succ_eq_append_getElem h, List.map_append]; rfl
theorem fitK_len {l : List (List Int)} {n i : Nat} (h : i ≤ l.length) : (fitK l n i).length = i := by simp [fitK]; omega
set_option maxHeartbeats 4000000 in
theorem fit_own (l : List (List Int)) (hl : SizedAll l) : Spec Try.prog 27 [.v (.t (vecs l))] [] [.v (.mr 52 0 l.length)] [(52, .cells 1 (orows (fitL l)))] := by
  have hl1 := hl.1
  have hN := fitN_le l
  have key : fitL l = fitK l (fitN l) l.length := by unfold fitL fitK; rw [List.take_length]
  rw [key]
  obtain ⟨n, hn⟩ : ∃ n, fitN l = n := ⟨_, rfl⟩
  rw [hn] at hN ⊢
  refine spec_by Try.func27 rfl mixed tOk evOk (n := 54) rfl (by simp) (by simp) ?_
  rw [initSt_mk, show Try.f27.results.toList = [.tmp 2] from rfl]
  simp only [initL, AV.sv, List.map_cons, List.map_nil, Nat.reduceAdd, Nat.zero_add, vecs_eq]
  by_cases hpos : 0 < l.length
  · have f0 := tt (show (l.length : Int) > 0 by omega)
    have h00 := get_of_lt hpos
    have hh := head_get hpos
    have e1 : (if (1 : Int) < (if (8 : Int) < ((hd l).length : Int) then 8 else ((hd l).length : Int)) then (if (8 : Int) < ((hd l).length : Int) then 8 else ((hd l).length : Int)) else 1) = (n : Int) := by
      rw [← hn]; unfold fitN; rw [if_pos hpos]; (repeat' split) <;> omega
    repeat' (first
     | (with_reducible first | refine s_seq ?_ | refine s_block ?_ | refine s_region fun kr hr => ?_)
     | (with_reducible refine s_text tOk [47, 48, 51, 52, 1000, 1001, 1002, 1003] (by kernel_rfl) (by simp [HeapIn, namers, namerDst, namerOp, namedOp, namedFn, ownLoad, Blk.has, hasRows, hasL, CV.has, hasRows_up, hasRows_append, f0, h00, hh, e1, vrows_get, vrows_len, vec_eq, ints_len]; (try ((repeat' apply And.intro) <;> intros <;> omega))) fun kr hr => ?_)
     | (with_reducible first | refine s_op fun K' hk => ?_ | refine t_op fun K' hk => ?_ | (refine hk _ ?_; clear hk K') | (refine ht _ ?_; clear ht hf KT KF) | (refine hf _ ?_; clear ht hf KT KF) | ((first | refine s_nil ?_ | refine t_nil ?_); refine hr _ ?_; clear hr kr))
     | ((with_reducible refine n_seqK [0, 1, 2, 3, 4, 5, 6, 7, 8, 11, 21, 22, 23, 26, 35] [47, 48, 51, 52] ?_); simp only [mk_keep, keepL, List.mem_cons, List.not_mem_nil, Nat.reduceEqDiff, Nat.zero_ne_one, Nat.one_ne_zero, reduceCtorEq, or_false, false_or, or_true, true_or, or_self, eq_self, ↓reduceIte])
     | (with_reducible first | refine s_cond fun KT KF ht hf => ?_ | refine s_skip ?_)
     | ((with_reducible refine s_long ?_); simp only [List.cons_append, List.nil_append])
     | (with_reducible first | refine s_exit ?_ | refine s_ret ?_ | refine e_seq ?_ | refine r_seq ?_ | refine n_block ?_ | refine e_block ?_ | refine r_block ?_ | refine e_loop ?_ | refine r_loop ?_ | refine e_round ?_ | refine r_round ?_ | refine s_round ?_ | refine f_block ?_ (by decide) | refine r_res ?_ | refine n_res ?_)
     | (simp only [hgb, go_sem, Int.reduceToNat, ↓reduceIte, reduceCtorEq, Nat.reduceEqDiff, Nat.reduceAdd, Nat.reduceMul, Nat.reduceLT, Nat.reduceLeDiff, Nat.reduceBEq, Int.reduceBEq, Int.reduceBNe, String.reduceBEq, Int.reduceEq, Int.reduceLT, Int.reduceLE, Int.reduceGE, Int.reduceGT, f0, h00, hh, e1, vrows_get, vrows_len, vec_eq, ints_len]; clear hgb)
     | simp only [go_sem, Int.reduceToNat, ↓reduceIte, reduceCtorEq, Nat.reduceEqDiff, Nat.reduceAdd, Nat.reduceMul, Nat.reduceLT, Nat.reduceLeDiff, Nat.reduceBEq, Int.reduceBEq, Int.reduceBNe, String.reduceBEq, Int.reduceEq, Int.reduceLT, Int.reduceLE, Int.reduceGE, Int.reduceGT, f0, h00, hh, e1, vrows_get, vrows_len, vec_eq, ints_len, hAll]
     | (refine ite_guard (fun hg => ?_) (fun hg => ?_) <;> (try simp only [Bool.not_eq_true, Bool.not_eq_false, Decidable.not_not] at hg) <;> (first | have hgb : (_ : Bool) = _ := hg | have hgb := ff hg | have hgb := tt hg))
     | (refine ⟨fun hc => ht _ ?_, fun hc => hf _ ?_⟩ <;> clear ht hf KT KF)
     | fail)
    refine w_loopG _ (gho_nilName (s := 3) (d := 52) (sz := 1) (by decide) ⟨1, rfl⟩ (by rw [fresh_t]; exact trivial; rfl)) ?_
    rw [mk_nilName]
    refine w_loop [0, 2, 3, 4, 5] [52] (σ := Nat) (fun i st => st = mk [(0, V (.sl 1 (vrows l))), (2, .c (.own 1 [])), (3, .c (.mr 52 0 i)), (4, I n), (5, I i)] [(52, .cells 1 (orows (fitK l n i)))] ∧ i ≤ l.length) (fun i => l.length - i) 0 ?_ ?_
    · simp only [go_sem, Int.reduceToNat, ↓reduceIte, reduceCtorEq, Nat.reduceEqDiff, Nat.reduceAdd, Nat.reduceMul, Nat.reduceLT, Nat.reduceLeDiff, Nat.reduceBEq, Int.reduceBEq, Int.reduceBNe, String.reduceBEq, Int.reduceEq, Int.reduceLT, Int.reduceLE, Int.reduceGE, Int.reduceGT, mk_keep, keepL, List.mem_cons, List.not_mem_nil, Nat.reduceEqDiff, Nat.zero_ne_one, Nat.one_ne_zero, reduceCtorEq, or_false, false_or, or_true, true_or, or_self, eq_self, ↓reduceIte]
      first | exact ⟨rfl, Nat.zero_le _⟩ | exact Nat.zero_le _
    · rintro i st' ⟨rfl, hi⟩
      have hol : (orows (fitK l n i)).length = i := by rw [orows_length, fitK_len hi]
      have hot : (orows (fitK l n i)).take i = orows (fitK l n i) := List.take_of_length_le (by omega)
      by_cases hit : i < l.length
      · have f1 := ltI hit
        have f2 := get_of_lt hit
        have f3 := wUp hit (by omega)
        have hv := hl.at hit
        have b1 := tt (show (i + 1) * 24 ≤ 140737488355328 by omega)
        have b2 := tt (show i ≤ 9223372036854775806 by omega)
        repeat' (first
         | (with_reducible first | refine s_seq ?_ | refine s_block ?_ | refine s_region fun kr hr => ?_)
         | (with_reducible refine s_text tOk [47, 48, 51, 52, 1000, 1001, 1002, 1003] (by kernel_rfl) (by simp [HeapIn, namers, namerDst, namerOp, namedOp, namedFn, ownLoad, Blk.has, hasRows, hasL, CV.has, hasRows_up, hasRows_append, f1, vrows_len]; (try ((repeat' apply And.intro) <;> intros <;> omega))) fun kr hr => ?_)
         | (with_reducible first | refine s_op fun K' hk => ?_ | refine t_op fun K' hk => ?_ | (refine hk _ ?_; clear hk K') | (refine ht _ ?_; clear ht hf KT KF) | (refine hf _ ?_; clear ht hf KT KF) | ((first | refine s_nil ?_ | refine t_nil ?_); refine hr _ ?_; clear hr kr))
         | ((with_reducible refine n_seqK [0, 1, 2, 3, 4, 5, 6, 7, 8, 11, 21, 22, 23, 26, 35] [47, 48, 51, 52] ?_); simp only [mk_keep, keepL, List.mem_cons, List.not_mem_nil, Nat.reduceEqDiff, Nat.zero_ne_one, Nat.one_ne_zero, reduceCtorEq, or_false, false_or, or_true, true_or, or_self, eq_self, ↓reduceIte])
         | (with_reducible first | refine s_cond fun KT KF ht hf => ?_ | refine s_skip ?_)
         | ((with_reducible refine s_long ?_); simp only [List.cons_append, List.nil_append])
         | (with_reducible first | refine s_exit ?_ | refine s_ret ?_ | refine e_seq ?_ | refine r_seq ?_ | refine n_block ?_ | refine e_block ?_ | refine r_block ?_ | refine e_loop ?_ | refine r_loop ?_ | refine e_round ?_ | refine r_round ?_ | refine s_round ?_ | refine f_block ?_ (by decide) | refine r_res ?_ | refine n_res ?_)
         | (simp only [hgb, go_sem, Int.reduceToNat, ↓reduceIte, reduceCtorEq, Nat.reduceEqDiff, Nat.reduceAdd, Nat.reduceMul, Nat.reduceLT, Nat.reduceLeDiff, Nat.reduceBEq, Int.reduceBEq, Int.reduceBNe, String.reduceBEq, Int.reduceEq, Int.reduceLT, Int.reduceLE, Int.reduceGE, Int.reduceGT, f1, vrows_len]; clear hgb)
         | simp only [go_sem, Int.reduceToNat, ↓reduceIte, reduceCtorEq, Nat.reduceEqDiff, Nat.reduceAdd, Nat.reduceMul, Nat.reduceLT, Nat.reduceLeDiff, Nat.reduceBEq, Int.reduceBEq, Int.reduceBNe, String.reduceBEq, Int.reduceEq, Int.reduceLT, Int.reduceLE, Int.reduceGE, Int.reduceGT, f1, vrows_len, hAll]
         | (refine ite_guard (fun hg => ?_) (fun hg => ?_) <;> (try simp only [Bool.not_eq_true, Bool.not_eq_false, Decidable.not_not] at hg) <;> (first | have hgb : (_ : Bool) = _ := hg | have hgb := ff hg | have hgb := tt hg))
         | (refine ⟨fun hc => ht _ ?_, fun hc => hf _ ?_⟩ <;> clear ht hf KT KF)
         | fail)
        refine w_loopG _ (gho_nilName (s := 6) (d := 48) (sz := 1) (by decide) ⟨1, rfl⟩ (by rw [fresh_t]; exact trivial; simp only [freshL, Blk.has, orows_has]; rfl)) ?_
        rw [mk_nilName]
        refine w_loop [0, 2, 3, 4, 5, 6, 7] [48, 52] (σ := Nat) (fun j st => st = mk [(0, V (.sl 1 (vrows l))), (2, .c (.own 1 [])), (3, .c (.mr 52 0 i)), (4, I n), (5, I i), (6, .c (.mr 48 0 j)), (7, I j)] [(48, .cells 1 (up (ints (fitJ l[i] j)))), (52, .cells 1 (orows (fitK l n i)))] ∧ j ≤ n) (fun j => n - j) 0 ?_ ?_
        · simp only [go_sem, Int.reduceToNat, ↓reduceIte, reduceCtorEq, Nat.reduceEqDiff, Nat.reduceAdd, Nat.reduceMul, Nat.reduceLT, Nat.reduceLeDiff, Nat.reduceBEq, Int.reduceBEq, Int.reduceBNe, String.reduceBEq, Int.reduceEq, Int.reduceLT, Int.reduceLE, Int.reduceGE, Int.reduceGT, mk_keep, keepL, List.mem_cons, List.not_mem_nil, Nat.reduceEqDiff, Nat.zero_ne_one, Nat.one_ne_zero, reduceCtorEq, or_false, false_or, or_true, true_or, or_self, eq_self, ↓reduceIte, orows_has]
          first | exact ⟨rfl, Nat.zero_le _⟩ | exact Nat.zero_le _
        · rintro j st' ⟨rfl, hj⟩
          have hjl : (up (ints (fitJ l[i] j))).length = j := by rw [upi_len, fitJ_len]
          have hjt : (ints (fitJ l[i] j)).take j = ints (fitJ l[i] j) := List.take_of_length_le (by rw [ints_len, fitJ_len]; omega)
          by_cases hjn : j < n
          · have k1 := ltI hjn
            have k3 := wUp hjn (by omega)
            have c1 := tt (show (j + 1) * 8 ≤ 140737488355328 by omega)
            have c2 := tt (show j ≤ 9223372036854775806 by omega)
            have hsn := fitJ_succ l[i] j
            by_cases hlt : j < l[i].length
            · have k2 := ltI hlt
              have k4 := get_of_lt hlt
              have eX : (if (if (32767 : Int) < l[i][j] then 32767 else l[i][j]) > -32768 then (if (32767 : Int) < l[i][j] then 32767 else l[i][j]) else -32768) = fitX l[i] j := by
                have hg : l[i].getD j 0 = l[i][j] := by simp [hlt]
                unfold fitX; rw [if_pos hlt, hg]; (repeat' split) <;> omega
              repeat' (first
               | (with_reducible first | refine s_seq ?_ | refine s_block ?_ | refine s_region fun kr hr => ?_)
               | (with_reducible refine s_text tOk [47, 48, 51, 52, 1000, 1001, 1002, 1003] (by kernel_rfl) (by simp [HeapIn, namers, namerDst, namerOp, namedOp, namedFn, ownLoad, Blk.has, hasRows, hasL, CV.has, hasRows_up, hasRows_append, f1, f2, k1, k2, k3, k4, c1, c2, eX, hjl, hjt, vrows_get, vrows_len, vec_eq, ints_get, ints_len, fitJ_len, upi_append, orows_has, hasRows_up]; (try ((repeat' apply And.intro) <;> intros <;> omega))) fun kr hr => ?_)
               | (with_reducible first | refine s_op fun K' hk => ?_ | refine t_op fun K' hk => ?_ | (refine hk _ ?_; clear hk K') | (refine ht _ ?_; clear ht hf KT KF) | (refine hf _ ?_; clear ht hf KT KF) | ((first | refine s_nil ?_ | refine t_nil ?_); refine hr _ ?_; clear hr kr))
               | ((with_reducible refine n_seqK [0, 1, 2, 3, 4, 5, 6, 7, 8, 11, 21, 22, 23, 26, 35] [47, 48, 51, 52] ?_); simp only [mk_keep, keepL, List.mem_cons, List.not_mem_nil, Nat.reduceEqDiff, Nat.zero_ne_one, Nat.one_ne_zero, reduceCtorEq, or_false, false_or, or_true, true_or, or_self, eq_self, ↓reduceIte])
               | (with_reducible first | refine s_cond fun KT KF ht hf => ?_ | refine s_skip ?_)
               | ((with_reducible refine s_long ?_); simp only [List.cons_append, List.nil_append])
               | (with_reducible first | refine s_exit ?_ | refine s_ret ?_ | refine e_seq ?_ | refine r_seq ?_ | refine n_block ?_ | refine e_block ?_ | refine r_block ?_ | refine e_loop ?_ | refine r_loop ?_ | refine e_round ?_ | refine r_round ?_ | refine s_round ?_ | refine f_block ?_ (by decide) | refine r_res ?_ | refine n_res ?_)
               | (simp only [hgb, go_sem, Int.reduceToNat, ↓reduceIte, reduceCtorEq, Nat.reduceEqDiff, Nat.reduceAdd, Nat.reduceMul, Nat.reduceLT, Nat.reduceLeDiff, Nat.reduceBEq, Int.reduceBEq, Int.reduceBNe, String.reduceBEq, Int.reduceEq, Int.reduceLT, Int.reduceLE, Int.reduceGE, Int.reduceGT, f1, f2, k1, k2, k3, k4, c1, c2, eX, hjl, hjt, vrows_get, vrows_len, vec_eq, ints_get, ints_len, fitJ_len, upi_append, orows_has, hasRows_up]; clear hgb)
               | simp only [go_sem, Int.reduceToNat, ↓reduceIte, reduceCtorEq, Nat.reduceEqDiff, Nat.reduceAdd, Nat.reduceMul, Nat.reduceLT, Nat.reduceLeDiff, Nat.reduceBEq, Int.reduceBEq, Int.reduceBNe, String.reduceBEq, Int.reduceEq, Int.reduceLT, Int.reduceLE, Int.reduceGE, Int.reduceGT, f1, f2, k1, k2, k3, k4, c1, c2, eX, hjl, hjt, vrows_get, vrows_len, vec_eq, ints_get, ints_len, fitJ_len, upi_append, orows_has, hasRows_up, hAll]
               | (refine ite_guard (fun hg => ?_) (fun hg => ?_) <;> (try simp only [Bool.not_eq_true, Bool.not_eq_false, Decidable.not_not] at hg) <;> (first | have hgb : (_ : Bool) = _ := hg | have hgb := ff hg | have hgb := tt hg))
               | (refine ⟨fun hc => ht _ ?_, fun hc => hf _ ?_⟩ <;> clear ht hf KT KF)
               | fail)
              refine n_loop (j + 1) [0, 2, 3, 4, 5, 6, 7] [48, 52] ⟨?_, hjn⟩ (by omega)
              simp only [go_sem, Int.reduceToNat, ↓reduceIte, reduceCtorEq, Nat.reduceEqDiff, Nat.reduceAdd, Nat.reduceMul, Nat.reduceLT, Nat.reduceLeDiff, Nat.reduceBEq, Int.reduceBEq, Int.reduceBNe, String.reduceBEq, Int.reduceEq, Int.reduceLT, Int.reduceLE, Int.reduceGE, Int.reduceGT, mk_keep, keepL, List.mem_cons, List.not_mem_nil, Nat.reduceEqDiff, Nat.zero_ne_one, Nat.one_ne_zero, reduceCtorEq, or_false, false_or, or_true, true_or, or_self, eq_self, ↓reduceIte, hsn]
            · have k2 := nltI hlt
              have eX : fitX l[i] j = 0 := if_neg hlt
              rw [eX] at hsn
              repeat' (first
               | (with_reducible first | refine s_seq ?_ | refine s_block ?_ | refine s_region fun kr hr => ?_)
               | (with_reducible refine s_text tOk [47, 48, 51, 52, 1000, 1001, 1002, 1003] (by kernel_rfl) (by simp [HeapIn, namers, namerDst, namerOp, namedOp, namedFn, ownLoad, Blk.has, hasRows, hasL, CV.has, hasRows_up, hasRows_append, f1, f2, k1, k2, k3, c1, c2, hjl, hjt, vrows_get, vrows_len, vec_eq, ints_get, ints_len, fitJ_len, upi_append, orows_has, hasRows_up]; (try ((repeat' apply And.intro) <;> intros <;> omega))) fun kr hr => ?_)
               | (with_reducible first | refine s_op fun K' hk => ?_ | refine t_op fun K' hk => ?_ | (refine hk _ ?_; clear hk K') | (refine ht _ ?_; clear ht hf KT KF) | (refine hf _ ?_; clear ht hf KT KF) | ((first | refine s_nil ?_ | refine t_nil ?_); refine hr _ ?_; clear hr kr))
               | ((with_reducible refine n_seqK [0, 1, 2, 3, 4, 5, 6, 7, 8, 11, 21, 22, 23, 26, 35] [47, 48, 51, 52] ?_); simp only [mk_keep, keepL, List.mem_cons, List.not_mem_nil, Nat.reduceEqDiff, Nat.zero_ne_one, Nat.one_ne_zero, reduceCtorEq, or_false, false_or, or_true, true_or, or_self, eq_self, ↓reduceIte])
               | (with_reducible first | refine s_cond fun KT KF ht hf => ?_ | refine s_skip ?_)
               | ((with_reducible refine s_long ?_); simp only [List.cons_append, List.nil_append])
               | (with_reducible first | refine s_exit ?_ | refine s_ret ?_ | refine e_seq ?_ | refine r_seq ?_ | refine n_block ?_ | refine e_block ?_ | refine r_block ?_ | refine e_loop ?_ | refine r_loop ?_ | refine e_round ?_ | refine r_round ?_ | refine s_round ?_ | refine f_block ?_ (by decide) | refine r_res ?_ | refine n_res ?_)
               | (simp only [hgb, go_sem, Int.reduceToNat, ↓reduceIte, reduceCtorEq, Nat.reduceEqDiff, Nat.reduceAdd, Nat.reduceMul, Nat.reduceLT, Nat.reduceLeDiff, Nat.reduceBEq, Int.reduceBEq, Int.reduceBNe, String.reduceBEq, Int.reduceEq, Int.reduceLT, Int.reduceLE, Int.reduceGE, Int.reduceGT, f1, f2, k1, k2, k3, c1, c2, hjl, hjt, vrows_get, vrows_len, vec_eq, ints_get, ints_len, fitJ_len, upi_append, orows_has, hasRows_up]; clear hgb)
               | simp only [go_sem, Int.reduceToNat, ↓reduceIte, reduceCtorEq, Nat.reduceEqDiff, Nat.reduceAdd, Nat.reduceMul, Nat.reduceLT, Nat.reduceLeDiff, Nat.reduceBEq, Int.reduceBEq, Int.reduceBNe, String.reduceBEq, Int.reduceEq, Int.reduceLT, Int.reduceLE, Int.reduceGE, Int.reduceGT, f1, f2, k1, k2, k3, c1, c2, hjl, hjt, vrows_get, vrows_len, vec_eq, ints_get, ints_len, fitJ_len, upi_append, orows_has, hasRows_up, hAll]
               | (refine ite_guard (fun hg => ?_) (fun hg => ?_) <;> (try simp only [Bool.not_eq_true, Bool.not_eq_false, Decidable.not_not] at hg) <;> (first | have hgb : (_ : Bool) = _ := hg | have hgb := ff hg | have hgb := tt hg))
               | (refine ⟨fun hc => ht _ ?_, fun hc => hf _ ?_⟩ <;> clear ht hf KT KF)
               | fail)
              refine n_loop (j + 1) [0, 2, 3, 4, 5, 6, 7] [48, 52] ⟨?_, hjn⟩ (by omega)
              simp only [go_sem, Int.reduceToNat, ↓reduceIte, reduceCtorEq, Nat.reduceEqDiff, Nat.reduceAdd, Nat.reduceMul, Nat.reduceLT, Nat.reduceLeDiff, Nat.reduceBEq, Int.reduceBEq, Int.reduceBNe, String.reduceBEq, Int.reduceEq, Int.reduceLT, Int.reduceLE, Int.reduceGE, Int.reduceGT, mk_keep, keepL, List.mem_cons, List.not_mem_nil, Nat.reduceEqDiff, Nat.zero_ne_one, Nat.one_ne_zero, reduceCtorEq, or_false, false_or, or_true, true_or, or_self, eq_self, ↓reduceIte, hsn]
          · have k1 := nltI hjn
            obtain rfl : j = n := by omega
            have hfv : fitJ l[i] j = fitV j l[i] := rfl
            repeat' (first
             | (with_reducible first | refine s_seq ?_ | refine s_block ?_ | refine s_region fun kr hr => ?_)
             | (with_reducible refine s_text tOk [47, 48, 51, 52, 1000, 1001, 1002, 1003] (by kernel_rfl) (by simp [HeapIn, namers, namerDst, namerOp, namedOp, namedFn, ownLoad, Blk.has, hasRows, hasL, CV.has, hasRows_up, hasRows_append, f3, k1, b1, b2, hol, hot, orows_has, hasRows_up]; (try ((repeat' apply And.intro) <;> intros <;> omega))) fun kr hr => ?_)
             | (with_reducible first | refine s_op fun K' hk => ?_ | refine t_op fun K' hk => ?_ | (refine hk _ ?_; clear hk K') | (refine ht _ ?_; clear ht hf KT KF) | (refine hf _ ?_; clear ht hf KT KF) | ((first | refine s_nil ?_ | refine t_nil ?_); refine hr _ ?_; clear hr kr))
             | ((with_reducible refine n_seqK [0, 1, 2, 3, 4, 5, 6, 7, 8, 11, 21, 22, 23, 26, 35] [47, 48, 51, 52] ?_); simp only [mk_keep, keepL, List.mem_cons, List.not_mem_nil, Nat.reduceEqDiff, Nat.zero_ne_one, Nat.one_ne_zero, reduceCtorEq, or_false, false_or, or_true, true_or, or_self, eq_self, ↓reduceIte])
             | (with_reducible first | refine s_cond fun KT KF ht hf => ?_ | refine s_skip ?_)
             | ((with_reducible refine s_long ?_); simp only [List.cons_append, List.nil_append])
             | (with_reducible first | refine s_exit ?_ | refine s_ret ?_ | refine e_seq ?_ | refine r_seq ?_ | refine n_block ?_ | refine e_block ?_ | refine r_block ?_ | refine e_loop ?_ | refine r_loop ?_ | refine e_round ?_ | refine r_round ?_ | refine s_round ?_ | refine f_block ?_ (by decide) | refine r_res ?_ | refine n_res ?_)
             | (simp only [hgb, go_sem, Int.reduceToNat, ↓reduceIte, reduceCtorEq, Nat.reduceEqDiff, Nat.reduceAdd, Nat.reduceMul, Nat.reduceLT, Nat.reduceLeDiff, Nat.reduceBEq, Int.reduceBEq, Int.reduceBNe, String.reduceBEq, Int.reduceEq, Int.reduceLT, Int.reduceLE, Int.reduceGE, Int.reduceGT, f3, k1, b1, b2, hol, hot, orows_has, hasRows_up]; clear hgb)
             | simp only [go_sem, Int.reduceToNat, ↓reduceIte, reduceCtorEq, Nat.reduceEqDiff, Nat.reduceAdd, Nat.reduceMul, Nat.reduceLT, Nat.reduceLeDiff, Nat.reduceBEq, Int.reduceBEq, Int.reduceBNe, String.reduceBEq, Int.reduceEq, Int.reduceLT, Int.reduceLE, Int.reduceGE, Int.reduceGT, f3, k1, b1, b2, hol, hot, orows_has, hasRows_up, hAll]
             | (refine ite_guard (fun hg => ?_) (fun hg => ?_) <;> (try simp only [Bool.not_eq_true, Bool.not_eq_false, Decidable.not_not] at hg) <;> (first | have hgb : (_ : Bool) = _ := hg | have hgb := ff hg | have hgb := tt hg))
             | (refine ⟨fun hc => ht _ ?_, fun hc => hf _ ?_⟩ <;> clear ht hf KT KF)
             | fail)
            have hmod := modify_last (orows (fitK l j i)) (.mr 48 0 j) (lcell 1 (up (ints (fitV j l[i]))))
            rw [hol] at hmod
            refine n_loopG _ (gho_foldL (k := 52) (i := i) (j := 0) (nm := 48) (sz := 1) (sz' := 1) (rows := orows (fitK l j i) ++ [[.mr 48 0 j]]) (rows' := up (ints (fitJ l[i] j))) (row := [.mr 48 0 j]) (by decide) (by simp [mk_heap, hL]) (by simp [mk_heap, hL]) (by rw [List.getElem?_append_right (by omega), hol]; simp) (by rw [hjl]; rfl)) ?_
            rw [mk_fold]
            refine n_loop (i + 1) [0, 2, 3, 4, 5] [52] ⟨?_, hit⟩ (by omega)
            simp only [go_sem, Int.reduceToNat, ↓reduceIte, reduceCtorEq, Nat.reduceEqDiff, Nat.reduceAdd, Nat.reduceMul, Nat.reduceLT, Nat.reduceLeDiff, Nat.reduceBEq, Int.reduceBEq, Int.reduceBNe, String.reduceBEq, Int.reduceEq, Int.reduceLT, Int.reduceLE, Int.reduceGE, Int.reduceGT, mk_keep, keepL, List.mem_cons, List.not_mem_nil, Nat.reduceEqDiff, Nat.zero_ne_one, Nat.one_ne_zero, reduceCtorEq, or_false, false_or, or_true, true_or, or_self, eq_self, ↓reduceIte, hfv, hmod, fitK_succ hit, orows_snoc]
      · have f1 := nltI hit
        obtain rfl : i = l.length := by omega
        repeat' (first
         | (with_reducible first | refine s_seq ?_ | refine s_block ?_ | refine s_region fun kr hr => ?_)
         | (with_reducible refine s_text tOk [47, 48, 51, 52, 1000, 1001, 1002, 1003] (by kernel_rfl) (by simp [HeapIn, namers, namerDst, namerOp, namedOp, namedFn, ownLoad, Blk.has, hasRows, hasL, CV.has, hasRows_up, hasRows_append, f1, vrows_len, orows_has]; (try ((repeat' apply And.intro) <;> intros <;> omega))) fun kr hr => ?_)
         | (with_reducible first | refine s_op fun K' hk => ?_ | refine t_op fun K' hk => ?_ | (refine hk _ ?_; clear hk K') | (refine ht _ ?_; clear ht hf KT KF) | (refine hf _ ?_; clear ht hf KT KF) | ((first | refine s_nil ?_ | refine t_nil ?_); refine hr _ ?_; clear hr kr))
         | ((with_reducible refine n_seqK [0, 1, 2, 3, 4, 5, 6, 7, 8, 11, 21, 22, 23, 26, 35] [47, 48, 51, 52] ?_); simp only [mk_keep, keepL, List.mem_cons, List.not_mem_nil, Nat.reduceEqDiff, Nat.zero_ne_one, Nat.one_ne_zero, reduceCtorEq, or_false, false_or, or_true, true_or, or_self, eq_self, ↓reduceIte])
         | (with_reducible first | refine s_cond fun KT KF ht hf => ?_ | refine s_skip ?_)
         | ((with_reducible refine s_long ?_); simp only [List.cons_append, List.nil_append])
         | (with_reducible first | refine s_exit ?_ | refine s_ret ?_ | refine e_seq ?_ | refine r_seq ?_ | refine n_block ?_ | refine e_block ?_ | refine r_block ?_ | refine e_loop ?_ | refine r_loop ?_ | refine e_round ?_ | refine r_round ?_ | refine s_round ?_ | refine f_block ?_ (by decide) | refine r_res ?_ | refine n_res ?_)
         | (simp only [hgb, go_sem, Int.reduceToNat, ↓reduceIte, reduceCtorEq, Nat.reduceEqDiff, Nat.reduceAdd, Nat.reduceMul, Nat.reduceLT, Nat.reduceLeDiff, Nat.reduceBEq, Int.reduceBEq, Int.reduceBNe, String.reduceBEq, Int.reduceEq, Int.reduceLT, Int.reduceLE, Int.reduceGE, Int.reduceGT, f1, vrows_len, orows_has]; clear hgb)
         | simp only [go_sem, Int.reduceToNat, ↓reduceIte, reduceCtorEq, Nat.reduceEqDiff, Nat.reduceAdd, Nat.reduceMul, Nat.reduceLT, Nat.reduceLeDiff, Nat.reduceBEq, Int.reduceBEq, Int.reduceBNe, String.reduceBEq, Int.reduceEq, Int.reduceLT, Int.reduceLE, Int.reduceGE, Int.reduceGT, f1, vrows_len, orows_has, hAll]
         | (refine ite_guard (fun hg => ?_) (fun hg => ?_) <;> (try simp only [Bool.not_eq_true, Bool.not_eq_false, Decidable.not_not] at hg) <;> (first | have hgb : (_ : Bool) = _ := hg | have hgb := ff hg | have hgb := tt hg))
         | (refine ⟨fun hc => ht _ ?_, fun hc => hf _ ?_⟩ <;> clear ht hf KT KF)
         | fail)
  · have f0 := ff (show ¬ (l.length : Int) > 0 by omega)
    have hz : l.length = 0 := by omega
    obtain rfl := List.length_eq_zero_iff.1 hz
    repeat' (first
     | (with_reducible first | refine s_seq ?_ | refine s_block ?_ | refine s_region fun kr hr => ?_)
     | (with_reducible refine s_text tOk [47, 48, 51, 52, 1000, 1001, 1002, 1003] (by kernel_rfl) (by simp [HeapIn, namers, namerDst, namerOp, namedOp, namedFn, ownLoad, Blk.has, hasRows, hasL, CV.has, hasRows_up, hasRows_append, f0, vrows_len, Int.cast_ofNat_Int, Int.lt_irrefl]; (try ((repeat' apply And.intro) <;> intros <;> omega))) fun kr hr => ?_)
     | (with_reducible first | refine s_op fun K' hk => ?_ | refine t_op fun K' hk => ?_ | (refine hk _ ?_; clear hk K') | (refine ht _ ?_; clear ht hf KT KF) | (refine hf _ ?_; clear ht hf KT KF) | ((first | refine s_nil ?_ | refine t_nil ?_); refine hr _ ?_; clear hr kr))
     | ((with_reducible refine n_seqK [0, 1, 2, 3, 4, 5, 6, 7, 8, 11, 21, 22, 23, 26, 35] [47, 48, 51, 52] ?_); simp only [mk_keep, keepL, List.mem_cons, List.not_mem_nil, Nat.reduceEqDiff, Nat.zero_ne_one, Nat.one_ne_zero, reduceCtorEq, or_false, false_or, or_true, true_or, or_self, eq_self, ↓reduceIte])
     | (with_reducible first | refine s_cond fun KT KF ht hf => ?_ | refine s_skip ?_)
     | ((with_reducible refine s_long ?_); simp only [List.cons_append, List.nil_append])
     | (with_reducible first | refine s_exit ?_ | refine s_ret ?_ | refine e_seq ?_ | refine r_seq ?_ | refine n_block ?_ | refine e_block ?_ | refine r_block ?_ | refine e_loop ?_ | refine r_loop ?_ | refine e_round ?_ | refine r_round ?_ | refine s_round ?_ | refine f_block ?_ (by decide) | refine r_res ?_ | refine n_res ?_)
     | (simp only [hgb, go_sem, Int.reduceToNat, ↓reduceIte, reduceCtorEq, Nat.reduceEqDiff, Nat.reduceAdd, Nat.reduceMul, Nat.reduceLT, Nat.reduceLeDiff, Nat.reduceBEq, Int.reduceBEq, Int.reduceBNe, String.reduceBEq, Int.reduceEq, Int.reduceLT, Int.reduceLE, Int.reduceGE, Int.reduceGT, f0, vrows_len, Int.cast_ofNat_Int, Int.lt_irrefl]; clear hgb)
     | simp only [go_sem, Int.reduceToNat, ↓reduceIte, reduceCtorEq, Nat.reduceEqDiff, Nat.reduceAdd, Nat.reduceMul, Nat.reduceLT, Nat.reduceLeDiff, Nat.reduceBEq, Int.reduceBEq, Int.reduceBNe, String.reduceBEq, Int.reduceEq, Int.reduceLT, Int.reduceLE, Int.reduceGE, Int.reduceGT, f0, vrows_len, Int.cast_ofNat_Int, Int.lt_irrefl, hAll]
     | (refine ite_guard (fun hg => ?_) (fun hg => ?_) <;> (try simp only [Bool.not_eq_true, Bool.not_eq_false, Decidable.not_not] at hg) <;> (first | have hgb : (_ : Bool) = _ := hg | have hgb := ff hg | have hgb := tt hg))
     | (refine ⟨fun hc => ht _ ?_, fun hc => hf _ ?_⟩ <;> clear ht hf KT KF)
     | fail)
    refine w_loopG _ (gho_nilName (s := 3) (d := 52) (sz := 1) (by decide) ⟨1, rfl⟩ (by rw [fresh_t]; exact trivial; rfl)) ?_
    rw [mk_nilName]
    refine w_unroll 1 ?_
    repeat' (first
     | (with_reducible first | refine s_seq ?_ | refine s_block ?_ | refine s_region fun kr hr => ?_)
     | (with_reducible refine s_text tOk [47, 48, 51, 52, 1000, 1001, 1002, 1003] (by kernel_rfl) (by simp [HeapIn, namers, namerDst, namerOp, namedOp, namedFn, ownLoad, Blk.has, hasRows, hasL, CV.has, hasRows_up, hasRows_append, f0, vrows_len, Int.cast_ofNat_Int, Int.lt_irrefl]; (try ((repeat' apply And.intro) <;> intros <;> omega))) fun kr hr => ?_)
     | (with_reducible first | refine s_op fun K' hk => ?_ | refine t_op fun K' hk => ?_ | (refine hk _ ?_; clear hk K') | (refine ht _ ?_; clear ht hf KT KF) | (refine hf _ ?_; clear ht hf KT KF) | ((first | refine s_nil ?_ | refine t_nil ?_); refine hr _ ?_; clear hr kr))
     | ((with_reducible refine n_seqK [0, 1, 2, 3, 4, 5, 6, 7, 8, 11, 21, 22, 23, 26, 35] [47, 48, 51, 52] ?_); simp only [mk_keep, keepL, List.mem_cons, List.not_mem_nil, Nat.reduceEqDiff, Nat.zero_ne_one, Nat.one_ne_zero, reduceCtorEq, or_false, false_or, or_true, true_or, or_self, eq_self, ↓reduceIte])
     | (with_reducible first | refine s_cond fun KT KF ht hf => ?_ | refine s_skip ?_)
     | ((with_reducible refine s_long ?_); simp only [List.cons_append, List.nil_append])
     | (with_reducible first | refine s_exit ?_ | refine s_ret ?_ | refine e_seq ?_ | refine r_seq ?_ | refine n_block ?_ | refine e_block ?_ | refine r_block ?_ | refine e_loop ?_ | refine r_loop ?_ | refine e_round ?_ | refine r_round ?_ | refine s_round ?_ | refine f_block ?_ (by decide) | refine r_res ?_ | refine n_res ?_)
     | (simp only [hgb, go_sem, Int.reduceToNat, ↓reduceIte, reduceCtorEq, Nat.reduceEqDiff, Nat.reduceAdd, Nat.reduceMul, Nat.reduceLT, Nat.reduceLeDiff, Nat.reduceBEq, Int.reduceBEq, Int.reduceBNe, String.reduceBEq, Int.reduceEq, Int.reduceLT, Int.reduceLE, Int.reduceGE, Int.reduceGT, f0, vrows_len, Int.cast_ofNat_Int, Int.lt_irrefl]; clear hgb)
     | simp only [go_sem, Int.reduceToNat, ↓reduceIte, reduceCtorEq, Nat.reduceEqDiff, Nat.reduceAdd, Nat.reduceMul, Nat.reduceLT, Nat.reduceLeDiff, Nat.reduceBEq, Int.reduceBEq, Int.reduceBNe, String.reduceBEq, Int.reduceEq, Int.reduceLT, Int.reduceLE, Int.reduceGE, Int.reduceGT, f0, vrows_len, Int.cast_ofNat_Int, Int.lt_irrefl, hAll]
     | (refine ite_guard (fun hg => ?_) (fun hg => ?_) <;> (try simp only [Bool.not_eq_true, Bool.not_eq_false, Decidable.not_not] at hg) <;> (first | have hgb : (_ : Bool) = _ := hg | have hgb := ff hg | have hgb := tt hg))
     | (refine ⟨fun hc => ht _ ?_, fun hc => hf _ ?_⟩ <;> clear ht hf KT KF)
     | fail)
    all_goals rfl
theorem fit_spec (l : List (List Int)) (hl : SizedAll l) : Spec Try.prog 27 [.v (.t (vecs l))] [] [.v (.t (vecs (fitL l)))] [] := by
  have h := fit_own l hl
  have e : (orows (fitL l)).length = l.length := by rw [orows_length, fitL_len]
  rw [← e] at h
  exact h.tree (orows_view _)
theorem meansAll_spec (l : List (List Int)) (rounds seed : Int) (hl : SizedAll l) (hb : l.length + l.length ≤ 5864062014634) (hr0 : -9223372036854775808 ≤ rounds ∧ rounds ≤ 9223372036854775807) :
    Spec Try.prog 7 [.v (.t (vecs l)), .v (.t (.int .i64 rounds)), .v (.t (.int .u64 seed))] [] [.v (.t (.bool true))] [] := by
  have h1 := fit_spec l hl
  have hln := fitL_len l
  have hal := fitL_alike l
  have hsz := fitL_sized hl.1
  generalize hgl : fitL l = g at *
  by_cases h0 : l.length = 0
  · have f0 := tt (show (g.length : Int) = 0 by omega)
    rw [vecs_eq, vecs_eq] at h1
    refine spec_by Try.func7 rfl mixed tOk evOk (n := 43) rfl (by simp) (by simp) ?_
    rw [initSt_mk, show Try.f7.results.toList = [.tmp 6] from rfl]
    simp only [initL, AV.sv, List.map_cons, List.map_nil, Nat.reduceAdd, Nat.zero_add, vecs_eq]
    repeat' (first
     | (with_reducible first | refine s_seq ?_ | refine s_block ?_ | refine s_region fun kr hr => ?_)
     | (with_reducible refine s_text tOk [1000, 1001, 1002, 1003] (by kernel_rfl) (by simp [HeapIn, namers, namerDst, namerOp, namedOp, namedFn, ownLoad, Blk.has, hasRows, hasL, CV.has, hasRows_up, hasRows_append, f0, vrows_len]; (try ((repeat' apply And.intro) <;> intros <;> omega))) fun kr hr => ?_)
     | (with_reducible first | refine s_op fun K' hk => ?_ | refine t_op fun K' hk => ?_ | (refine hk _ ?_; clear hk K') | (refine ht _ ?_; clear ht hf KT KF) | (refine hf _ ?_; clear ht hf KT KF) | ((first | refine s_nil ?_ | refine t_nil ?_); refine hr _ ?_; clear hr kr))
     | ((with_reducible refine n_seqK [0, 1, 2, 3, 4, 5, 6, 7, 8, 9, 14, 19, 21, 22, 27, 32] [] ?_); simp only [mk_keep, keepL, List.mem_cons, List.not_mem_nil, Nat.reduceEqDiff, Nat.zero_ne_one, Nat.one_ne_zero, reduceCtorEq, or_false, false_or, or_true, true_or, or_self, eq_self, ↓reduceIte])
     | (with_reducible first | refine s_cond fun KT KF ht hf => ?_ | refine s_skip ?_)
     | ((with_reducible refine s_long ?_); simp only [List.cons_append, List.nil_append])
     | (with_reducible first | refine s_exit ?_ | refine s_ret ?_ | refine e_seq ?_ | refine r_seq ?_ | refine n_block ?_ | refine e_block ?_ | refine r_block ?_ | refine e_loop ?_ | refine r_loop ?_ | refine e_round ?_ | refine r_round ?_ | refine s_round ?_ | refine f_block ?_ (by decide) | refine r_res ?_ | refine n_res ?_)
     | (simp only [hgb, go_sem, Int.reduceToNat, ↓reduceIte, reduceCtorEq, Nat.reduceEqDiff, Nat.reduceAdd, Nat.reduceMul, Nat.reduceLT, Nat.reduceLeDiff, Nat.reduceBEq, Int.reduceBEq, Int.reduceBNe, String.reduceBEq, Int.reduceEq, Int.reduceLT, Int.reduceLE, Int.reduceGE, Int.reduceGT, f0, vrows_len, callE, resSV, AV.flat, CV.flat, TV.flat]; clear hgb)
     | simp only [go_sem, Int.reduceToNat, ↓reduceIte, reduceCtorEq, Nat.reduceEqDiff, Nat.reduceAdd, Nat.reduceMul, Nat.reduceLT, Nat.reduceLeDiff, Nat.reduceBEq, Int.reduceBEq, Int.reduceBNe, String.reduceBEq, Int.reduceEq, Int.reduceLT, Int.reduceLE, Int.reduceGE, Int.reduceGT, f0, vrows_len, callE, resSV, AV.flat, CV.flat, TV.flat, hAll]
     | refine Or.inl ⟨_, ⟨fun _ _ => rfl, h1⟩, ?_⟩
     | refine ⟨_, ⟨fun _ _ => rfl, h1⟩, ?_⟩
     | refine Or.inl ⟨_, ⟨fun _ _ => rfl, sure18_spec⟩, ?_⟩
     | refine ⟨_, ⟨fun _ _ => rfl, sure18_spec⟩, ?_⟩
     | (refine ite_guard (fun hg => ?_) (fun hg => ?_) <;> (try simp only [Bool.not_eq_true, Bool.not_eq_false, Decidable.not_not] at hg) <;> (first | have hgb : (_ : Bool) = _ := hg | have hgb := ff hg | have hgb := tt hg))
     | (refine ⟨fun hc => ht _ ?_, fun hc => hf _ ?_⟩ <;> clear ht hf KT KF)
     | fail)
  · have f0 := ff (show ¬ (g.length : Int) = 0 by omega)
    have h2 := train_spec g g.length rounds seed hsz (by omega) (by omega) hr0
    have hsub : ∀ v ∈ start g g.length seed, v ∈ g := fun v hv => start_sub hv
    have hc : Alike (fitN l) (start g g.length seed) := fun v hv => hal v (hsub v hv)
    have hlen : (start g g.length seed).length = g.length := by rw [start_len]; omega
    have hsame := train_same hal hc (fun v hv => start_mem seed hv) (by omega) (by omega)
    have hok : okTrain g g.length = true := by simp [okTrain, okRows_alike hal (by omega)]; omega
    have ht : train g g.length rounds seed = start g g.length seed := by rw [train, if_pos hok, hsame]
    have he : trainE g g.length = 0 := by rw [trainE, if_pos hok]
    rw [ht, he] at h2
    have h3 := loss_spec g (start g g.length seed) hsz (start_sized hsz _ _).1
    have hz : loss g (start g g.length seed) = 0 := loss_same hal hc (fun v hv => start_mem seed hv) _ (Nat.le_refl _)
    rw [hz] at h3
    generalize hgs : start g g.length seed = s at *
    rw [vecs_eq, vecs_eq] at h1
    rw [vecs_eq, vecs_eq] at h2 h3
    refine spec_by Try.func7 rfl mixed tOk evOk (n := 43) rfl (by simp) (by simp) ?_
    rw [initSt_mk, show Try.f7.results.toList = [.tmp 6] from rfl]
    simp only [initL, AV.sv, List.map_cons, List.map_nil, Nat.reduceAdd, Nat.zero_add, vecs_eq]
    repeat' (first
     | (with_reducible first | refine s_seq ?_ | refine s_block ?_ | refine s_region fun kr hr => ?_)
     | (with_reducible refine s_text tOk [1000, 1001, 1002, 1003] (by kernel_rfl) (by simp [HeapIn, namers, namerDst, namerOp, namedOp, namedFn, ownLoad, Blk.has, hasRows, hasL, CV.has, hasRows_up, hasRows_append, f0, hlen, vrows_len]; (try ((repeat' apply And.intro) <;> intros <;> omega))) fun kr hr => ?_)
     | (with_reducible first | refine s_op fun K' hk => ?_ | refine t_op fun K' hk => ?_ | (refine hk _ ?_; clear hk K') | (refine ht _ ?_; clear ht hf KT KF) | (refine hf _ ?_; clear ht hf KT KF) | ((first | refine s_nil ?_ | refine t_nil ?_); refine hr _ ?_; clear hr kr))
     | ((with_reducible refine n_seqK [0, 1, 2, 3, 4, 5, 6, 7, 8, 9, 14, 19, 21, 22, 27, 32] [] ?_); simp only [mk_keep, keepL, List.mem_cons, List.not_mem_nil, Nat.reduceEqDiff, Nat.zero_ne_one, Nat.one_ne_zero, reduceCtorEq, or_false, false_or, or_true, true_or, or_self, eq_self, ↓reduceIte])
     | (with_reducible first | refine s_cond fun KT KF ht hf => ?_ | refine s_skip ?_)
     | ((with_reducible refine s_long ?_); simp only [List.cons_append, List.nil_append])
     | (with_reducible first | refine s_exit ?_ | refine s_ret ?_ | refine e_seq ?_ | refine r_seq ?_ | refine n_block ?_ | refine e_block ?_ | refine r_block ?_ | refine e_loop ?_ | refine r_loop ?_ | refine e_round ?_ | refine r_round ?_ | refine s_round ?_ | refine f_block ?_ (by decide) | refine r_res ?_ | refine n_res ?_)
     | (simp only [hgb, go_sem, Int.reduceToNat, ↓reduceIte, reduceCtorEq, Nat.reduceEqDiff, Nat.reduceAdd, Nat.reduceMul, Nat.reduceLT, Nat.reduceLeDiff, Nat.reduceBEq, Int.reduceBEq, Int.reduceBNe, String.reduceBEq, Int.reduceEq, Int.reduceLT, Int.reduceLE, Int.reduceGE, Int.reduceGT, f0, hlen, vrows_len, callE, resSV, AV.flat, CV.flat, TV.flat]; clear hgb)
     | simp only [go_sem, Int.reduceToNat, ↓reduceIte, reduceCtorEq, Nat.reduceEqDiff, Nat.reduceAdd, Nat.reduceMul, Nat.reduceLT, Nat.reduceLeDiff, Nat.reduceBEq, Int.reduceBEq, Int.reduceBNe, String.reduceBEq, Int.reduceEq, Int.reduceLT, Int.reduceLE, Int.reduceGE, Int.reduceGT, f0, hlen, vrows_len, callE, resSV, AV.flat, CV.flat, TV.flat, hAll]
     | refine Or.inl ⟨_, ⟨fun _ _ => rfl, h1⟩, ?_⟩
     | refine ⟨_, ⟨fun _ _ => rfl, h1⟩, ?_⟩
     | refine Or.inl ⟨_, ⟨fun _ _ => rfl, h2⟩, ?_⟩
     | refine ⟨_, ⟨fun _ _ => rfl, h2⟩, ?_⟩
     | refine Or.inl ⟨_, ⟨fun _ _ => rfl, h3⟩, ?_⟩
     | refine ⟨_, ⟨fun _ _ => rfl, h3⟩, ?_⟩
     | refine Or.inl ⟨_, ⟨fun _ _ => rfl, sure18_spec⟩, ?_⟩
     | refine ⟨_, ⟨fun _ _ => rfl, sure18_spec⟩, ?_⟩
     | (refine ite_guard (fun hg => ?_) (fun hg => ?_) <;> (try simp only [Bool.not_eq_true, Bool.not_eq_false, Decidable.not_not] at hg) <;> (first | have hgb : (_ : Bool) = _ := hg | have hgb := ff hg | have hgb := tt hg))
     | (refine ⟨fun hc => ht _ ?_, fun hc => hf _ ?_⟩ <;> clear ht hf KT KF)
     | fail)
end Go.Proofs.Ytlnilonlaedafaa.Fx
