/- The drawn beginning. -/
import Derived.Test.YtlnilonlaedafaaFxTwin
import Derived.Test.YtlnilonlaedafaaFxNum
namespace Go.Proofs.Ytlnilonlaedafaa.Fx
open Go Go.RowKit
set_option maxRecDepth 100000
set_option linter.unusedSimpArgs false
set_option linter.unusedVariables false
theorem up_set1 (v : List Int) (i : Nat) (x : Int) : (up (ints v)).set i [CV.t (.int .i64 x)] = up (ints (v.set i x)) := by
  simp [up, ints, List.map_set]
theorem upi_get (v : List Int) (i : Nat) : (up (ints v))[i]? = (v[i]?).map fun x => [CV.t (.int .i64 x)] := by
  simp only [up, ints, List.getElem?_map, Option.map_map]; rfl
theorem upi_len (v : List Int) : (up (ints v)).length = v.length := by simp [up, ints]
theorem upi_append (v : List Int) (x : Int) : up (ints v) ++ [[CV.t (.int .i64 x)]] = up (ints (v ++ [x])) := by simp [up, ints]
theorem twin1_own (v : List Int) (hv : Sized v.length) : Spec Try.prog 46 [.v (.t (vec v))] [] [.v (.mr 6 0 v.length)] [(6, .cells 1 (up (ints v)))] := by
  have b1 := tt (show v.length * 8 ≤ 140737488355328 by omega)
  have b2 := tt (show v.length ≤ 9223372036854775807 by omega)
  refine spec_by Try.func46 rfl mixed tOk evOk (n := 7) rfl (by simp) (by simp) ?_
  rw [initSt_mk, show Try.f46.results.toList = [.tmp 2] from rfl]
  simp only [initL, AV.sv, List.map_cons, List.map_nil, Nat.reduceAdd, Nat.zero_add, vec]
  repeat' (first
   | (with_reducible first | refine s_seq ?_ | refine s_block ?_ | refine s_region fun kr hr => ?_)
   | (with_reducible refine s_text tOk [6, 1000, 1001, 1002, 1003] (by kernel_rfl) (by simp [HeapIn, namers, namerDst, namerOp, namedOp, namedFn, ownLoad, Blk.has, hasRows, hasL, CV.has, hasRows_up, hasM_up, hasRows_append, ints_len, b1, b2]; (try ((repeat' apply And.intro) <;> intros <;> omega))) fun kr hr => ?_)
   | (with_reducible first | refine s_op fun K' hk => ?_ | refine t_op fun K' hk => ?_ | (refine hk _ ?_; clear hk K') | (refine ht _ ?_; clear ht hf KT KF) | (refine hf _ ?_; clear ht hf KT KF) | ((first | refine s_nil ?_ | refine t_nil ?_); refine hr _ ?_; clear hr kr))
   | ((with_reducible refine n_seqK [0, 1, 2, 3] [6] ?_); simp only [mk_keep, keepL, List.mem_cons, List.not_mem_nil, Nat.reduceEqDiff, Nat.zero_ne_one, Nat.one_ne_zero, reduceCtorEq, or_false, false_or, or_true, true_or, or_self, eq_self, ↓reduceIte])
   | (with_reducible first | refine s_cond fun KT KF ht hf => ?_ | refine s_skip ?_)
   | ((with_reducible refine s_long ?_); simp only [List.cons_append, List.nil_append])
   | (with_reducible first | refine s_exit ?_ | refine s_ret ?_ | refine e_seq ?_ | refine r_seq ?_ | refine n_block ?_ | refine e_block ?_ | refine r_block ?_ | refine e_loop ?_ | refine r_loop ?_ | refine e_round ?_ | refine r_round ?_ | refine s_round ?_ | refine f_block ?_ (by decide) | refine r_res ?_ | refine n_res ?_)
   | (simp only [hgb, go_sem, Int.reduceToNat, ↓reduceIte, reduceCtorEq, Nat.reduceEqDiff, Nat.reduceAdd, Nat.reduceMul, Nat.reduceLT, Nat.reduceLeDiff, Nat.reduceBEq, Int.reduceBEq, Int.reduceBNe, String.reduceBEq, Int.reduceEq, Int.reduceLT, Int.reduceLE, Int.reduceGE, Int.reduceGT, ints_len, b1, b2]; clear hgb)
   | simp only [go_sem, Int.reduceToNat, ↓reduceIte, reduceCtorEq, Nat.reduceEqDiff, Nat.reduceAdd, Nat.reduceMul, Nat.reduceLT, Nat.reduceLeDiff, Nat.reduceBEq, Int.reduceBEq, Int.reduceBNe, String.reduceBEq, Int.reduceEq, Int.reduceLT, Int.reduceLE, Int.reduceGE, Int.reduceGT, ints_len, b1, b2, hAll]
   | (refine ite_guard (fun hg => ?_) (fun hg => ?_) <;> (try simp only [Bool.not_eq_true, Bool.not_eq_false, Decidable.not_not] at hg) <;> (first | have hgb : (_ : Bool) = _ := hg | have hgb := ff hg | have hgb := tt hg))
   | (refine ⟨fun hc => ht _ ?_, fun hc => hf _ ?_⟩ <;> clear ht hf KT KF)
   | fail)
/-- The places behind k swps, and the seed. -/
def swp (p : List Int) (a b : Nat) : List Int := (p.set a (p.getD b 0)).set b (p.getD a 0)
def stK (n : Nat) (seed : Int) : Nat → List Int × Int
  | 0 => ((List.range n).map (fun (i : Nat) => (i : Int)), seed)
  | i + 1 => (swp (stK n seed i).1 i (i + (belowN (stK n seed i).2 ((n : Int) - i)).toNat), belowS (stK n seed i).2 ((n : Int) - i))
theorem stK_len (n : Nat) (seed : Int) : ∀ k, (stK n seed k).1.length = n
  | 0 => by simp [stK]
  | k + 1 => by simp [stK, swp, stK_len n seed k]
theorem swp_mem {p : List Int} {a b : Nat} (ha : a < p.length) (hb : b < p.length) {x : Int} (h : x ∈ swp p a b) : x ∈ p := by
  unfold swp at h
  rcases List.mem_or_eq_of_mem_set h with h | h
  · rcases List.mem_or_eq_of_mem_set h with h | h
    · exact h
    · subst h; simp [hb]
  · subst h; simp [ha]
theorem stK_mem (n : Nat) (seed : Int) : ∀ k, k ≤ n → ∀ x ∈ (stK n seed k).1, 0 ≤ x ∧ x < n
  | 0, _, x, h => by
    simp [stK] at h
    obtain ⟨i, hi, rfl⟩ := h
    omega
  | k + 1, hk, x, h => by
    have hb := belowN_range (s := (stK n seed k).2) (n := (n : Int) - k) (by omega)
    exact stK_mem n seed k (by omega) x (swp_mem (by rw [stK_len]; omega) (by rw [stK_len]; omega) h)
/-- What is drawn in round i. -/
def pick (l : List (List Int)) (seed : Int) (i : Nat) : List Int := l.getD ((stK l.length seed (i + 1)).1.getD i 0).toNat []
def start (l : List (List Int)) (k : Int) (seed : Int) : List (List Int) := (List.range (min k l.length).toNat).map (pick l seed)
/-- The numbers up to k, and noughts. -/
def upTo (n k : Nat) : List Int := (List.range n).map fun (i : Nat) => if i < k then (i : Int) else 0
theorem upTo_set {n k : Nat} (h : k < n) : (upTo n k).set k (k : Int) = upTo n (k + 1) := by
  apply List.ext_getElem
  · simp [upTo]
  · intro i h1 h2
    simp only [upTo, List.length_set, List.length_map, List.length_range] at h1
    by_cases e : k = i
    · subst e; simp [upTo]
    · rw [List.getElem_set_ne e]; simp [upTo]; grind
theorem upTo_all (n : Nat) (seed : Int) : upTo n n = (stK n seed 0).1 := by
  simp only [upTo, stK]
  refine List.map_congr_left fun i h => ?_
  rw [List.mem_range] at h
  rw [if_pos h]
theorem upTo_zero (n : Nat) : List.replicate n [CV.t (.int .i64 0)] = up (ints (upTo n 0)) := by
  symm; rw [List.eq_replicate_iff]; simp [up, ints, upTo]
theorem stK_seed_le (n : Nat) (h : n ≤ 5864062014634) (k : Nat) : (n : Int) - k ≤ 9223372036854775807 := by omega
/-- What is drawn, each held by its cell. -/
def drawnRows (l : List (List Int)) (seed : Int) (k : Nat) : List (List Int) := (List.range k).map (pick l seed)
theorem drawnRows_succ (l : List (List Int)) (seed : Int) (k : Nat) : drawnRows l seed (k + 1) = drawnRows l seed k ++ [pick l seed k] := by
  simp [drawnRows, List.range_succ]
theorem drawnRows_len (l : List (List Int)) (seed : Int) (k : Nat) : (drawnRows l seed k).length = k := by simp [drawnRows]
theorem orows_snoc (l : List (List Int)) (v : List Int) : orows (l ++ [v]) = orows l ++ [[lcell 1 (up (ints v))]] := by
  unfold orows lrows
  rw [List.map_append, List.map_append]; rfl
theorem start_spec (l : List (List Int)) (k seed : Int) (hl : SizedAll l) (hk0 : -9223372036854775808 ≤ k ∧ k ≤ 9223372036854775807) : Spec Try.prog 24 [.v (.t (vecs l)), .v (.t (.int .i64 k)), .v (.t (.int .u64 seed))] [] [.v (.t (vecs (start l k seed)))] [] := by
  have hl1 := hl.1
  have c1 := tt (show 0 ≤ (l.length : Int) by omega)
  have c2 := tt (show (l.length : Int) ≤ 9223372036854775807 by omega)
  have c3 := tt (show (l.length : Int) * ((8 : Nat) : Int) ≤ 140737488355328 by omega)
  have c5 := tt (show (l.length : Int) * 8 ≤ 140737488355328 by omega)
  have c4 := upTo_zero l.length
  refine spec_by Try.func24 rfl mixed tOk evOk (n := 74) rfl (by simp) (by simp) ?_
  rw [initSt_mk, show Try.f24.results.toList = [.tmp 6] from rfl]
  simp only [initL, AV.sv, List.map_cons, List.map_nil, Nat.reduceAdd, Nat.zero_add, vecs_eq]
  repeat' (first
   | (with_reducible first | refine s_seq ?_ | refine s_block ?_ | refine s_region fun kr hr => ?_)
   | (with_reducible refine s_text tOk [15, 70, 71, 72, 1000, 1001, 1002, 1003] (by kernel_rfl) (by simp [HeapIn, namers, namerDst, namerOp, namedOp, namedFn, ownLoad, Blk.has, hasRows, hasL, CV.has, hasRows_up, hasM_up, hasRows_append, vrows_len, c1, c2, c3, c4, c5]; (try ((repeat' apply And.intro) <;> intros <;> omega))) fun kr hr => ?_)
   | (with_reducible first | refine s_op fun K' hk => ?_ | refine t_op fun K' hk => ?_ | (refine hk _ ?_; clear hk K') | (refine ht _ ?_; clear ht hf KT KF) | (refine hf _ ?_; clear ht hf KT KF) | ((first | refine s_nil ?_ | refine t_nil ?_); refine hr _ ?_; clear hr kr))
   | ((with_reducible refine n_seqK [0, 1, 2, 3, 4, 5, 6, 7, 8, 9, 10, 11, 12, 17, 18, 19, 22, 23, 31, 32, 49] [15, 70, 71, 72] ?_); simp only [mk_keep, keepL, List.mem_cons, List.not_mem_nil, Nat.reduceEqDiff, Nat.zero_ne_one, Nat.one_ne_zero, reduceCtorEq, or_false, false_or, or_true, true_or, or_self, eq_self, ↓reduceIte])
   | (with_reducible first | refine s_cond fun KT KF ht hf => ?_ | refine s_skip ?_)
   | ((with_reducible refine s_long ?_); simp only [List.cons_append, List.nil_append])
   | (with_reducible first | refine s_exit ?_ | refine s_ret ?_ | refine e_seq ?_ | refine r_seq ?_ | refine n_block ?_ | refine e_block ?_ | refine r_block ?_ | refine e_loop ?_ | refine r_loop ?_ | refine e_round ?_ | refine r_round ?_ | refine s_round ?_ | refine f_block ?_ (by decide) | refine r_res ?_ | refine n_res ?_)
   | (simp only [hgb, go_sem, Int.reduceToNat, ↓reduceIte, reduceCtorEq, Nat.reduceEqDiff, Nat.reduceAdd, Nat.reduceMul, Nat.reduceLT, Nat.reduceLeDiff, Nat.reduceBEq, Int.reduceBEq, Int.reduceBNe, String.reduceBEq, Int.reduceEq, Int.reduceLT, Int.reduceLE, Int.reduceGE, Int.reduceGT, vrows_len, c1, c2, c3, c4, c5]; clear hgb)
   | simp only [go_sem, Int.reduceToNat, ↓reduceIte, reduceCtorEq, Nat.reduceEqDiff, Nat.reduceAdd, Nat.reduceMul, Nat.reduceLT, Nat.reduceLeDiff, Nat.reduceBEq, Int.reduceBEq, Int.reduceBNe, String.reduceBEq, Int.reduceEq, Int.reduceLT, Int.reduceLE, Int.reduceGE, Int.reduceGT, vrows_len, c1, c2, c3, c4, c5, hAll]
   | (refine ite_guard (fun hg => ?_) (fun hg => ?_) <;> (try simp only [Bool.not_eq_true, Bool.not_eq_false, Decidable.not_not] at hg) <;> (first | have hgb : (_ : Bool) = _ := hg | have hgb := ff hg | have hgb := tt hg))
   | (refine ⟨fun hc => ht _ ?_, fun hc => hf _ ?_⟩ <;> clear ht hf KT KF)
   | fail)
  refine w_loop [0, 1, 2, 6, 7, 17, 18] [15] (σ := Nat) (fun i st => st = mk [(0, V (.sl 1 (vrows l))), (1, I k), (2, V (.int .u64 seed)), (6, .c (.own 1 [])), (7, .c (.mr 15 0 l.length)), (17, I l.length), (18, I i)] [(15, .cells 1 (up (ints (upTo l.length i))))] ∧ i ≤ l.length) (fun i => l.length - i) 0 ?_ ?_
  · simp only [go_sem, Int.reduceToNat, ↓reduceIte, reduceCtorEq, Nat.reduceEqDiff, Nat.reduceAdd, Nat.reduceMul, Nat.reduceLT, Nat.reduceLeDiff, Nat.reduceBEq, Int.reduceBEq, Int.reduceBNe, String.reduceBEq, Int.reduceEq, Int.reduceLT, Int.reduceLE, Int.reduceGE, Int.reduceGT, mk_keep, keepL, List.mem_cons, List.not_mem_nil, Nat.reduceEqDiff, Nat.zero_ne_one, Nat.one_ne_zero, reduceCtorEq, or_false, false_or, or_true, true_or, or_self, eq_self, ↓reduceIte]
    first | exact ⟨rfl, Nat.zero_le _⟩ | exact Nat.zero_le _
  · rintro i st' ⟨rfl, hi⟩
    by_cases hlt : i < l.length
    · have f1 := ltI hlt
      have f3 := wUp hlt (by omega)
      have hlu : (upTo l.length i).length = l.length := by simp [upTo]
      have f2 : (upTo l.length i)[i]? = some ((upTo l.length i)[i]'(by omega)) := List.getElem?_eq_getElem (by omega)
      repeat' (first
       | (with_reducible first | refine s_seq ?_ | refine s_block ?_ | refine s_region fun kr hr => ?_)
       | (with_reducible refine s_text tOk [15, 70, 71, 72, 1000, 1001, 1002, 1003] (by kernel_rfl) (by simp [HeapIn, namers, namerDst, namerOp, namedOp, namedFn, ownLoad, Blk.has, hasRows, hasL, CV.has, hasRows_up, hasM_up, hasRows_append, f1, f2, f3, upi_get, upi_len, hlu, up_set1, upTo_set hlt]; (try ((repeat' apply And.intro) <;> intros <;> omega))) fun kr hr => ?_)
       | (with_reducible first | refine s_op fun K' hk => ?_ | refine t_op fun K' hk => ?_ | (refine hk _ ?_; clear hk K') | (refine ht _ ?_; clear ht hf KT KF) | (refine hf _ ?_; clear ht hf KT KF) | ((first | refine s_nil ?_ | refine t_nil ?_); refine hr _ ?_; clear hr kr))
       | ((with_reducible refine n_seqK [0, 1, 2, 3, 4, 5, 6, 7, 8, 9, 10, 11, 12, 17, 18, 19, 22, 23, 31, 32, 49] [15, 70, 71, 72] ?_); simp only [mk_keep, keepL, List.mem_cons, List.not_mem_nil, Nat.reduceEqDiff, Nat.zero_ne_one, Nat.one_ne_zero, reduceCtorEq, or_false, false_or, or_true, true_or, or_self, eq_self, ↓reduceIte])
       | (with_reducible first | refine s_cond fun KT KF ht hf => ?_ | refine s_skip ?_)
       | ((with_reducible refine s_long ?_); simp only [List.cons_append, List.nil_append])
       | (with_reducible first | refine s_exit ?_ | refine s_ret ?_ | refine e_seq ?_ | refine r_seq ?_ | refine n_block ?_ | refine e_block ?_ | refine r_block ?_ | refine e_loop ?_ | refine r_loop ?_ | refine e_round ?_ | refine r_round ?_ | refine s_round ?_ | refine f_block ?_ (by decide) | refine r_res ?_ | refine n_res ?_)
       | (simp only [hgb, go_sem, Int.reduceToNat, ↓reduceIte, reduceCtorEq, Nat.reduceEqDiff, Nat.reduceAdd, Nat.reduceMul, Nat.reduceLT, Nat.reduceLeDiff, Nat.reduceBEq, Int.reduceBEq, Int.reduceBNe, String.reduceBEq, Int.reduceEq, Int.reduceLT, Int.reduceLE, Int.reduceGE, Int.reduceGT, f1, f2, f3, upi_get, upi_len, hlu, up_set1, upTo_set hlt]; clear hgb)
       | simp only [go_sem, Int.reduceToNat, ↓reduceIte, reduceCtorEq, Nat.reduceEqDiff, Nat.reduceAdd, Nat.reduceMul, Nat.reduceLT, Nat.reduceLeDiff, Nat.reduceBEq, Int.reduceBEq, Int.reduceBNe, String.reduceBEq, Int.reduceEq, Int.reduceLT, Int.reduceLE, Int.reduceGE, Int.reduceGT, f1, f2, f3, upi_get, upi_len, hlu, up_set1, upTo_set hlt, hAll]
       | (refine ite_guard (fun hg => ?_) (fun hg => ?_) <;> (try simp only [Bool.not_eq_true, Bool.not_eq_false, Decidable.not_not] at hg) <;> (first | have hgb : (_ : Bool) = _ := hg | have hgb := ff hg | have hgb := tt hg))
       | (refine ⟨fun hc => ht _ ?_, fun hc => hf _ ?_⟩ <;> clear ht hf KT KF)
       | fail)
      refine n_loop (i + 1) [0, 1, 2, 6, 7, 17, 18] [15] ⟨?_, hlt⟩ (by omega)
      simp only [mk_keep, keepL, List.mem_cons, List.not_mem_nil, Nat.reduceEqDiff, Nat.zero_ne_one, Nat.one_ne_zero, reduceCtorEq, or_false, false_or, or_true, true_or, or_self, eq_self, ↓reduceIte]
    · have f1 := nltI hlt
      obtain rfl : i = l.length := by omega
      repeat' (first
       | (with_reducible first | refine s_seq ?_ | refine s_block ?_ | refine s_region fun kr hr => ?_)
       | (with_reducible refine s_text tOk [15, 70, 71, 72, 1000, 1001, 1002, 1003] (by kernel_rfl) (by simp [HeapIn, namers, namerDst, namerOp, namedOp, namedFn, ownLoad, Blk.has, hasRows, hasL, CV.has, hasRows_up, hasM_up, hasRows_append, f1, upTo_all l.length seed]; (try ((repeat' apply And.intro) <;> intros <;> omega))) fun kr hr => ?_)
       | (with_reducible first | refine s_op fun K' hk => ?_ | refine t_op fun K' hk => ?_ | (refine hk _ ?_; clear hk K') | (refine ht _ ?_; clear ht hf KT KF) | (refine hf _ ?_; clear ht hf KT KF) | ((first | refine s_nil ?_ | refine t_nil ?_); refine hr _ ?_; clear hr kr))
       | ((with_reducible refine n_seqK [0, 1, 2, 3, 4, 5, 6, 7, 8, 9, 10, 11, 12, 17, 18, 19, 22, 23, 31, 32, 49] [15, 70, 71, 72] ?_); simp only [mk_keep, keepL, List.mem_cons, List.not_mem_nil, Nat.reduceEqDiff, Nat.zero_ne_one, Nat.one_ne_zero, reduceCtorEq, or_false, false_or, or_true, true_or, or_self, eq_self, ↓reduceIte])
       | (with_reducible first | refine s_cond fun KT KF ht hf => ?_ | refine s_skip ?_)
       | ((with_reducible refine s_long ?_); simp only [List.cons_append, List.nil_append])
       | (with_reducible first | refine s_exit ?_ | refine s_ret ?_ | refine e_seq ?_ | refine r_seq ?_ | refine n_block ?_ | refine e_block ?_ | refine r_block ?_ | refine e_loop ?_ | refine r_loop ?_ | refine e_round ?_ | refine r_round ?_ | refine s_round ?_ | refine f_block ?_ (by decide) | refine r_res ?_ | refine n_res ?_)
       | (simp only [hgb, go_sem, Int.reduceToNat, ↓reduceIte, reduceCtorEq, Nat.reduceEqDiff, Nat.reduceAdd, Nat.reduceMul, Nat.reduceLT, Nat.reduceLeDiff, Nat.reduceBEq, Int.reduceBEq, Int.reduceBNe, String.reduceBEq, Int.reduceEq, Int.reduceLT, Int.reduceLE, Int.reduceGE, Int.reduceGT, f1, upTo_all l.length seed]; clear hgb)
       | simp only [go_sem, Int.reduceToNat, ↓reduceIte, reduceCtorEq, Nat.reduceEqDiff, Nat.reduceAdd, Nat.reduceMul, Nat.reduceLT, Nat.reduceLeDiff, Nat.reduceBEq, Int.reduceBEq, Int.reduceBNe, String.reduceBEq, Int.reduceEq, Int.reduceLT, Int.reduceLE, Int.reduceGE, Int.reduceGT, f1, upTo_all l.length seed, hAll]
       | (refine ite_guard (fun hg => ?_) (fun hg => ?_) <;> (try simp only [Bool.not_eq_true, Bool.not_eq_false, Decidable.not_not] at hg) <;> (first | have hgb : (_ : Bool) = _ := hg | have hgb := ff hg | have hgb := tt hg))
       | (refine ⟨fun hc => ht _ ?_, fun hc => hf _ ?_⟩ <;> clear ht hf KT KF)
       | fail)
      refine w_loopG _ (gho_nilName (s := 9) (d := 72) (sz := 1) (by decide) ⟨1, rfl⟩ (by rw [fresh_t]; exact trivial; simp only [freshL, Blk.has, hasRows_up]; rfl)) ?_
      rw [mk_nilName]
      refine w_loop [0, 1, 2, 6, 7, 9, 10] [15, 72] (σ := Nat) (fun i st => st = mk [(0, V (.sl 1 (vrows l))), (1, I k), (2, V (.int .u64 (stK l.length seed i).2)), (6, .c (.own 1 [])), (7, .c (.mr 15 0 l.length)), (9, .c (.mr 72 0 i)), (10, I i)] [(15, .cells 1 (up (ints (stK l.length seed i).1))), (72, .cells 1 (orows (drawnRows l seed i)))] ∧ (i : Int) ≤ max 0 (min k l.length)) (fun i => l.length - i) 0 ?_ ?_
      · simp only [go_sem, Int.reduceToNat, ↓reduceIte, reduceCtorEq, Nat.reduceEqDiff, Nat.reduceAdd, Nat.reduceMul, Nat.reduceLT, Nat.reduceLeDiff, Nat.reduceBEq, Int.reduceBEq, Int.reduceBNe, String.reduceBEq, Int.reduceEq, Int.reduceLT, Int.reduceLE, Int.reduceGE, Int.reduceGT, mk_keep, keepL, List.mem_cons, List.not_mem_nil, Nat.reduceEqDiff, Nat.zero_ne_one, Nat.one_ne_zero, reduceCtorEq, or_false, false_or, or_true, true_or, or_self, eq_self, ↓reduceIte]
        exact ⟨rfl, by omega⟩
      · rintro i st' ⟨rfl, hi⟩
        by_cases hlt : (i : Int) < min k l.length
        · have hin : i < l.length := by omega
          have f3 := wUp hin (by omega)
          have fw : IntKind.wrap .i64 ((l.length : Int) - (i : Int)) = (l.length : Int) - i := wI (by omega) (by omega)
          have hbr := belowN_range (s := (stK l.length seed i).2) (n := (l.length : Int) - i) (by omega)
          obtain ⟨j, hj⟩ : ∃ j : Nat, belowN (stK l.length seed i).2 ((l.length : Int) - i) = (j : Int) := ⟨_, (Int.toNat_of_nonneg hbr.1).symm⟩
          have hij : i + j < l.length := by omega
          have fij : IntKind.wrap .i64 ((i : Int) + (j : Int)) = ((i + j : Nat) : Int) := by rw [wI (by omega) (by omega)]; omega
          have hpl := stK_len l.length seed i
          generalize hp : (stK l.length seed i).1 = p at hpl ⊢
          have g1 : p[i]? = some (p[i]'(by omega)) := List.getElem?_eq_getElem _
          have g2 : p[i + j]? = some (p[i + j]'(by omega)) := List.getElem?_eq_getElem _
          have g5 : (p.set i (p[i + j]'(by omega)))[i + j]? = some ((p.set i (p[i + j]'(by omega)))[i + j]'(by simp; omega)) := List.getElem?_eq_getElem _
          have hsw : (p.set i (p[i + j]'(by omega))).set (i + j) (p[i]'(by omega)) = (stK l.length seed (i + 1)).1 := by
            simp only [stK, swp, hp, hj, Int.toNat_natCast]
            rw [List.getD_eq_getElem?_getD, List.getD_eq_getElem?_getD, g1, g2]; rfl
          have hs2 : (stK l.length seed (i + 1)).2 = belowS (stK l.length seed i).2 ((l.length : Int) - i) := rfl
          have hpl1 := stK_len l.length seed (i + 1)
          have hm1 := stK_mem l.length seed (i + 1) (by omega)
          generalize hq : (stK l.length seed (i + 1)).1 = q at *
          obtain ⟨m, hm⟩ : ∃ m : Nat, q[i]'(by omega) = (m : Int) := ⟨_, (Int.toNat_of_nonneg (hm1 _ (List.getElem_mem (by omega))).1).symm⟩
          have hml : m < l.length := by have := hm1 _ (List.getElem_mem (show i < q.length by omega)); omega
          have g3 : q[i]? = some (m : Int) := by rw [List.getElem?_eq_getElem (by omega), hm]
          have g4 := get_of_lt hml
          have hpk : pick l seed i = l[m] := by
            simp only [pick, hq]
            have : q.getD i 0 = (m : Int) := by rw [List.getD_eq_getElem?_getD, g3]; rfl
            rw [this, Int.toNat_natCast, List.getD_eq_getElem?_getD, g4]; rfl
          have hv := hl.at hml
          have b1 := tt (show l[m].length * 8 ≤ 140737488355328 by omega)
          have b2 := tt (show l[m].length ≤ 9223372036854775807 by omega)
          have b3 := tt (show (i + 1) * 24 ≤ 140737488355328 by omega)
          have b4 := tt (show i ≤ 9223372036854775806 by omega)
          have hn : (orows (drawnRows l seed i)).length = i := by rw [orows_length, drawnRows_len]
          have ht : (orows (drawnRows l seed i)).take i = orows (drawnRows l seed i) := List.take_of_length_le (by omega)
          have b5 := tt (show (i : Int) < l.length by omega)
          have b7 := tt (show ((i + j : Nat) : Int) < l.length by omega)
          have b8 := tt (show (m : Int) < l.length by omega)
          have b9 := tt (show (i : Int) < (if (l.length : Int) < k then (l.length : Int) else k) by split <;> omega)
          have b6 := below_spec (stK l.length seed i).2 ((l.length : Int) - i) (by omega)
          rw [hj] at b6
          repeat' (first
           | (with_reducible first | refine s_seq ?_ | refine s_block ?_ | refine s_region fun kr hr => ?_)
           | (with_reducible refine s_text tOk [15, 70, 71, 72, 1000, 1001, 1002, 1003] (by kernel_rfl) (by simp [HeapIn, namers, namerDst, namerOp, namedOp, namedFn, ownLoad, Blk.has, hasRows, hasL, CV.has, hasRows_up, hasM_up, hasRows_append, f3, fw, fij, g1, g2, g3, g4, g5, b1, b2, b3, b4, b5, b7, b8, b9, hn, ht, hpl, hsw, orows_has, upi_get, upi_len, up_set1, vrows_get, vrows_len, vec_eq, ints_len]; (try ((repeat' apply And.intro) <;> intros <;> omega))) fun kr hr => ?_)
           | (with_reducible first | refine s_op fun K' hk => ?_ | refine t_op fun K' hk => ?_ | (refine hk _ ?_; clear hk K') | (refine ht _ ?_; clear ht hf KT KF) | (refine hf _ ?_; clear ht hf KT KF) | ((first | refine s_nil ?_ | refine t_nil ?_); refine hr _ ?_; clear hr kr))
           | ((with_reducible refine n_seqK [0, 1, 2, 3, 4, 5, 6, 7, 8, 9, 10, 11, 12, 17, 18, 19, 22, 23, 31, 32, 49] [15, 70, 71, 72] ?_); simp only [mk_keep, keepL, List.mem_cons, List.not_mem_nil, Nat.reduceEqDiff, Nat.zero_ne_one, Nat.one_ne_zero, reduceCtorEq, or_false, false_or, or_true, true_or, or_self, eq_self, ↓reduceIte])
           | (with_reducible first | refine s_cond fun KT KF ht hf => ?_ | refine s_skip ?_)
           | ((with_reducible refine s_long ?_); simp only [List.cons_append, List.nil_append])
           | (with_reducible first | refine s_exit ?_ | refine s_ret ?_ | refine e_seq ?_ | refine r_seq ?_ | refine n_block ?_ | refine e_block ?_ | refine r_block ?_ | refine e_loop ?_ | refine r_loop ?_ | refine e_round ?_ | refine r_round ?_ | refine s_round ?_ | refine f_block ?_ (by decide) | refine r_res ?_ | refine n_res ?_)
           | (simp only [hgb, go_sem, Int.reduceToNat, ↓reduceIte, reduceCtorEq, Nat.reduceEqDiff, Nat.reduceAdd, Nat.reduceMul, Nat.reduceLT, Nat.reduceLeDiff, Nat.reduceBEq, Int.reduceBEq, Int.reduceBNe, String.reduceBEq, Int.reduceEq, Int.reduceLT, Int.reduceLE, Int.reduceGE, Int.reduceGT, f3, fw, fij, g1, g2, g3, g4, g5, b1, b2, b3, b4, b5, b7, b8, b9, hn, ht, hpl, hsw, orows_has, upi_get, upi_len, up_set1, vrows_get, vrows_len, vec_eq, ints_len, callE, resSV, AV.flat, CV.flat, TV.flat]; clear hgb)
           | simp only [go_sem, Int.reduceToNat, ↓reduceIte, reduceCtorEq, Nat.reduceEqDiff, Nat.reduceAdd, Nat.reduceMul, Nat.reduceLT, Nat.reduceLeDiff, Nat.reduceBEq, Int.reduceBEq, Int.reduceBNe, String.reduceBEq, Int.reduceEq, Int.reduceLT, Int.reduceLE, Int.reduceGE, Int.reduceGT, f3, fw, fij, g1, g2, g3, g4, g5, b1, b2, b3, b4, b5, b7, b8, b9, hn, ht, hpl, hsw, orows_has, upi_get, upi_len, up_set1, vrows_get, vrows_len, vec_eq, ints_len, callE, resSV, AV.flat, CV.flat, TV.flat, hAll]
           | refine Or.inl ⟨_, ⟨fun _ _ => rfl, b6⟩, ?_⟩
           | refine ⟨_, ⟨fun _ _ => rfl, b6⟩, ?_⟩
           | (refine ite_guard (fun hg => ?_) (fun hg => ?_) <;> (try simp only [Bool.not_eq_true, Bool.not_eq_false, Decidable.not_not] at hg) <;> (first | have hgb : (_ : Bool) = _ := hg | have hgb := ff hg | have hgb := tt hg))
           | (refine ⟨fun hc => ht _ ?_, fun hc => hf _ ?_⟩ <;> clear ht hf KT KF)
           | fail)
          have hup : (up (ints l[m])).length = l[m].length := by rw [up_length, ints_len]
          refine n_loopG _ (gho_foldL (k := 72) (i := i) (j := 0) (nm := 70) (sz := 1) (sz' := 1) (rows := orows (drawnRows l seed i) ++ [[.mr 70 0 l[m].length]]) (rows' := up (ints l[m])) (row := [.mr 70 0 l[m].length]) (by decide) (by simp [mk_heap, hL]) (by simp [mk_heap, hL]) (by rw [List.getElem?_append_right (by omega), hn]; simp) (by rw [hup]; rfl)) ?_
          rw [mk_fold]
          refine n_loop (i + 1) [0, 1, 2, 6, 7, 9, 10] [15, 72] ⟨?_, by omega⟩ (by omega)
          have hmod := modify_last (orows (drawnRows l seed i)) (.mr 70 0 l[m].length) (lcell 1 (up (ints l[m])))
          rw [hn] at hmod
          simp only [go_sem, Int.reduceToNat, ↓reduceIte, reduceCtorEq, Nat.reduceEqDiff, Nat.reduceAdd, Nat.reduceMul, Nat.reduceLT, Nat.reduceLeDiff, Nat.reduceBEq, Int.reduceBEq, Int.reduceBNe, String.reduceBEq, Int.reduceEq, Int.reduceLT, Int.reduceLE, Int.reduceGE, Int.reduceGT, mk_keep, keepL, List.mem_cons, List.not_mem_nil, Nat.reduceEqDiff, Nat.zero_ne_one, Nat.one_ne_zero, reduceCtorEq, or_false, false_or, or_true, true_or, or_self, eq_self, ↓reduceIte, hmod, drawnRows_succ, orows_snoc, hpk, hs2, hq]
        · have b9 := ff (show ¬ (i : Int) < (if (l.length : Int) < k then (l.length : Int) else k) by split <;> omega)
          have hik : (min k l.length).toNat = i := by omega
          rw [show start l k seed = drawnRows l seed i from by rw [start, hik]; rfl]
          have hn : (orows (drawnRows l seed i)).length = i := by rw [orows_length, drawnRows_len]
          have ht : (orows (drawnRows l seed i)).take i = orows (drawnRows l seed i) := List.take_of_length_le (by omega)
          repeat' (first
           | (with_reducible first | refine s_seq ?_ | refine s_block ?_ | refine s_region fun kr hr => ?_)
           | (with_reducible refine s_text tOk [15, 70, 71, 72, 1000, 1001, 1002, 1003] (by kernel_rfl) (by simp [HeapIn, namers, namerDst, namerOp, namedOp, namedFn, ownLoad, Blk.has, hasRows, hasL, CV.has, hasRows_up, hasM_up, hasRows_append, b9, hn, ht, vrows_len, orows_view, vecs_eq]; (try ((repeat' apply And.intro) <;> intros <;> omega))) fun kr hr => ?_)
           | (with_reducible first | refine s_op fun K' hk => ?_ | refine t_op fun K' hk => ?_ | (refine hk _ ?_; clear hk K') | (refine ht _ ?_; clear ht hf KT KF) | (refine hf _ ?_; clear ht hf KT KF) | ((first | refine s_nil ?_ | refine t_nil ?_); refine hr _ ?_; clear hr kr))
           | ((with_reducible refine n_seqK [0, 1, 2, 3, 4, 5, 6, 7, 8, 9, 10, 11, 12, 17, 18, 19, 22, 23, 31, 32, 49] [15, 70, 71, 72] ?_); simp only [mk_keep, keepL, List.mem_cons, List.not_mem_nil, Nat.reduceEqDiff, Nat.zero_ne_one, Nat.one_ne_zero, reduceCtorEq, or_false, false_or, or_true, true_or, or_self, eq_self, ↓reduceIte])
           | (with_reducible first | refine s_cond fun KT KF ht hf => ?_ | refine s_skip ?_)
           | ((with_reducible refine s_long ?_); simp only [List.cons_append, List.nil_append])
           | (with_reducible first | refine s_exit ?_ | refine s_ret ?_ | refine e_seq ?_ | refine r_seq ?_ | refine n_block ?_ | refine e_block ?_ | refine r_block ?_ | refine e_loop ?_ | refine r_loop ?_ | refine e_round ?_ | refine r_round ?_ | refine s_round ?_ | refine f_block ?_ (by decide) | refine r_res ?_ | refine n_res ?_)
           | (simp only [hgb, go_sem, Int.reduceToNat, ↓reduceIte, reduceCtorEq, Nat.reduceEqDiff, Nat.reduceAdd, Nat.reduceMul, Nat.reduceLT, Nat.reduceLeDiff, Nat.reduceBEq, Int.reduceBEq, Int.reduceBNe, String.reduceBEq, Int.reduceEq, Int.reduceLT, Int.reduceLE, Int.reduceGE, Int.reduceGT, b9, hn, ht, vrows_len, orows_view, vecs_eq]; clear hgb)
           | simp only [go_sem, Int.reduceToNat, ↓reduceIte, reduceCtorEq, Nat.reduceEqDiff, Nat.reduceAdd, Nat.reduceMul, Nat.reduceLT, Nat.reduceLeDiff, Nat.reduceBEq, Int.reduceBEq, Int.reduceBNe, String.reduceBEq, Int.reduceEq, Int.reduceLT, Int.reduceLE, Int.reduceGE, Int.reduceGT, b9, hn, ht, vrows_len, orows_view, vecs_eq, hAll]
           | (refine ite_guard (fun hg => ?_) (fun hg => ?_) <;> (try simp only [Bool.not_eq_true, Bool.not_eq_false, Decidable.not_not] at hg) <;> (first | have hgb : (_ : Bool) = _ := hg | have hgb := ff hg | have hgb := tt hg))
           | (refine ⟨fun hc => ht _ ?_, fun hc => hf _ ?_⟩ <;> clear ht hf KT KF)
           | fail)
end Go.Proofs.Ytlnilonlaedafaa.Fx
