/- The law of the steps. -/
import Derived.Test.YtlnilonlaedafaaFxTrainRef
namespace Go.Proofs.Ytlnilonlaedafaa.Fx
open Go Go.RowKit
set_option maxRecDepth 100000
set_option linter.unusedSimpArgs false
set_option linter.unusedVariables false
/-- Rows, the first k turned to -77. -/
def turned (g : List (List Int)) (k : Nat) : List (List CV) := (List.range g.length).map fun i => if i < k then [CV.own 1 (up (ints (List.replicate (g.getD i []).length (-77))))] else [CV.own 1 (up (ints (g.getD i [])))]
theorem turned_len (g : List (List Int)) (k : Nat) : (turned g k).length = g.length := by simp [turned]
theorem turned_get {g : List (List Int)} {k : Nat} (h : k < g.length) : (turned g k)[k]? = some [CV.own 1 (up (ints g[k]))] := by simp [turned, h]
theorem turned_has {nm : Nat} (g : List (List Int)) (k : Nat) : hasRows nm (turned g k) = false := by
  have : ∀ l : List Nat, hasRows nm (l.map fun i => if i < k then [CV.own 1 (up (ints (List.replicate (g.getD i []).length (-77))))] else [CV.own 1 (up (ints (g.getD i [])))]) = false := by
    intro l
    induction l with
    | nil => rfl
    | cons a t ih =>
      simp only [List.map_cons, hasRows, ih, Bool.or_false]
      split <;> simp only [hasL, CV.has, hasRows_up, Bool.or_false]
  exact this _
theorem turned_succ {g : List (List Int)} {k : Nat} (h : k < g.length) : (turned g k).set k [CV.own 1 (up (ints (List.replicate g[k].length (-77))))] = turned g (k + 1) := by
  apply List.ext_getElem
  · simp [turned]
  · intro i h1 h2
    by_cases e : k = i
    · subst e; simp [turned, h]
    · rw [List.getElem_set_ne e]; simp [turned]; grind
theorem turned_zero {g : List (List Int)} (hg : ∀ v ∈ g, v ≠ []) : orows g = turned g 0 := by
  apply List.ext_getElem
  · simp [turned, orows, lrows]
  · intro i h1 h2
    have hi : i < g.length := by simpa [turned] using h2
    have h3 := hg _ (List.getElem_mem hi)
    have h4 : up (ints g[i]) ≠ [] := by
      intro e
      have := congrArg List.length e
      rw [upi_len] at this
      exact h3 (List.length_eq_zero_iff.1 (by simpa using this))
    simp [orows, lrows, turned, hi, lcell_own h4]
/-- The first j numbers of a row turned. -/
def turnJ (v : List Int) (j : Nat) : List Int := (List.range v.length).map fun k => if k < j then -77 else v.getD k 0
theorem turnJ_len (v : List Int) (j : Nat) : (turnJ v j).length = v.length := by simp [turnJ]
theorem turnJ_zero (v : List Int) : turnJ v 0 = v := by
  apply List.ext_getElem
  · simp [turnJ]
  · intro k h1 h2; simp [turnJ, h2]
theorem turnJ_all (v : List Int) : turnJ v v.length = List.replicate v.length (-77) := by
  rw [List.eq_replicate_iff]
  refine ⟨by simp [turnJ], fun x hx => ?_⟩
  simp only [turnJ, List.mem_map, List.mem_range] at hx
  obtain ⟨k, hk, rfl⟩ := hx
  rw [if_pos hk]
theorem turnJ_set {v : List Int} {j : Nat} (h : j < v.length) : (turnJ v j).set j (-77) = turnJ v (j + 1) := by
  apply List.ext_getElem
  · simp [turnJ]
  · intro k h1 h2
    by_cases e : j = k
    · subst e; simp [turnJ]
    · rw [List.getElem_set_ne e]; simp [turnJ]; grind
set_option maxHeartbeats 4000000 in
theorem meansSteps_spec (l c : List (List Int)) (v : List Int) (hl : SizedAll l) (hc : SizedAll c) (hv : Sized v.length) (hb : l.length + c.length ≤ 5864062014634) :
    Spec Try.prog 3 [.v (.t (vecs l)), .v (.t (vecs c)), .v (.t (vec v))] [] [.v (.t (.bool true))] [] := by
  have h1 := twin_spec l hl
  have h2 := twin_spec c hc
  have h3 := step2_spec l c hl hc hb
  have h4 := same18_spec (stepOf l c) (stepOf l c) (stepOf_sized hc)
  have h5 := near_spec v c hv hc
  have h6 := near2_spec v c hv hc
  have h7 := loss_spec l c hl hc
  have h8 := loss2_spec l c hl hc
  have h9 := same18_spec l l hl
  have h10 := same18_spec c c hc
  rw [decide_eq_true rfl] at h4 h9 h10
  by_cases hok : okStep l c = true
  · obtain ⟨hl0, hc0, d, hd, hlm, hcm⟩ := okStep_lens hok
    have hst := step_own l c hl hc hb hok
    have hof : stepOf l c = stepF l c := by simp [stepOf, hok]
    have hn := stepF_len l c
    have hne : ∀ w ∈ stepF l c, w ≠ [] := by
      intro w hw
      simp only [stepF, List.mem_map, List.mem_range] at hw
      obtain ⟨i, hi, rfl⟩ := hw
      have h := stepRow_len l c i
      have h' := (hcm _ (List.getElem_mem hi)).1
      have hci : c.getD i [] = c[i] := by simp [hi]
      rw [hci] at h
      intro e
      rw [e] at h
      simp [may] at h'
      simp at h; rw [← h] at h'
      simp at h'
    rw [hof] at h3 h4
    generalize hgg : stepF l c = g at *
    have hz := turned_zero hne
    have hwid : ∀ w ∈ g, Sized w.length := by
      have := (stepOf_sized (l := l) hc).2
      rw [hof] at this; exact this
    have ht : (orows g).take c.length = orows g := List.take_of_length_le (by rw [orows_length, hn]; omega)
    have hol : (orows g).length = c.length := by rw [orows_length, hn]
    refine spec_by Try.func3 rfl mixed tOk evOk (n := 75) rfl (by simp) (by simp) ?_
    rw [initSt_mk, show Try.f3.results.toList = [.tmp 6] from rfl]
    simp only [initL, AV.sv, List.map_cons, List.map_nil, Nat.reduceAdd, Nat.zero_add, vecs_eq]
    repeat' (first
     | (with_reducible first | refine s_seq ?_ | refine s_block ?_ | refine s_region fun kr hr => ?_)
     | (with_reducible refine s_text tOk [18, 1000, 1001, 1002, 1003] (by kernel_rfl) (by simp [HeapIn, namers, namerDst, namerOp, Blk.has, hasRows, hasL, CV.has, hasRows_up, hasRows_append, ht, hol, orows_view, orows_has]) fun kr hr => ?_)
     | (with_reducible first | refine s_op fun K' hk => ?_ | refine t_op fun K' hk => ?_ | (refine hk _ ?_; clear hk K') | (refine ht _ ?_; clear ht hf KT KF) | (refine hf _ ?_; clear ht hf KT KF) | ((first | refine s_nil ?_ | refine t_nil ?_); refine hr _ ?_; clear hr kr))
     | ((with_reducible refine n_seqK [0, 1, 2, 3, 4, 5, 6, 7, 8, 9, 10, 11, 14, 15, 16, 17, 18, 21, 22, 23, 42, 46, 55] [18] ?_); simp only [mk_keep, keepL, List.mem_cons, List.not_mem_nil, Nat.reduceEqDiff, Nat.zero_ne_one, Nat.one_ne_zero, reduceCtorEq, or_false, false_or, or_true, true_or, or_self, eq_self, ↓reduceIte])
     | (with_reducible first | refine s_cond fun KT KF ht hf => ?_ | refine s_skip ?_)
     | ((with_reducible refine s_long ?_); simp only [List.cons_append, List.nil_append])
     | (with_reducible first | refine s_exit ?_ | refine s_ret ?_ | refine e_seq ?_ | refine r_seq ?_ | refine n_block ?_ | refine e_block ?_ | refine r_block ?_ | refine e_loop ?_ | refine r_loop ?_ | refine e_round ?_ | refine r_round ?_ | refine s_round ?_ | refine f_block ?_ (by decide) | refine r_res ?_ | refine n_res ?_)
     | (simp only [hgb, go_sem, Int.reduceToNat, ↓reduceIte, reduceCtorEq, Nat.reduceEqDiff, Nat.reduceAdd, Nat.reduceMul, Nat.reduceLT, Nat.reduceLeDiff, Nat.reduceBEq, Int.reduceBEq, Int.reduceBNe, Int.reduceEq, Int.reduceLT, Int.reduceLE, Int.reduceGE, Int.reduceGT, ht, hol, orows_view, orows_has, callE, resSV, AV.flat, CV.flat, TV.flat]; clear hgb)
     | simp only [go_sem, Int.reduceToNat, ↓reduceIte, reduceCtorEq, Nat.reduceEqDiff, Nat.reduceAdd, Nat.reduceMul, Nat.reduceLT, Nat.reduceLeDiff, Nat.reduceBEq, Int.reduceBEq, Int.reduceBNe, Int.reduceEq, Int.reduceLT, Int.reduceLE, Int.reduceGE, Int.reduceGT, ht, hol, orows_view, orows_has, callE, resSV, AV.flat, CV.flat, TV.flat, hAll]
     | refine Or.inl ⟨_, ⟨fun _ _ => rfl, h1⟩, ?_⟩
     | refine ⟨_, ⟨fun _ _ => rfl, h1⟩, ?_⟩
     | refine Or.inl ⟨_, ⟨fun _ _ => rfl, h2⟩, ?_⟩
     | refine ⟨_, ⟨fun _ _ => rfl, h2⟩, ?_⟩
     | refine Or.inl ⟨_, ⟨fun _ _ => rfl, h3⟩, ?_⟩
     | refine ⟨_, ⟨fun _ _ => rfl, h3⟩, ?_⟩
     | refine Or.inl ⟨_, ⟨fun _ _ => rfl, h4⟩, ?_⟩
     | refine ⟨_, ⟨fun _ _ => rfl, h4⟩, ?_⟩
     | refine Or.inl ⟨_, ⟨fun _ _ => rfl, h5⟩, ?_⟩
     | refine ⟨_, ⟨fun _ _ => rfl, h5⟩, ?_⟩
     | refine Or.inl ⟨_, ⟨fun _ _ => rfl, h6⟩, ?_⟩
     | refine ⟨_, ⟨fun _ _ => rfl, h6⟩, ?_⟩
     | refine Or.inl ⟨_, ⟨fun _ _ => rfl, h7⟩, ?_⟩
     | refine ⟨_, ⟨fun _ _ => rfl, h7⟩, ?_⟩
     | refine Or.inl ⟨_, ⟨fun _ _ => rfl, h8⟩, ?_⟩
     | refine ⟨_, ⟨fun _ _ => rfl, h8⟩, ?_⟩
     | refine Or.inr (m_call1 ⟨fun _ _ => rfl, hst⟩ rfl rfl rfl (fun _ => orows_has) (fun _ => one_name) (by decide) rfl ?_)
     | (refine ite_guard (fun hg => ?_) (fun hg => ?_) <;> (try simp only [Bool.not_eq_true, Bool.not_eq_false, Decidable.not_not] at hg) <;> (first | have hgb : (_ : Bool) = _ := hg | have hgb := ff hg | have hgb := tt hg))
     | (refine ⟨fun hc => ht _ ?_, fun hc => hf _ ?_⟩ <;> clear ht hf KT KF)
     | fail)
    refine w_loop [0, 1, 6, 7, 8, 9, 10] [18] (σ := Nat) (fun k st => st = mk [(0, V (.sl 1 (vrows l))), (1, V (.sl 1 (vrows c))), (6, B false), (7, V (vecs l)), (8, V (vecs c)), (9, .c (.mr 18 0 c.length)), (10, I k)] [(18, .cells 1 (turned g k))] ∧ k ≤ c.length) (fun k => c.length - k) 0 ?_ ?_
    · simp only [go_sem, Int.reduceToNat, ↓reduceIte, reduceCtorEq, Nat.reduceEqDiff, Nat.reduceAdd, Nat.reduceMul, Nat.reduceLT, Nat.reduceLeDiff, Nat.reduceBEq, Int.reduceBEq, Int.reduceBNe, Int.reduceEq, Int.reduceLT, Int.reduceLE, Int.reduceGE, Int.reduceGT, mk_keep, keepL, List.mem_cons, List.not_mem_nil, Nat.reduceEqDiff, Nat.zero_ne_one, Nat.one_ne_zero, reduceCtorEq, or_false, false_or, or_true, true_or, or_self, eq_self, ↓reduceIte, hz]
      exact ⟨rfl, Nat.zero_le _⟩
    · rintro k st' ⟨rfl, hk⟩
      by_cases hlt : k < c.length
      · have e1 := ltI hlt
        have e3 := wUp hlt (by omega)
        have e4 := tt (show (k : Int) < c.length by omega)
        have hkg : k < g.length := by omega
        have hrow0 := turned_get hkg
        have hwk := hwid _ (List.getElem_mem hkg)
        repeat' (first
         | (with_reducible first | refine s_seq ?_ | refine s_block ?_ | refine s_region fun kr hr => ?_)
         | (with_reducible refine s_text tOk [18, 1000, 1001, 1002, 1003] (by kernel_rfl) (by simp [HeapIn, namers, namerDst, namerOp, Blk.has, hasRows, hasL, CV.has, hasRows_up, hasRows_append, e1, turned_len, turned_has]) fun kr hr => ?_)
         | (with_reducible first | refine s_op fun K' hk => ?_ | refine t_op fun K' hk => ?_ | (refine hk _ ?_; clear hk K') | (refine ht _ ?_; clear ht hf KT KF) | (refine hf _ ?_; clear ht hf KT KF) | ((first | refine s_nil ?_ | refine t_nil ?_); refine hr _ ?_; clear hr kr))
         | ((with_reducible refine n_seqK [0, 1, 2, 3, 4, 5, 6, 7, 8, 9, 10, 11, 14, 15, 16, 17, 18, 21, 22, 23, 42, 46, 55] [18] ?_); simp only [mk_keep, keepL, List.mem_cons, List.not_mem_nil, Nat.reduceEqDiff, Nat.zero_ne_one, Nat.one_ne_zero, reduceCtorEq, or_false, false_or, or_true, true_or, or_self, eq_self, ↓reduceIte])
         | (with_reducible first | refine s_cond fun KT KF ht hf => ?_ | refine s_skip ?_)
         | ((with_reducible refine s_long ?_); simp only [List.cons_append, List.nil_append])
         | (with_reducible first | refine s_exit ?_ | refine s_ret ?_ | refine e_seq ?_ | refine r_seq ?_ | refine n_block ?_ | refine e_block ?_ | refine r_block ?_ | refine e_loop ?_ | refine r_loop ?_ | refine e_round ?_ | refine r_round ?_ | refine s_round ?_ | refine f_block ?_ (by decide) | refine r_res ?_ | refine n_res ?_)
         | (simp only [hgb, go_sem, Int.reduceToNat, ↓reduceIte, reduceCtorEq, Nat.reduceEqDiff, Nat.reduceAdd, Nat.reduceMul, Nat.reduceLT, Nat.reduceLeDiff, Nat.reduceBEq, Int.reduceBEq, Int.reduceBNe, Int.reduceEq, Int.reduceLT, Int.reduceLE, Int.reduceGE, Int.reduceGT, e1, turned_len, turned_has]; clear hgb)
         | simp only [go_sem, Int.reduceToNat, ↓reduceIte, reduceCtorEq, Nat.reduceEqDiff, Nat.reduceAdd, Nat.reduceMul, Nat.reduceLT, Nat.reduceLeDiff, Nat.reduceBEq, Int.reduceBEq, Int.reduceBNe, Int.reduceEq, Int.reduceLT, Int.reduceLE, Int.reduceGE, Int.reduceGT, e1, turned_len, turned_has, hAll]
         | (refine ite_guard (fun hg => ?_) (fun hg => ?_) <;> (try simp only [Bool.not_eq_true, Bool.not_eq_false, Decidable.not_not] at hg) <;> (first | have hgb : (_ : Bool) = _ := hg | have hgb := ff hg | have hgb := tt hg))
         | (refine ⟨fun hc => ht _ ?_, fun hc => hf _ ?_⟩ <;> clear ht hf KT KF)
         | fail)
        refine w_loopG _ (gho_unfold (k := 18) (i := k) (j := 0) (nm := 61) (sz := 1) (sz' := 1) (rows := turned g k) (rows' := up (ints g[k])) (row := [CV.own 1 (up (ints g[k]))]) (by decide) (by decide) (by simp [mk_heap, hL]) hrow0 rfl (by rw [fresh_t]; exact trivial; simp only [freshL, Blk.has, turned_has]; rfl) (hasRows_up _ _)) ?_
        rw [mk_unfold]
        have hul : (up (ints g[k])).length = g[k].length := by rw [upi_len]
        have hmod := set_modify (c := .mr 61 0 g[k].length) hrow0
        have hg1 : ((turned g k).set k [CV.mr 61 0 g[k].length])[k]? = some [CV.mr 61 0 g[k].length] := List.getElem?_set_self (by rw [turned_len]; exact hkg)
        have hs0 := turnJ_zero g[k]
        rw [hul, hmod]
        refine w_loop [0, 1, 6, 7, 8, 9, 10, 11] [18, 61] (σ := Nat) (fun j st => st = mk [(0, V (.sl 1 (vrows l))), (1, V (.sl 1 (vrows c))), (6, B false), (7, V (vecs l)), (8, V (vecs c)), (9, .c (.mr 18 0 c.length)), (10, I k), (11, I j)] [(18, .cells 1 ((turned g k).set k [CV.mr 61 0 g[k].length])), (61, .cells 1 (up (ints (turnJ g[k] j))))] ∧ j ≤ g[k].length) (fun j => g[k].length - j) 0 ?_ ?_
        · simp only [go_sem, Int.reduceToNat, ↓reduceIte, reduceCtorEq, Nat.reduceEqDiff, Nat.reduceAdd, Nat.reduceMul, Nat.reduceLT, Nat.reduceLeDiff, Nat.reduceBEq, Int.reduceBEq, Int.reduceBNe, Int.reduceEq, Int.reduceLT, Int.reduceLE, Int.reduceGE, Int.reduceGT, mk_keep, keepL, List.mem_cons, List.not_mem_nil, Nat.reduceEqDiff, Nat.zero_ne_one, Nat.one_ne_zero, reduceCtorEq, or_false, false_or, or_true, true_or, or_self, eq_self, ↓reduceIte, hs0]
          exact ⟨rfl, Nat.zero_le _⟩
        · rintro j st' ⟨rfl, hj⟩
          by_cases hjt : j < g[k].length
          · have k1 := ltI hjt
            have k3 := wUp hjt (by omega)
            have k4 : (turnJ g[k] j)[j]? = some ((turnJ g[k] j)[j]'(by rw [turnJ_len]; exact hjt)) := List.getElem?_eq_getElem _
            have k7 := turnJ_set hjt
            repeat' (first
             | (with_reducible first | refine s_seq ?_ | refine s_block ?_ | refine s_region fun kr hr => ?_)
             | (with_reducible refine s_text tOk [18, 61, 1000, 1001, 1002, 1003] (by kernel_rfl) (by simp [HeapIn, namers, namerDst, namerOp, Blk.has, hasRows, hasL, CV.has, hasRows_up, hasRows_append, e4, k1, k3, k4, k7, hg1, upi_get, upi_len, up_set1, turnJ_len, turned_len, List.length_set]) fun kr hr => ?_)
             | (with_reducible first | refine s_op fun K' hk => ?_ | refine t_op fun K' hk => ?_ | (refine hk _ ?_; clear hk K') | (refine ht _ ?_; clear ht hf KT KF) | (refine hf _ ?_; clear ht hf KT KF) | ((first | refine s_nil ?_ | refine t_nil ?_); refine hr _ ?_; clear hr kr))
             | ((with_reducible refine n_seqK [0, 1, 2, 3, 4, 5, 6, 7, 8, 9, 10, 11, 14, 15, 16, 17, 18, 21, 22, 23, 42, 46, 55] [18, 61] ?_); simp only [mk_keep, keepL, List.mem_cons, List.not_mem_nil, Nat.reduceEqDiff, Nat.zero_ne_one, Nat.one_ne_zero, reduceCtorEq, or_false, false_or, or_true, true_or, or_self, eq_self, ↓reduceIte])
             | (with_reducible first | refine s_cond fun KT KF ht hf => ?_ | refine s_skip ?_)
             | ((with_reducible refine s_long ?_); simp only [List.cons_append, List.nil_append])
             | (with_reducible first | refine s_exit ?_ | refine s_ret ?_ | refine e_seq ?_ | refine r_seq ?_ | refine n_block ?_ | refine e_block ?_ | refine r_block ?_ | refine e_loop ?_ | refine r_loop ?_ | refine e_round ?_ | refine r_round ?_ | refine s_round ?_ | refine f_block ?_ (by decide) | refine r_res ?_ | refine n_res ?_)
             | (simp only [hgb, go_sem, Int.reduceToNat, ↓reduceIte, reduceCtorEq, Nat.reduceEqDiff, Nat.reduceAdd, Nat.reduceMul, Nat.reduceLT, Nat.reduceLeDiff, Nat.reduceBEq, Int.reduceBEq, Int.reduceBNe, Int.reduceEq, Int.reduceLT, Int.reduceLE, Int.reduceGE, Int.reduceGT, e4, k1, k3, k4, k7, hg1, upi_get, upi_len, up_set1, turnJ_len, turned_len, List.length_set]; clear hgb)
             | simp only [go_sem, Int.reduceToNat, ↓reduceIte, reduceCtorEq, Nat.reduceEqDiff, Nat.reduceAdd, Nat.reduceMul, Nat.reduceLT, Nat.reduceLeDiff, Nat.reduceBEq, Int.reduceBEq, Int.reduceBNe, Int.reduceEq, Int.reduceLT, Int.reduceLE, Int.reduceGE, Int.reduceGT, e4, k1, k3, k4, k7, hg1, upi_get, upi_len, up_set1, turnJ_len, turned_len, List.length_set, hAll]
             | (refine ite_guard (fun hg => ?_) (fun hg => ?_) <;> (try simp only [Bool.not_eq_true, Bool.not_eq_false, Decidable.not_not] at hg) <;> (first | have hgb : (_ : Bool) = _ := hg | have hgb := ff hg | have hgb := tt hg))
             | (refine ⟨fun hc => ht _ ?_, fun hc => hf _ ?_⟩ <;> clear ht hf KT KF)
             | fail)
            refine n_loop (j + 1) [0, 1, 6, 7, 8, 9, 10, 11] [18, 61] ⟨?_, hjt⟩ (by omega)
            simp only [mk_keep, keepL, List.mem_cons, List.not_mem_nil, Nat.reduceEqDiff, Nat.zero_ne_one, Nat.one_ne_zero, reduceCtorEq, or_false, false_or, or_true, true_or, or_self, eq_self, ↓reduceIte]
          · have k1 := nltI hjt
            obtain rfl : j = g[k].length := by omega
            have hs1 := turnJ_all g[k]
            repeat' (first
             | (with_reducible first | refine s_seq ?_ | refine s_block ?_ | refine s_region fun kr hr => ?_)
             | (with_reducible refine s_text tOk [18, 61, 1000, 1001, 1002, 1003] (by kernel_rfl) (by simp [HeapIn, namers, namerDst, namerOp, Blk.has, hasRows, hasL, CV.has, hasRows_up, hasRows_append, e3, e4, k1, hg1, turned_len, List.length_set]) fun kr hr => ?_)
             | (with_reducible first | refine s_op fun K' hk => ?_ | refine t_op fun K' hk => ?_ | (refine hk _ ?_; clear hk K') | (refine ht _ ?_; clear ht hf KT KF) | (refine hf _ ?_; clear ht hf KT KF) | ((first | refine s_nil ?_ | refine t_nil ?_); refine hr _ ?_; clear hr kr))
             | ((with_reducible refine n_seqK [0, 1, 2, 3, 4, 5, 6, 7, 8, 9, 10, 11, 14, 15, 16, 17, 18, 21, 22, 23, 42, 46, 55] [18, 61] ?_); simp only [mk_keep, keepL, List.mem_cons, List.not_mem_nil, Nat.reduceEqDiff, Nat.zero_ne_one, Nat.one_ne_zero, reduceCtorEq, or_false, false_or, or_true, true_or, or_self, eq_self, ↓reduceIte])
             | (with_reducible first | refine s_cond fun KT KF ht hf => ?_ | refine s_skip ?_)
             | ((with_reducible refine s_long ?_); simp only [List.cons_append, List.nil_append])
             | (with_reducible first | refine s_exit ?_ | refine s_ret ?_ | refine e_seq ?_ | refine r_seq ?_ | refine n_block ?_ | refine e_block ?_ | refine r_block ?_ | refine e_loop ?_ | refine r_loop ?_ | refine e_round ?_ | refine r_round ?_ | refine s_round ?_ | refine f_block ?_ (by decide) | refine r_res ?_ | refine n_res ?_)
             | (simp only [hgb, go_sem, Int.reduceToNat, ↓reduceIte, reduceCtorEq, Nat.reduceEqDiff, Nat.reduceAdd, Nat.reduceMul, Nat.reduceLT, Nat.reduceLeDiff, Nat.reduceBEq, Int.reduceBEq, Int.reduceBNe, Int.reduceEq, Int.reduceLT, Int.reduceLE, Int.reduceGE, Int.reduceGT, e3, e4, k1, hg1, turned_len, List.length_set]; clear hgb)
             | simp only [go_sem, Int.reduceToNat, ↓reduceIte, reduceCtorEq, Nat.reduceEqDiff, Nat.reduceAdd, Nat.reduceMul, Nat.reduceLT, Nat.reduceLeDiff, Nat.reduceBEq, Int.reduceBEq, Int.reduceBNe, Int.reduceEq, Int.reduceLT, Int.reduceLE, Int.reduceGE, Int.reduceGT, e3, e4, k1, hg1, turned_len, List.length_set, hAll]
             | (refine ite_guard (fun hg => ?_) (fun hg => ?_) <;> (try simp only [Bool.not_eq_true, Bool.not_eq_false, Decidable.not_not] at hg) <;> (first | have hgb : (_ : Bool) = _ := hg | have hgb := ff hg | have hgb := tt hg))
             | (refine ⟨fun hc => ht _ ?_, fun hc => hf _ ?_⟩ <;> clear ht hf KT KF)
             | fail)
            have hnz : up (ints (turnJ g[k] g[k].length)) ≠ [] := by
              intro h
              have h2 := congrArg List.length h
              rw [upi_len, turnJ_len] at h2
              exact hne _ (List.getElem_mem hkg) (List.length_eq_zero_iff.1 (by simpa using h2))
            refine n_loopG _ (gho_fold (k := 18) (i := k) (j := 0) (nm := 61) (sz := 1) (sz' := 1) (rows := (turned g k).set k [CV.mr 61 0 g[k].length]) (rows' := up (ints (turnJ g[k] g[k].length))) (row := [CV.mr 61 0 g[k].length]) (by decide) (by simp [mk_heap, hL]) (by simp [mk_heap, hL]) hg1 (by rw [upi_len, turnJ_len]; rfl) hnz) ?_
            rw [mk_fold]
            refine n_loop (k + 1) [0, 1, 6, 7, 8, 9, 10] [18] ⟨?_, hlt⟩ (by omega)
            have h11 := turned_succ hkg
            rw [← hs1] at h11
            simp only [go_sem, Int.reduceToNat, ↓reduceIte, reduceCtorEq, Nat.reduceEqDiff, Nat.reduceAdd, Nat.reduceMul, Nat.reduceLT, Nat.reduceLeDiff, Nat.reduceBEq, Int.reduceBEq, Int.reduceBNe, Int.reduceEq, Int.reduceLT, Int.reduceLE, Int.reduceGE, Int.reduceGT, mk_keep, keepL, List.mem_cons, List.not_mem_nil, Nat.reduceEqDiff, Nat.zero_ne_one, Nat.one_ne_zero, reduceCtorEq, or_false, false_or, or_true, true_or, or_self, eq_self, ↓reduceIte, set_modify hg1, List.set_set, h11]
      · have e1 := nltI hlt
        obtain rfl : k = c.length := by omega
        repeat' (first
         | (with_reducible first | refine s_seq ?_ | refine s_block ?_ | refine s_region fun kr hr => ?_)
         | (with_reducible refine s_text tOk [18, 1000, 1001, 1002, 1003] (by kernel_rfl) (by simp [HeapIn, namers, namerDst, namerOp, Blk.has, hasRows, hasL, CV.has, hasRows_up, hasRows_append, e1, turned_has]) fun kr hr => ?_)
         | (with_reducible first | refine s_op fun K' hk => ?_ | refine t_op fun K' hk => ?_ | (refine hk _ ?_; clear hk K') | (refine ht _ ?_; clear ht hf KT KF) | (refine hf _ ?_; clear ht hf KT KF) | ((first | refine s_nil ?_ | refine t_nil ?_); refine hr _ ?_; clear hr kr))
         | ((with_reducible refine n_seqK [0, 1, 2, 3, 4, 5, 6, 7, 8, 9, 10, 11, 14, 15, 16, 17, 18, 21, 22, 23, 42, 46, 55] [18] ?_); simp only [mk_keep, keepL, List.mem_cons, List.not_mem_nil, Nat.reduceEqDiff, Nat.zero_ne_one, Nat.one_ne_zero, reduceCtorEq, or_false, false_or, or_true, true_or, or_self, eq_self, ↓reduceIte])
         | (with_reducible first | refine s_cond fun KT KF ht hf => ?_ | refine s_skip ?_)
         | ((with_reducible refine s_long ?_); simp only [List.cons_append, List.nil_append])
         | (with_reducible first | refine s_exit ?_ | refine s_ret ?_ | refine e_seq ?_ | refine r_seq ?_ | refine n_block ?_ | refine e_block ?_ | refine r_block ?_ | refine e_loop ?_ | refine r_loop ?_ | refine e_round ?_ | refine r_round ?_ | refine s_round ?_ | refine f_block ?_ (by decide) | refine r_res ?_ | refine n_res ?_)
         | (simp only [hgb, go_sem, Int.reduceToNat, ↓reduceIte, reduceCtorEq, Nat.reduceEqDiff, Nat.reduceAdd, Nat.reduceMul, Nat.reduceLT, Nat.reduceLeDiff, Nat.reduceBEq, Int.reduceBEq, Int.reduceBNe, Int.reduceEq, Int.reduceLT, Int.reduceLE, Int.reduceGE, Int.reduceGT, e1, turned_has, callE, resSV, AV.flat, CV.flat, TV.flat]; clear hgb)
         | simp only [go_sem, Int.reduceToNat, ↓reduceIte, reduceCtorEq, Nat.reduceEqDiff, Nat.reduceAdd, Nat.reduceMul, Nat.reduceLT, Nat.reduceLeDiff, Nat.reduceBEq, Int.reduceBEq, Int.reduceBNe, Int.reduceEq, Int.reduceLT, Int.reduceLE, Int.reduceGE, Int.reduceGT, e1, turned_has, callE, resSV, AV.flat, CV.flat, TV.flat, hAll]
         | refine Or.inl ⟨_, ⟨fun _ _ => rfl, h9⟩, ?_⟩
         | refine ⟨_, ⟨fun _ _ => rfl, h9⟩, ?_⟩
         | refine Or.inl ⟨_, ⟨fun _ _ => rfl, h10⟩, ?_⟩
         | refine ⟨_, ⟨fun _ _ => rfl, h10⟩, ?_⟩
         | refine Or.inl ⟨_, ⟨fun _ _ => rfl, sure18_spec⟩, ?_⟩
         | refine ⟨_, ⟨fun _ _ => rfl, sure18_spec⟩, ?_⟩
         | (refine ite_guard (fun hg => ?_) (fun hg => ?_) <;> (try simp only [Bool.not_eq_true, Bool.not_eq_false, Decidable.not_not] at hg) <;> (first | have hgb : (_ : Bool) = _ := hg | have hgb := ff hg | have hgb := tt hg))
         | (refine ⟨fun hc => ht _ ?_, fun hc => hf _ ?_⟩ <;> clear ht hf KT KF)
         | fail)
  · simp only [Bool.not_eq_true] at hok
    have hst := step_nil l c hl hc hb hok
    have hof : stepOf l c = [] := by simp [stepOf, hok]
    rw [hof] at h3 h4
    have e0 : vecs [] = .sl 1 [] := rfl
    refine spec_by Try.func3 rfl mixed tOk evOk (n := 75) rfl (by simp) (by simp) ?_
    rw [initSt_mk, show Try.f3.results.toList = [.tmp 6] from rfl]
    simp only [initL, AV.sv, List.map_cons, List.map_nil, Nat.reduceAdd, Nat.zero_add, vecs_eq]
    repeat' (first
     | (with_reducible first | refine s_seq ?_ | refine s_block ?_ | refine s_region fun kr hr => ?_)
     | (with_reducible refine s_text tOk [1000, 1001, 1002, 1003] (by kernel_rfl) (by simp [HeapIn, namers, namerDst, namerOp, Blk.has, hasRows, hasL, CV.has, hasRows_up, hasRows_append, e0, Int.cast_ofNat_Int]) fun kr hr => ?_)
     | (with_reducible first | refine s_op fun K' hk => ?_ | refine t_op fun K' hk => ?_ | (refine hk _ ?_; clear hk K') | (refine ht _ ?_; clear ht hf KT KF) | (refine hf _ ?_; clear ht hf KT KF) | ((first | refine s_nil ?_ | refine t_nil ?_); refine hr _ ?_; clear hr kr))
     | ((with_reducible refine n_seqK [0, 1, 2, 3, 4, 5, 6, 7, 8, 9, 10, 11, 14, 15, 16, 17, 18, 21, 22, 23, 42, 46, 55] [] ?_); simp only [mk_keep, keepL, List.mem_cons, List.not_mem_nil, Nat.reduceEqDiff, Nat.zero_ne_one, Nat.one_ne_zero, reduceCtorEq, or_false, false_or, or_true, true_or, or_self, eq_self, ↓reduceIte])
     | (with_reducible first | refine s_cond fun KT KF ht hf => ?_ | refine s_skip ?_)
     | ((with_reducible refine s_long ?_); simp only [List.cons_append, List.nil_append])
     | (with_reducible first | refine s_exit ?_ | refine s_ret ?_ | refine e_seq ?_ | refine r_seq ?_ | refine n_block ?_ | refine e_block ?_ | refine r_block ?_ | refine e_loop ?_ | refine r_loop ?_ | refine e_round ?_ | refine r_round ?_ | refine s_round ?_ | refine f_block ?_ (by decide) | refine r_res ?_ | refine n_res ?_)
     | (simp only [hgb, go_sem, Int.reduceToNat, ↓reduceIte, reduceCtorEq, Nat.reduceEqDiff, Nat.reduceAdd, Nat.reduceMul, Nat.reduceLT, Nat.reduceLeDiff, Nat.reduceBEq, Int.reduceBEq, Int.reduceBNe, Int.reduceEq, Int.reduceLT, Int.reduceLE, Int.reduceGE, Int.reduceGT, e0, Int.cast_ofNat_Int, callE, resSV, AV.flat, CV.flat, TV.flat]; clear hgb)
     | simp only [go_sem, Int.reduceToNat, ↓reduceIte, reduceCtorEq, Nat.reduceEqDiff, Nat.reduceAdd, Nat.reduceMul, Nat.reduceLT, Nat.reduceLeDiff, Nat.reduceBEq, Int.reduceBEq, Int.reduceBNe, Int.reduceEq, Int.reduceLT, Int.reduceLE, Int.reduceGE, Int.reduceGT, e0, Int.cast_ofNat_Int, callE, resSV, AV.flat, CV.flat, TV.flat, hAll]
     | refine Or.inl ⟨_, ⟨fun _ _ => rfl, h1⟩, ?_⟩
     | refine ⟨_, ⟨fun _ _ => rfl, h1⟩, ?_⟩
     | refine Or.inl ⟨_, ⟨fun _ _ => rfl, h2⟩, ?_⟩
     | refine ⟨_, ⟨fun _ _ => rfl, h2⟩, ?_⟩
     | refine Or.inl ⟨_, ⟨fun _ _ => rfl, h3⟩, ?_⟩
     | refine ⟨_, ⟨fun _ _ => rfl, h3⟩, ?_⟩
     | refine Or.inl ⟨_, ⟨fun _ _ => rfl, h4⟩, ?_⟩
     | refine ⟨_, ⟨fun _ _ => rfl, h4⟩, ?_⟩
     | refine Or.inl ⟨_, ⟨fun _ _ => rfl, h5⟩, ?_⟩
     | refine ⟨_, ⟨fun _ _ => rfl, h5⟩, ?_⟩
     | refine Or.inl ⟨_, ⟨fun _ _ => rfl, h6⟩, ?_⟩
     | refine ⟨_, ⟨fun _ _ => rfl, h6⟩, ?_⟩
     | refine Or.inl ⟨_, ⟨fun _ _ => rfl, h7⟩, ?_⟩
     | refine ⟨_, ⟨fun _ _ => rfl, h7⟩, ?_⟩
     | refine Or.inl ⟨_, ⟨fun _ _ => rfl, h8⟩, ?_⟩
     | refine ⟨_, ⟨fun _ _ => rfl, h8⟩, ?_⟩
     | refine Or.inl ⟨_, ⟨fun _ _ => rfl, hst⟩, ?_⟩
     | refine ⟨_, ⟨fun _ _ => rfl, hst⟩, ?_⟩
     | refine Or.inl ⟨_, ⟨fun _ _ => rfl, h9⟩, ?_⟩
     | refine ⟨_, ⟨fun _ _ => rfl, h9⟩, ?_⟩
     | refine Or.inl ⟨_, ⟨fun _ _ => rfl, h10⟩, ?_⟩
     | refine ⟨_, ⟨fun _ _ => rfl, h10⟩, ?_⟩
     | refine Or.inl ⟨_, ⟨fun _ _ => rfl, sure18_spec⟩, ?_⟩
     | refine ⟨_, ⟨fun _ _ => rfl, sure18_spec⟩, ?_⟩
     | (refine ite_guard (fun hg => ?_) (fun hg => ?_) <;> (try simp only [Bool.not_eq_true, Bool.not_eq_false, Decidable.not_not] at hg) <;> (first | have hgb : (_ : Bool) = _ := hg | have hgb := ff hg | have hgb := tt hg))
     | (refine ⟨fun hc => ht _ ?_, fun hc => hf _ ?_⟩ <;> clear ht hf KT KF)
     | fail)
    refine w_unroll 1 ?_
    repeat' (first
     | (with_reducible first | refine s_seq ?_ | refine s_block ?_ | refine s_region fun kr hr => ?_)
     | (with_reducible refine s_text tOk [1000, 1001, 1002, 1003] (by kernel_rfl) (by simp [HeapIn, namers, namerDst, namerOp, Blk.has, hasRows, hasL, CV.has, hasRows_up, hasRows_append, e0, Int.cast_ofNat_Int]) fun kr hr => ?_)
     | (with_reducible first | refine s_op fun K' hk => ?_ | refine t_op fun K' hk => ?_ | (refine hk _ ?_; clear hk K') | (refine ht _ ?_; clear ht hf KT KF) | (refine hf _ ?_; clear ht hf KT KF) | ((first | refine s_nil ?_ | refine t_nil ?_); refine hr _ ?_; clear hr kr))
     | ((with_reducible refine n_seqK [0, 1, 2, 3, 4, 5, 6, 7, 8, 9, 10, 11, 14, 15, 16, 17, 18, 21, 22, 23, 42, 46, 55] [] ?_); simp only [mk_keep, keepL, List.mem_cons, List.not_mem_nil, Nat.reduceEqDiff, Nat.zero_ne_one, Nat.one_ne_zero, reduceCtorEq, or_false, false_or, or_true, true_or, or_self, eq_self, ↓reduceIte])
     | (with_reducible first | refine s_cond fun KT KF ht hf => ?_ | refine s_skip ?_)
     | ((with_reducible refine s_long ?_); simp only [List.cons_append, List.nil_append])
     | (with_reducible first | refine s_exit ?_ | refine s_ret ?_ | refine e_seq ?_ | refine r_seq ?_ | refine n_block ?_ | refine e_block ?_ | refine r_block ?_ | refine e_loop ?_ | refine r_loop ?_ | refine e_round ?_ | refine r_round ?_ | refine s_round ?_ | refine f_block ?_ (by decide) | refine r_res ?_ | refine n_res ?_)
     | (simp only [hgb, go_sem, Int.reduceToNat, ↓reduceIte, reduceCtorEq, Nat.reduceEqDiff, Nat.reduceAdd, Nat.reduceMul, Nat.reduceLT, Nat.reduceLeDiff, Nat.reduceBEq, Int.reduceBEq, Int.reduceBNe, Int.reduceEq, Int.reduceLT, Int.reduceLE, Int.reduceGE, Int.reduceGT, e0, Int.cast_ofNat_Int, callE, resSV, AV.flat, CV.flat, TV.flat]; clear hgb)
     | simp only [go_sem, Int.reduceToNat, ↓reduceIte, reduceCtorEq, Nat.reduceEqDiff, Nat.reduceAdd, Nat.reduceMul, Nat.reduceLT, Nat.reduceLeDiff, Nat.reduceBEq, Int.reduceBEq, Int.reduceBNe, Int.reduceEq, Int.reduceLT, Int.reduceLE, Int.reduceGE, Int.reduceGT, e0, Int.cast_ofNat_Int, callE, resSV, AV.flat, CV.flat, TV.flat, hAll]
     | refine Or.inl ⟨_, ⟨fun _ _ => rfl, h1⟩, ?_⟩
     | refine ⟨_, ⟨fun _ _ => rfl, h1⟩, ?_⟩
     | refine Or.inl ⟨_, ⟨fun _ _ => rfl, h2⟩, ?_⟩
     | refine ⟨_, ⟨fun _ _ => rfl, h2⟩, ?_⟩
     | refine Or.inl ⟨_, ⟨fun _ _ => rfl, h3⟩, ?_⟩
     | refine ⟨_, ⟨fun _ _ => rfl, h3⟩, ?_⟩
     | refine Or.inl ⟨_, ⟨fun _ _ => rfl, h4⟩, ?_⟩
     | refine ⟨_, ⟨fun _ _ => rfl, h4⟩, ?_⟩
     | refine Or.inl ⟨_, ⟨fun _ _ => rfl, h5⟩, ?_⟩
     | refine ⟨_, ⟨fun _ _ => rfl, h5⟩, ?_⟩
     | refine Or.inl ⟨_, ⟨fun _ _ => rfl, h6⟩, ?_⟩
     | refine ⟨_, ⟨fun _ _ => rfl, h6⟩, ?_⟩
     | refine Or.inl ⟨_, ⟨fun _ _ => rfl, h7⟩, ?_⟩
     | refine ⟨_, ⟨fun _ _ => rfl, h7⟩, ?_⟩
     | refine Or.inl ⟨_, ⟨fun _ _ => rfl, h8⟩, ?_⟩
     | refine ⟨_, ⟨fun _ _ => rfl, h8⟩, ?_⟩
     | refine Or.inl ⟨_, ⟨fun _ _ => rfl, hst⟩, ?_⟩
     | refine ⟨_, ⟨fun _ _ => rfl, hst⟩, ?_⟩
     | refine Or.inl ⟨_, ⟨fun _ _ => rfl, h9⟩, ?_⟩
     | refine ⟨_, ⟨fun _ _ => rfl, h9⟩, ?_⟩
     | refine Or.inl ⟨_, ⟨fun _ _ => rfl, h10⟩, ?_⟩
     | refine ⟨_, ⟨fun _ _ => rfl, h10⟩, ?_⟩
     | refine Or.inl ⟨_, ⟨fun _ _ => rfl, sure18_spec⟩, ?_⟩
     | refine ⟨_, ⟨fun _ _ => rfl, sure18_spec⟩, ?_⟩
     | (refine ite_guard (fun hg => ?_) (fun hg => ?_) <;> (try simp only [Bool.not_eq_true, Bool.not_eq_false, Decidable.not_not] at hg) <;> (first | have hgb : (_ : Bool) = _ := hg | have hgb := ff hg | have hgb := tt hg))
     | (refine ⟨fun hc => ht _ ?_, fun hc => hf _ ?_⟩ <;> clear ht hf KT KF)
     | fail)
end Go.Proofs.Ytlnilonlaedafaa.Fx
