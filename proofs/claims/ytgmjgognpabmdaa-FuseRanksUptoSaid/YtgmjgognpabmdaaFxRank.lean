/- Rankings fused by their places. -/
import Derived.Test.YtgmjgognpabmdaaFxRanked
-- ren_map
namespace Go.Proofs.Ytgmjgognpabmdaa.Fx
open Go Go.RowKit
set_option maxRecDepth 100000
set_option linter.unusedSimpArgs false
set_option linter.unusedVariables false
/-! What a map's writing leaves. -/
theorem modify_key {κ ν : Type} {k : κ} {v : ν} : ∀ {m : List (κ × ν × Nat)} {i : Nat} {e}, m[i]? = some e → e.1 = k → (m.modify i fun e => (k, v, e.2.2)).map (·.1) = m.map (·.1) ∧ (m.modify i fun e => (k, v, e.2.2)).map (·.2.2) = m.map (·.2.2)
  | x :: m, 0, e, h, hk => by
    simp at h; subst h
    simp [hk]
  | x :: m, i + 1, e, h, hk => by
    have := modify_key (v := v) (m := m) (i := i) (e := e) (by simpa using h) hk
    simp [this.1, this.2]
section
variable {κ ν : Type} [DecidableEq κ]
theorem pfind_some {k : κ} : ∀ {m : List (κ × ν × Nat)} {i : Nat} {v : ν}, pfind k m = some (i, v) → ∃ e, m[i]? = some e ∧ e.1 = k ∧ e.2.1 = v
  | x :: m, i, v, h => by
    simp only [pfind] at h
    split at h
    · rename_i hk
      obtain ⟨rfl, rfl⟩ := Prod.mk.inj (Option.some.inj h)
      exact ⟨x, rfl, hk.symm, rfl⟩
    · cases hp : pfind k m with
      | none => rw [hp] at h; cases h
      | some p =>
        rw [hp] at h
        obtain ⟨rfl, rfl⟩ := Prod.mk.inj (Option.some.inj h)
        obtain ⟨e, h1, h2, h3⟩ := pfind_some (i := p.1) (v := p.2) hp
        exact ⟨e, by simpa using h1, h2, h3⟩
theorem pfind_none {k : κ} : ∀ {m : List (κ × ν × Nat)}, pfind k m = none ↔ ∀ e ∈ m, e.1 ≠ k
  | [] => by simp [pfind]
  | x :: m => by
    simp only [pfind, List.forall_mem_cons]
    by_cases hk : k = x.1
    · rw [if_pos hk]; simp [hk]
    · rw [if_neg hk, Option.map_eq_none_iff, pfind_none]
      exact ⟨fun h => ⟨fun e => hk e.symm, h⟩, fun h => h.2⟩
theorem mset_wf {c : Nat} {m : List (κ × ν × Nat)} (hw : Wf c m) (k : κ) (v : ν) : Wf (mclk c m k) (mset c m k v) ∧ (mset c m k v).length ≤ m.length + 1 := by
  unfold mset mclk
  cases hf : pfind k m with
  | none =>
    have hn := pfind_none.1 hf
    simp only [Option.isSome, Bool.false_eq_true, if_false]
    refine ⟨⟨?_, ?_, ?_⟩, by simp⟩
    · rw [List.map_append, List.nodup_append]
      exact ⟨hw.keys, by simp, fun a ha b hb => by
        simp only [List.map_cons, List.map_nil, List.mem_singleton] at hb; subst hb
        obtain ⟨e, he, rfl⟩ := List.mem_map.1 ha
        exact hn e he⟩
    · rw [List.map_append, List.nodup_append]
      exact ⟨hw.born, by simp, fun a ha b hb => by
        simp only [List.map_cons, List.map_nil, List.mem_singleton] at hb; subst hb
        obtain ⟨e, he, rfl⟩ := List.mem_map.1 ha
        exact Nat.ne_of_lt (hw.lt e he)⟩
    · intro e he
      rcases List.mem_append.1 he with h | h
      · exact Nat.lt_succ_of_lt (hw.lt e h)
      · rw [List.mem_singleton.1 h]; exact Nat.lt_succ_self _
  | some iv =>
    obtain ⟨i, u⟩ := iv
    obtain ⟨e, h1, h2, h3⟩ := pfind_some hf
    obtain ⟨q1, q2⟩ := modify_key (v := v) h1 h2
    simp only [Option.isSome, if_true]
    refine ⟨⟨by rw [q1]; exact hw.keys, by rw [q2]; exact hw.born, ?_⟩, by simp⟩
    intro x hx
    have : x.2.2 ∈ (m.modify i fun e => (k, v, e.2.2)).map (·.2.2) := List.mem_map.2 ⟨x, hx, rfl⟩
    rw [q2] at this
    obtain ⟨y, hy, e⟩ := List.mem_map.1 this
    rw [← e]; exact hw.lt y hy
/-- The value at a key. -/
def mget (m : List (κ × ν × Nat)) (k : κ) : Option ν := (pfind k m).map (·.2)
theorem mget_cons (x : κ × ν × Nat) (m : List (κ × ν × Nat)) (k : κ) : mget (x :: m) k = if k = x.1 then some x.2.1 else mget m k := by
  unfold mget
  simp only [pfind]
  split
  · rfl
  · cases pfind k m <;> rfl
theorem mget_append (m : List (κ × ν × Nat)) (k k' : κ) (v : ν) (c : Nat) (hf : pfind k m = none) : mget (m ++ [(k, v, c)]) k' = if k' = k then some v else mget m k' := by
  induction m with
  | nil => simp [mget_cons]
  | cons x m ih =>
    have hn := pfind_none.1 hf
    rw [List.forall_mem_cons] at hn
    rw [List.cons_append, mget_cons, mget_cons, ih (pfind_none.2 hn.2)]
    by_cases h : k' = x.1
    · rw [if_pos h, if_pos h, if_neg (fun e => hn.1 (by rw [← h, e]))]
    · rw [if_neg h, if_neg h]
theorem mget_modify {k k' : κ} {v u : ν} : ∀ {m : List (κ × ν × Nat)} {i : Nat}, pfind k m = some (i, u) → mget (m.modify i fun e => (k, v, e.2.2)) k' = if k' = k then some v else mget m k'
  | x :: m, i, h => by
    simp only [pfind] at h
    split at h
    · rename_i hk
      obtain ⟨rfl, rfl⟩ := Prod.mk.inj (Option.some.inj h)
      rw [List.modify_zero_cons, mget_cons, mget_cons]
      simp only [← hk]
      split <;> rfl
    · rename_i hk
      cases hp : pfind k m with
      | none => rw [hp] at h; cases h
      | some p =>
        rw [hp] at h
        obtain ⟨rfl, rfl⟩ := Prod.mk.inj (Option.some.inj h)
        rw [List.modify_succ_cons, mget_cons, mget_cons, mget_modify (v := v) (k' := k') (i := p.1) (u := p.2) hp]
        by_cases h : k' = x.1
        · rw [if_pos h, if_pos h, if_neg (fun e => hk (by rw [← h, e]))]
        · rw [if_neg h, if_neg h]
theorem mget_mset (c : Nat) (m : List (κ × ν × Nat)) (k k' : κ) (v : ν) : mget (mset c m k v) k' = if k' = k then some v else mget m k' := by
  unfold mset
  cases hf : pfind k m with
  | none => exact mget_append m k k' v c hf
  | some iv => obtain ⟨i, u⟩ := iv; exact mget_modify hf
theorem mval_get (z : ν) (m : List (κ × ν × Nat)) (k : κ) : mval z m k = (mget m k).getD z := by
  unfold mval mget
  cases pfind k m <;> rfl
theorem mget_mem (m : List (κ × ν × Nat)) (k : κ) : (mget m k).isSome = true ↔ k ∈ m.map (·.1) := by
  induction m with
  | nil => simp [mget, pfind]
  | cons x m ih =>
    rw [mget_cons, List.map_cons, List.mem_cons]
    by_cases h : k = x.1
    · simp [h]
    · rw [if_neg h, ih]; simp [h]
end
/-- The sums over rankings. -/
def ES.all (s : ES) (ls : List (List Ht)) : Nat → ES
  | 0 => s
  | k + 1 => ES.go ⟨(s.all ls k).cs, [], (s.all ls k).cm, (s.all ls k).mm⟩ (ls.getD k []) (ls.getD k []).length
def es0 : ES := ⟨0, [], 0, []⟩
theorem step_wf (s : ES) (p : Nat) (z : Ht) (h1 : Wf s.cm s.mm) : Wf (s.step p z).cm (s.step p z).mm ∧ (s.step p z).mm.length ≤ s.mm.length + 1 := by
  unfold ES.step
  split
  · exact ⟨h1, by omega⟩
  · exact mset_wf h1 _ _
theorem go_wf (s : ES) (l : List Ht) (h1 : Wf s.cm s.mm) : ∀ k, Wf (s.go l k).cm (s.go l k).mm ∧ (s.go l k).mm.length ≤ s.mm.length + k
  | 0 => ⟨h1, Nat.le_refl _⟩
  | k + 1 => by
    obtain ⟨q1, q2⟩ := go_wf s l h1 k
    obtain ⟨r1, r2⟩ := step_wf (s.go l k) (k + 1) (l.getD k (0, 0)) q1
    exact ⟨r1, by rw [ES.go]; omega⟩
def tot (ls : List (List Ht)) : Nat := (ls.map List.length).sum
theorem tot_take (ls : List (List Ht)) (k : Nat) (h : k < ls.length) : tot (ls.take (k + 1)) = tot (ls.take k) + ls[k].length := by
  unfold tot
  rw [List.take_succ_eq_append_getElem h, List.map_append, List.sum_append]; simp
theorem tot_le (ls : List (List Ht)) (k : Nat) : tot (ls.take k) ≤ tot ls := by
  unfold tot
  conv => rhs; rw [← List.take_append_drop k ls, List.map_append, List.sum_append]
  omega
theorem all_wf (ls : List (List Ht)) : ∀ k, k ≤ ls.length → Wf (es0.all ls k).cm (es0.all ls k).mm ∧ (es0.all ls k).mm.length ≤ tot (ls.take k)
  | 0, _ => ⟨⟨by simp [ES.all, es0], by simp [ES.all, es0], by simp [ES.all, es0]⟩, by simp [ES.all, es0]⟩
  | k + 1, hk => by
    obtain ⟨q1, q2⟩ := all_wf ls k (by omega)
    rw [tot_take ls k (by omega), ES.all]
    have e : ls.getD k [] = ls[k] := by rw [List.getD_eq_getElem?_getD, get_of_lt (by omega)]; rfl
    obtain ⟨r1, r2⟩ := go_wf ⟨(es0.all ls k).cs, [], (es0.all ls k).cm, (es0.all ls k).mm⟩ (ls.getD k []) q1 (ls.getD k []).length
    refine ⟨r1, ?_⟩
    have : (ls.getD k []).length = ls[k].length := by rw [e]
    simp only at r2
    omega
/-- Rankings, as rows. -/
def lists (ls : List (List Ht)) : List (List TV) := ls.map fun l => [.sl 2 (hrows l)]
theorem lists_len (ls : List (List Ht)) : (lists ls).length = ls.length := by simp [lists]
theorem lists_get (ls : List (List Ht)) (i : Nat) : (lists ls)[i]? = (ls[i]?).map fun l => [.sl 2 (hrows l)] := by simp [lists]
theorem len_tot {ls : List (List Ht)} {k : Nat} (h : k < ls.length) : ls[k].length ≤ tot ls := by
  have := tot_take ls k h
  have := tot_le ls (k + 1)
  omega
theorem rank_spec (ls : List (List Ht)) (hl : tot ls * 16 ≤ 140737488355328) (hn : ls.length ≤ 4611686018427387904) : Spec Try.prog 29 [.v (.t (.sl 1 (lists ls)))] [] [.v (.t (.sl 2 (hrows (hsort 2 (hits (es0.all ls ls.length).mm)))))] [] := by
  refine spec_by Try.func29 rfl mixed tOk evOk (n := 22) rfl (by simp) (by simp) ?_
  rw [initSt_mk, show Try.f29.results.toList = [.tmp 2] from rfl]
  simp only [initL, AV.sv, List.map_cons, List.map_nil, Nat.reduceAdd, Nat.zero_add]
  repeat' (first
   | (with_reducible first | refine s_seq ?_ | refine s_block ?_ | refine s_region fun kr hr => ?_)
   | (with_reducible refine s_text tOk [3, 7, 8, 1000, 1001, 1002, 1003] (by kernel_rfl) (by simp [HeapIn, namers, namerDst, namerOp, namedOp, namedFn, ownLoad, Blk.has, hasRows, hasL, CV.has, hasRows_up, hasM_up, hasRows_append, lists_len]; (try ((repeat' apply And.intro) <;> intros <;> omega))) fun kr hr => ?_)
   | (with_reducible first | refine s_op fun K' hk => ?_ | refine t_op fun K' hk => ?_ | (refine hk _ ?_; clear hk K') | (refine ht _ ?_; clear ht hf KT KF) | (refine hf _ ?_; clear ht hf KT KF) | ((first | refine s_nil ?_ | refine t_nil ?_); refine hr _ ?_; clear hr kr))
   | ((with_reducible refine n_seqK [0, 1, 2, 3, 4, 5, 6, 9, 10, 11, 12] [3, 7, 8] ?_); simp only [mk_keep, keepL, List.mem_cons, List.not_mem_nil, Nat.reduceEqDiff, Nat.zero_ne_one, Nat.one_ne_zero, reduceCtorEq, or_false, false_or, or_true, true_or, or_self, eq_self, ↓reduceIte])
   | (with_reducible first | refine s_cond fun KT KF ht hf => ?_ | refine s_skip ?_)
   | ((with_reducible refine s_long ?_); simp only [List.cons_append, List.nil_append])
   | (with_reducible first | refine s_exit ?_ | refine s_ret ?_ | refine e_seq ?_ | refine r_seq ?_ | refine n_block ?_ | refine e_block ?_ | refine r_block ?_ | refine e_loop ?_ | refine r_loop ?_ | refine e_round ?_ | refine r_round ?_ | refine s_round ?_ | refine f_block ?_ (by decide) | refine r_res ?_ | refine n_res ?_)
   | (simp only [hgb, go_sem, Int.reduceToNat, ↓reduceIte, reduceCtorEq, Nat.reduceEqDiff, Nat.reduceAdd, Nat.reduceMul, Nat.reduceLT, Nat.reduceLeDiff, Nat.reduceBEq, Int.reduceBEq, Int.reduceBNe, String.reduceBEq, Int.reduceEq, Int.reduceLT, Int.reduceLE, Int.reduceGE, Int.reduceGT, lists_len]; clear hgb)
   | simp only [go_sem, Int.reduceToNat, ↓reduceIte, reduceCtorEq, Nat.reduceEqDiff, Nat.reduceAdd, Nat.reduceMul, Nat.reduceLT, Nat.reduceLeDiff, Nat.reduceBEq, Int.reduceBEq, Int.reduceBNe, String.reduceBEq, Int.reduceEq, Int.reduceLT, Int.reduceLE, Int.reduceGE, Int.reduceGT, lists_len, hAll]
   | (refine ite_guard (fun hg => ?_) (fun hg => ?_) <;> (try simp only [Bool.not_eq_true, Bool.not_eq_false, Decidable.not_not] at hg) <;> (first | have hgb : (_ : Bool) = _ := hg | have hgb := ff hg | have hgb := tt hg))
   | (refine ⟨fun hc => ht _ ?_, fun hc => hf _ ?_⟩ <;> clear ht hf KT KF)
   | fail)
  refine w_loop [4, 9, 10, 11, 3] [3, 7, 8] (σ := Nat) (fun k st => st = mk [(3, .c (.mp 3 0 0)), (4, .c (.mm 8)), (9, V (.sl 1 (lists ls))), (10, I ls.length), (11, I k)] [(3, .cells 1 [[.mm 7]]), (7, .map (es0.all ls k).cm (upII (es0.all ls k).mm)), (8, .map (es0.all ls k).cs (upIB (es0.all ls k).sm))] ∧ k ≤ ls.length) (fun k => ls.length - k) 0 ?_ ?_
  · refine ⟨?_, Nat.zero_le _⟩
    simp only [go_sem, Int.reduceToNat, ↓reduceIte, reduceCtorEq, Nat.reduceEqDiff, Nat.reduceAdd, Nat.reduceMul, Nat.reduceLT, Nat.reduceLeDiff, Nat.reduceBEq, Int.reduceBEq, Int.reduceBNe, String.reduceBEq, Int.reduceEq, Int.reduceLT, Int.reduceLE, Int.reduceGE, Int.reduceGT, mk_keep, keepL, List.mem_cons, List.not_mem_nil, Nat.reduceEqDiff, Nat.zero_ne_one, Nat.one_ne_zero, reduceCtorEq, or_false, false_or, or_true, true_or, or_self, eq_self, ↓reduceIte]
    try rfl
  rintro k st' ⟨rfl, hk9⟩
  by_cases hlt : k < ls.length
  · have f1 := ltI hlt
    have f2 : (lists ls)[k]? = some [.sl 2 (hrows ls[k])] := by rw [lists_get, get_of_lt hlt]; rfl
    have f3 := wUp hlt (by omega)
    have hgo : es0.all ls (k + 1) = ES.go ⟨(es0.all ls k).cs, [], (es0.all ls k).cm, (es0.all ls k).mm⟩ ls[k] ls[k].length := by
      have e : ls.getD k [] = ls[k] := by rw [List.getD_eq_getElem?_getD, get_of_lt (by omega)]; rfl
      rw [ES.all, e]
    have hea := each1_spec ls[k] (by have := len_tot hlt; omega) (es0.all ls k)
    rw [← hgo] at hea
    generalize es0.all ls k = E at hea ⊢
    repeat' (first
     | (with_reducible first | refine s_seq ?_ | refine s_block ?_ | refine s_region fun kr hr => ?_)
     | (with_reducible refine s_text tOk [3, 7, 8, 1000, 1001, 1002, 1003] (by kernel_rfl) (by simp [HeapIn, namers, namerDst, namerOp, namedOp, namedFn, ownLoad, Blk.has, hasRows, hasL, CV.has, hasRows_up, hasM_up, hasRows_append, f1, f2, f3]; (try ((repeat' apply And.intro) <;> intros <;> omega))) fun kr hr => ?_)
     | (with_reducible first | refine s_op fun K' hk => ?_ | refine t_op fun K' hk => ?_ | (refine hk _ ?_; clear hk K') | (refine ht _ ?_; clear ht hf KT KF) | (refine hf _ ?_; clear ht hf KT KF) | ((first | refine s_nil ?_ | refine t_nil ?_); refine hr _ ?_; clear hr kr))
     | ((with_reducible refine n_seqK [0, 1, 2, 3, 4, 5, 6, 9, 10, 11, 12] [3, 7, 8] ?_); simp only [mk_keep, keepL, List.mem_cons, List.not_mem_nil, Nat.reduceEqDiff, Nat.zero_ne_one, Nat.one_ne_zero, reduceCtorEq, or_false, false_or, or_true, true_or, or_self, eq_self, ↓reduceIte])
     | (with_reducible first | refine s_cond fun KT KF ht hf => ?_ | refine s_skip ?_)
     | ((with_reducible refine s_long ?_); simp only [List.cons_append, List.nil_append])
     | (with_reducible first | refine s_exit ?_ | refine s_ret ?_ | refine e_seq ?_ | refine r_seq ?_ | refine n_block ?_ | refine e_block ?_ | refine r_block ?_ | refine e_loop ?_ | refine r_loop ?_ | refine e_round ?_ | refine r_round ?_ | refine s_round ?_ | refine f_block ?_ (by decide) | refine r_res ?_ | refine n_res ?_)
     | (simp only [hgb, go_sem, Int.reduceToNat, ↓reduceIte, reduceCtorEq, Nat.reduceEqDiff, Nat.reduceAdd, Nat.reduceMul, Nat.reduceLT, Nat.reduceLeDiff, Nat.reduceBEq, Int.reduceBEq, Int.reduceBNe, String.reduceBEq, Int.reduceEq, Int.reduceLT, Int.reduceLE, Int.reduceGE, Int.reduceGT, f1, f2, f3, callE, resSV, AV.flat, CV.flat, TV.flat]; clear hgb)
     | simp only [go_sem, Int.reduceToNat, ↓reduceIte, reduceCtorEq, Nat.reduceEqDiff, Nat.reduceAdd, Nat.reduceMul, Nat.reduceLT, Nat.reduceLeDiff, Nat.reduceBEq, Int.reduceBEq, Int.reduceBNe, String.reduceBEq, Int.reduceEq, Int.reduceLT, Int.reduceLE, Int.reduceGE, Int.reduceGT, f1, f2, f3, callE, resSV, AV.flat, CV.flat, TV.flat, hAll]
     | refine Or.inr (m_callN [(1000,8),(1001,3),(1002,7)] [1000,1001,1002] [1000,1001,1002] [] [8, 3, 7] ⟨fun _ _ => rfl, hea⟩ rfl rfl (by first | (simp [avren_v, avren_a, CV.ren, renL, renL_map, tbl, upM_nil]; done) | fail) rfl rfl rfl rfl (by decide) (by first | (simp [hAll, hRen, mk_heap, hL, tbl, Blk.ren, renRows_up, ren_up, renRows, renL, CV.ren, upM_nil]; done) | fail) (by first | (simp [Blk.has, hasRows, hasL, CV.has, hasRows_up, hasM_up, upM_nil]; done) | fail) (by first | (intro k; simp [hasA, AV.has, CV.has, hasL, Blk.has, hasRows, hasRows_up, hasM_up, upM_nil]; done) | (intro k; simp [hasA, AV.has, CV.has, hasL, Blk.has, hasRows, hasRows_up, hasM_up, upM_nil]; omega) | fail) ?_)
     | refine (m_callN [(1000,8),(1001,3),(1002,7)] [1000,1001,1002] [1000,1001,1002] [] [8, 3, 7] ⟨fun _ _ => rfl, hea⟩ rfl rfl (by first | (simp [avren_v, avren_a, CV.ren, renL, renL_map, tbl, upM_nil]; done) | fail) rfl rfl rfl rfl (by decide) (by first | (simp [hAll, hRen, mk_heap, hL, tbl, Blk.ren, renRows_up, ren_up, renRows, renL, CV.ren, upM_nil]; done) | fail) (by first | (simp [Blk.has, hasRows, hasL, CV.has, hasRows_up, hasM_up, upM_nil]; done) | fail) (by first | (intro k; simp [hasA, AV.has, CV.has, hasL, Blk.has, hasRows, hasRows_up, hasM_up, upM_nil]; done) | (intro k; simp [hasA, AV.has, CV.has, hasL, Blk.has, hasRows, hasRows_up, hasM_up, upM_nil]; omega) | fail) ?_)
     | (refine ite_guard (fun hg => ?_) (fun hg => ?_) <;> (try simp only [Bool.not_eq_true, Bool.not_eq_false, Decidable.not_not] at hg) <;> (first | have hgb : (_ : Bool) = _ := hg | have hgb := ff hg | have hgb := tt hg))
     | (refine ⟨fun hc => ht _ ?_, fun hc => hf _ ?_⟩ <;> clear ht hf KT KF)
     | fail)
    refine n_loop (k + 1) [4, 9, 10, 11, 3] [3, 7, 8] ⟨?_, hlt⟩ (by omega)
    simp only [go_sem, Int.reduceToNat, ↓reduceIte, reduceCtorEq, Nat.reduceEqDiff, Nat.reduceAdd, Nat.reduceMul, Nat.reduceLT, Nat.reduceLeDiff, Nat.reduceBEq, Int.reduceBEq, Int.reduceBNe, String.reduceBEq, Int.reduceEq, Int.reduceLT, Int.reduceLE, Int.reduceGE, Int.reduceGT, mk_keep, keepL, List.mem_cons, List.not_mem_nil, Nat.reduceEqDiff, Nat.zero_ne_one, Nat.one_ne_zero, reduceCtorEq, or_false, false_or, or_true, true_or, or_self, eq_self, ↓reduceIte]
  · obtain rfl : k = ls.length := by omega
    have f1 := nltI hlt
    obtain ⟨q1, q2⟩ := all_wf ls ls.length (Nat.le_refl _)
    have hrk := ranked_spec (es0.all ls ls.length).cm (es0.all ls ls.length).mm q1 (by rw [List.take_of_length_le (Nat.le_refl _)] at q2; omega)
    generalize es0.all ls ls.length = E at hrk ⊢
    repeat' (first
     | (with_reducible first | refine s_seq ?_ | refine s_block ?_ | refine s_region fun kr hr => ?_)
     | (with_reducible refine s_text tOk [3, 7, 8, 1000, 1001, 1002, 1003] (by kernel_rfl) (by simp [HeapIn, namers, namerDst, namerOp, namedOp, namedFn, ownLoad, Blk.has, hasRows, hasL, CV.has, hasRows_up, hasM_up, hasRows_append, f1]; (try ((repeat' apply And.intro) <;> intros <;> omega))) fun kr hr => ?_)
     | (with_reducible first | refine s_op fun K' hk => ?_ | refine t_op fun K' hk => ?_ | (refine hk _ ?_; clear hk K') | (refine ht _ ?_; clear ht hf KT KF) | (refine hf _ ?_; clear ht hf KT KF) | ((first | refine s_nil ?_ | refine t_nil ?_); refine hr _ ?_; clear hr kr))
     | ((with_reducible refine n_seqK [0, 1, 2, 3, 4, 5, 6, 9, 10, 11, 12] [3, 7, 8] ?_); simp only [mk_keep, keepL, List.mem_cons, List.not_mem_nil, Nat.reduceEqDiff, Nat.zero_ne_one, Nat.one_ne_zero, reduceCtorEq, or_false, false_or, or_true, true_or, or_self, eq_self, ↓reduceIte])
     | (with_reducible first | refine s_cond fun KT KF ht hf => ?_ | refine s_skip ?_)
     | ((with_reducible refine s_long ?_); simp only [List.cons_append, List.nil_append])
     | (with_reducible first | refine s_exit ?_ | refine s_ret ?_ | refine e_seq ?_ | refine r_seq ?_ | refine n_block ?_ | refine e_block ?_ | refine r_block ?_ | refine e_loop ?_ | refine r_loop ?_ | refine e_round ?_ | refine r_round ?_ | refine s_round ?_ | refine f_block ?_ (by decide) | refine r_res ?_ | refine n_res ?_)
     | (simp only [hgb, go_sem, Int.reduceToNat, ↓reduceIte, reduceCtorEq, Nat.reduceEqDiff, Nat.reduceAdd, Nat.reduceMul, Nat.reduceLT, Nat.reduceLeDiff, Nat.reduceBEq, Int.reduceBEq, Int.reduceBNe, String.reduceBEq, Int.reduceEq, Int.reduceLT, Int.reduceLE, Int.reduceGE, Int.reduceGT, f1, callE, resSV, AV.flat, CV.flat, TV.flat]; clear hgb)
     | simp only [go_sem, Int.reduceToNat, ↓reduceIte, reduceCtorEq, Nat.reduceEqDiff, Nat.reduceAdd, Nat.reduceMul, Nat.reduceLT, Nat.reduceLeDiff, Nat.reduceBEq, Int.reduceBEq, Int.reduceBNe, String.reduceBEq, Int.reduceEq, Int.reduceLT, Int.reduceLE, Int.reduceGE, Int.reduceGT, f1, callE, resSV, AV.flat, CV.flat, TV.flat, hAll]
     | refine Or.inr (m_callN [(1000,7)] [1000] [1000] [] [7] ⟨fun _ _ => rfl, hrk⟩ rfl rfl (by first | (simp [avren_v, avren_a, CV.ren, renL, renL_map, tbl, upM_nil]; done) | fail) rfl rfl rfl rfl (by decide) (by first | (simp [hAll, hRen, mk_heap, hL, tbl, Blk.ren, renRows_up, ren_up, renRows, renL, CV.ren, upM_nil]; done) | fail) (by first | (simp [Blk.has, hasRows, hasL, CV.has, hasRows_up, hasM_up, upM_nil]; done) | fail) (by first | (intro k; simp [hasA, AV.has, CV.has, hasL, Blk.has, hasRows, hasRows_up, hasM_up, upM_nil]; done) | (intro k; simp [hasA, AV.has, CV.has, hasL, Blk.has, hasRows, hasRows_up, hasM_up, upM_nil]; omega) | fail) ?_)
     | refine (m_callN [(1000,7)] [1000] [1000] [] [7] ⟨fun _ _ => rfl, hrk⟩ rfl rfl (by first | (simp [avren_v, avren_a, CV.ren, renL, renL_map, tbl, upM_nil]; done) | fail) rfl rfl rfl rfl (by decide) (by first | (simp [hAll, hRen, mk_heap, hL, tbl, Blk.ren, renRows_up, ren_up, renRows, renL, CV.ren, upM_nil]; done) | fail) (by first | (simp [Blk.has, hasRows, hasL, CV.has, hasRows_up, hasM_up, upM_nil]; done) | fail) (by first | (intro k; simp [hasA, AV.has, CV.has, hasL, Blk.has, hasRows, hasRows_up, hasM_up, upM_nil]; done) | (intro k; simp [hasA, AV.has, CV.has, hasL, Blk.has, hasRows, hasRows_up, hasM_up, upM_nil]; omega) | fail) ?_)
     | (refine ite_guard (fun hg => ?_) (fun hg => ?_) <;> (try simp only [Bool.not_eq_true, Bool.not_eq_false, Decidable.not_not] at hg) <;> (first | have hgb : (_ : Bool) = _ := hg | have hgb := ff hg | have hgb := tt hg))
     | (refine ⟨fun hc => ht _ ?_, fun hc => hf _ ?_⟩ <;> clear ht hf KT KF)
     | fail)
end Go.Proofs.Ytgmjgognpabmdaa.Fx
