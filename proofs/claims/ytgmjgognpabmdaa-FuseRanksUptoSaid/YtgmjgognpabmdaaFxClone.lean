/- slices.Clone of hits. -/
import Derived.Test.YtgmjgognpabmdaaFxSort0
namespace Go.Proofs.Ytgmjgognpabmdaa.Fx
open Go Go.RowKit
set_option maxRecDepth 100000
set_option linter.unusedSimpArgs false
set_option linter.unusedVariables false
theorem clone_some (A : List Ht) (n : Nat) (hn : n ≤ A.length) (hp : 0 < n) (hl : n * 16 ≤ 140737488355328) : Spec Try.prog 40 [.v (.mr 1000 0 n)] [(1000, listB A)] [.v (.mr 7 0 n)] [(1000, listB A), (7, listB (A.take n))] := by
  have f1 : decide (0 < n) = true := decide_eq_true hp
  have f3 : (up (hrows (A.take n))).all (fun x => x.all CV.plain) = true := plain_up (hrows (A.take n))
  have f4 : hasRows 7 (up (hrows (A.take n))) = false := hasRows_up 7 (hrows (A.take n))
  have f5 : (up (hrows (A.take n))).length = n := by simp [up, hrows]; omega
  have f6 : (n * 16 ≤ 140737488355328 ∧ n ≤ 9223372036854775807) := by omega
  have f2 : List.take n (hrows A) = hrows (A.take n) := by simp [hrows, List.map_take]
  refine spec_by Try.func40 rfl mixed tOk evOk (n := 8) rfl (by simp) (by simp) ?_
  rw [initSt_mk, show Try.f40.results.toList = [.tmp 2] from rfl]
  simp only [initL, AV.sv, List.map_cons, List.map_nil, Nat.reduceAdd, Nat.zero_add, listB]
  repeat' (first
   | (with_reducible first | refine s_seq ?_ | refine s_block ?_ | refine s_region fun kr hr => ?_)
   | (with_reducible refine s_text tOk [5, 7, 1000, 1001, 1002, 1003] (by kernel_rfl) (by simp [HeapIn, namers, namerDst, namerOp, namedOp, namedFn, ownLoad, Blk.has, hasRows, hasL, CV.has, hasRows_up, hasM_up, hasRows_append, f1, hrows_len, hp, hn, f2, f3, f4, f5, f6, List.nil_append, List.length_nil, hasRows]; (try ((repeat' apply And.intro) <;> intros <;> omega))) fun kr hr => ?_)
   | (with_reducible first | refine s_op fun K' hk => ?_ | refine t_op fun K' hk => ?_ | (refine hk _ ?_; clear hk K') | (refine ht _ ?_; clear ht hf KT KF) | (refine hf _ ?_; clear ht hf KT KF) | ((first | refine s_nil ?_ | refine t_nil ?_); refine hr _ ?_; clear hr kr))
   | ((with_reducible refine n_seqK [0, 1, 2, 4] [5, 7, 1000, 1001] ?_); simp only [mk_keep, keepL, List.mem_cons, List.not_mem_nil, Nat.reduceEqDiff, Nat.zero_ne_one, Nat.one_ne_zero, reduceCtorEq, or_false, false_or, or_true, true_or, or_self, eq_self, ↓reduceIte])
   | (with_reducible first | refine s_cond fun KT KF ht hf => ?_ | refine s_skip ?_)
   | ((with_reducible refine s_long ?_); simp only [List.cons_append, List.nil_append])
   | (with_reducible first | refine s_exit ?_ | refine s_ret ?_ | refine e_seq ?_ | refine r_seq ?_ | refine n_block ?_ | refine e_block ?_ | refine r_block ?_ | refine e_loop ?_ | refine r_loop ?_ | refine e_round ?_ | refine r_round ?_ | refine s_round ?_ | refine f_block ?_ (by decide) | refine r_res ?_ | refine n_res ?_)
   | (simp only [hgb, go_sem, Int.reduceToNat, ↓reduceIte, reduceCtorEq, Nat.reduceEqDiff, Nat.reduceAdd, Nat.reduceMul, Nat.reduceLT, Nat.reduceLeDiff, Nat.reduceBEq, Int.reduceBEq, Int.reduceBNe, String.reduceBEq, Int.reduceEq, Int.reduceLT, Int.reduceLE, Int.reduceGE, Int.reduceGT, f1, hrows_len, hp, hn, f2, f3, f4, f5, f6, List.nil_append, List.length_nil, hasRows]; clear hgb)
   | simp only [go_sem, Int.reduceToNat, ↓reduceIte, reduceCtorEq, Nat.reduceEqDiff, Nat.reduceAdd, Nat.reduceMul, Nat.reduceLT, Nat.reduceLeDiff, Nat.reduceBEq, Int.reduceBEq, Int.reduceBNe, String.reduceBEq, Int.reduceEq, Int.reduceLT, Int.reduceLE, Int.reduceGE, Int.reduceGT, f1, hrows_len, hp, hn, f2, f3, f4, f5, f6, List.nil_append, List.length_nil, hasRows, hAll]
   | (refine ite_guard (fun hg => ?_) (fun hg => ?_) <;> (try simp only [Bool.not_eq_true, Bool.not_eq_false, Decidable.not_not] at hg) <;> (first | have hgb : (_ : Bool) = _ := hg | have hgb := ff hg | have hgb := tt hg))
   | (refine ⟨fun hc => ht _ ?_, fun hc => hf _ ?_⟩ <;> clear ht hf KT KF)
   | fail)
open Go.Sort Go.Proofs in
theorem app0_c (b o : Nat) (a : Addr) (c : Nat) (w : World) : (Builtin.append_ #[25, 25] 25 #[.slice (some ⟨b, o, none⟩) 0 0, .slice (some a) 0 c]).run Try.prog w = .ok (.slice (some ⟨b, o, none⟩) 0 0) w := by
  obtain ⟨info, hi, _, _⟩ := info_of (tOk 23 ty23 rfl)
  have h := run_append_room_cells (P := Try.prog) (w := w) 25 25 23 info Try.underlying25 hi b o 0 0 a 0 c [] (by simp) (by simp) (by simp) (by simp) (by simp) (by simp)
  rw [h]
  simp [World.setCells]
open Go.Sort Go.Proofs in
theorem clone_c (a : Option Addr) (cap : Nat) (W : World) : Calls Try.prog 40 #[.slice a 0 cap] W fun e w' => ∃ a', e = .returned (.slice a' 0 0) ∧ ∃ os', w' = grow W os' := by
  have q22 : ∀ (w : World) (a : Option Addr) (n c n' c' : Nat), (binOp .eql 25 (.slice a n c) (.slice none n' c')).run Try.prog w = .ok (.bool a.isNone) w := fun w a n c n' c' => Lib.run_eql_slice_nil w _ _ a n c n' c' Try.underlying25
  have q23 := app0_c
  cases a with
  | none =>
    go_enter Try.func40, Try.ntmps40
    go_wp2
    go_ret
    exact ⟨_, rfl, #[], by simp [grow]⟩
  | some b =>
    go_enter Try.func40, Try.ntmps40
    go_wp2
    go_ret
    exact ⟨_, rfl, _, by rw [alloc_eq_grow]⟩
open Go.Sort Go.Proofs in
theorem clone_none (A : List Ht) : Spec Try.prog 40 [.v (.mr 1000 0 0)] [(1000, listB A)] [.v (.mr 7 0 0)] [(1000, listB A), (7, listB [])] := by
  intro w G vals hv hN hz
  match vals, hv with
  | [v1], ⟨h1, _⟩ =>
  simp only [AVR] at h1
  have hval : ∃ a cap, v1 = .slice a 0 cap := by
    cases h1 with
    | mr0 => exact ⟨_, _, rfl⟩
    | mr => exact ⟨_, _, rfl⟩
  obtain ⟨a, cap, rfl⟩ := hval
  refine Calls.mono (clone_c a cap w) ?_
  rintro e w' ⟨a', rfl, os, rfl⟩
  have hreg := fun k => hN.reg 1000 (listB A) k rfl
  have hblk : BlkR { hw := G.hw, ph := fun n => if n = 7 then none else G.ph n, reg := fun n k => if n = 7 then False else G.reg n k } (grow w os) 1000 (listB A) := by
    refine BlkR.move (hN.blk 1000 _ rfl) (by simp) (fun k h => by simpa using h) (fun k h => by simpa using h) (fun v y h => h.mono (fun _ => Nat.le_refl _) (fun b j u _ hc => by rw [cell?_grow _ _ _ (World.block_lt_of_cell? w _ hc)]; exact hc)) (fun k h => heap_grow_old _ _ (hreg k h).2) (fun k h => ?_)
    rw [show (listB A).has k = false from hasRows_up k (hrows A)] at h; cases h
  have hk : ∀ nm blk, hGet [(1000, listB A), (7, listB [])] nm = some blk → (nm = 1000 ∧ blk = listB A) ∨ (nm = 7 ∧ blk = listB []) := by
    intro nm blk h
    by_cases e1 : nm = 1000
    · subst e1; exact .inl ⟨rfl, (Option.some.inj h).symm⟩
    · by_cases e2 : nm = 7
      · subst e2; exact .inr ⟨rfl, (Option.some.inj h).symm⟩
      · simp [hGet, e1, e2] at h
  have hsize : w.heap.size ≤ (grow w os).heap.size := by rw [size_grow]; omega
  refine ⟨_, { hw := G.hw, ph := fun n => if n = 7 then none else G.ph n, reg := fun n k => if n = 7 then False else G.reg n k }, rfl, .mr0 7 0 a', ⟨?_, ?_, ?_⟩, ?_, ?_, ⟨rfl, rfl, rfl, hsize, fun k hk _ => heap_grow_old _ _ hk⟩, fun _ _ _ => rfl, fun b hb => hz b (Nat.le_trans hsize hb)⟩
  · intro nm blk h
    rcases hk nm blk h with ⟨rfl, rfl⟩ | ⟨rfl, rfl⟩
    · exact hblk
    · simp [listB, BlkR, hrows, up]
  · intro nm blk k h hr
    rcases hk nm blk h with ⟨rfl, rfl⟩ | ⟨rfl, rfl⟩
    · have := hreg k (by simpa using hr)
      exact ⟨this.1, Nat.lt_of_lt_of_le this.2 hsize⟩
    · simp at hr
  · intro nm nm' blk blk' k h h' hr hr'
    rcases hk nm blk h with ⟨rfl, rfl⟩ | ⟨rfl, rfl⟩
    · rcases hk nm' blk' h' with ⟨rfl, rfl⟩ | ⟨rfl, rfl⟩
      · rfl
      · simp at hr'
    · simp at hr
  · intro nm blk k h hr
    rcases hk nm blk h with ⟨rfl, rfl⟩ | ⟨rfl, rfl⟩
    · exact .inl ⟨1000, _, rfl, by simpa using hr⟩
    · simp at hr
  · intro nm blk blk' h h'
    rcases hk nm blk' h' with ⟨rfl, rfl⟩ | ⟨rfl, rfl⟩
    · simp
    · simp [hGet] at h
theorem clone_any (A : List Ht) (n : Nat) (hn : n ≤ A.length) (hl : n * 16 ≤ 140737488355328) : Spec Try.prog 40 [.v (.mr 1000 0 n)] [(1000, listB A)] [.v (.mr 7 0 n)] [(1000, listB A), (7, listB (A.take n))] := by
  rcases Nat.eq_zero_or_pos n with h | h
  · subst h; exact clone_none A
  · exact clone_some A n hn h hl
theorem clone_some_t (l : List Ht) (hp : 0 < l.length) (hl : l.length * 16 ≤ 140737488355328) : Spec Try.prog 40 [.v (.t (.sl 2 (hrows l)))] [] [.v (.mr 7 0 l.length)] [(7, listB l)] := by
  have f1 : decide (0 < l.length) = true := decide_eq_true hp
  have f5 : (up (hrows l)).length = l.length := by simp [up, hrows]
  have f6 : (l.length * 16 ≤ 140737488355328 ∧ l.length ≤ 9223372036854775807) := by omega
  refine spec_by Try.func40 rfl mixed tOk evOk (n := 8) rfl (by simp) (by simp) ?_
  rw [initSt_mk, show Try.f40.results.toList = [.tmp 2] from rfl]
  simp only [initL, AV.sv, List.map_cons, List.map_nil, Nat.reduceAdd, Nat.zero_add, listB]
  repeat' (first
   | (with_reducible first | refine s_seq ?_ | refine s_block ?_ | refine s_region fun kr hr => ?_)
   | (with_reducible refine s_text tOk [5, 7, 1000, 1001, 1002, 1003] (by kernel_rfl) (by simp [HeapIn, namers, namerDst, namerOp, namedOp, namedFn, ownLoad, Blk.has, hasRows, hasL, CV.has, hasRows_up, hasM_up, hasRows_append, f1, hrows_len, f5, f6, List.nil_append, List.length_nil, hasRows]; (try ((repeat' apply And.intro) <;> intros <;> omega))) fun kr hr => ?_)
   | (with_reducible first | refine s_op fun K' hk => ?_ | refine t_op fun K' hk => ?_ | (refine hk _ ?_; clear hk K') | (refine ht _ ?_; clear ht hf KT KF) | (refine hf _ ?_; clear ht hf KT KF) | ((first | refine s_nil ?_ | refine t_nil ?_); refine hr _ ?_; clear hr kr))
   | ((with_reducible refine n_seqK [0, 1, 2, 4] [5, 7, 1000, 1001] ?_); simp only [mk_keep, keepL, List.mem_cons, List.not_mem_nil, Nat.reduceEqDiff, Nat.zero_ne_one, Nat.one_ne_zero, reduceCtorEq, or_false, false_or, or_true, true_or, or_self, eq_self, ↓reduceIte])
   | (with_reducible first | refine s_cond fun KT KF ht hf => ?_ | refine s_skip ?_)
   | ((with_reducible refine s_long ?_); simp only [List.cons_append, List.nil_append])
   | (with_reducible first | refine s_exit ?_ | refine s_ret ?_ | refine e_seq ?_ | refine r_seq ?_ | refine n_block ?_ | refine e_block ?_ | refine r_block ?_ | refine e_loop ?_ | refine r_loop ?_ | refine e_round ?_ | refine r_round ?_ | refine s_round ?_ | refine f_block ?_ (by decide) | refine r_res ?_ | refine n_res ?_)
   | (simp only [hgb, go_sem, Int.reduceToNat, ↓reduceIte, reduceCtorEq, Nat.reduceEqDiff, Nat.reduceAdd, Nat.reduceMul, Nat.reduceLT, Nat.reduceLeDiff, Nat.reduceBEq, Int.reduceBEq, Int.reduceBNe, String.reduceBEq, Int.reduceEq, Int.reduceLT, Int.reduceLE, Int.reduceGE, Int.reduceGT, f1, hrows_len, f5, f6, List.nil_append, List.length_nil, hasRows]; clear hgb)
   | simp only [go_sem, Int.reduceToNat, ↓reduceIte, reduceCtorEq, Nat.reduceEqDiff, Nat.reduceAdd, Nat.reduceMul, Nat.reduceLT, Nat.reduceLeDiff, Nat.reduceBEq, Int.reduceBEq, Int.reduceBNe, String.reduceBEq, Int.reduceEq, Int.reduceLT, Int.reduceLE, Int.reduceGE, Int.reduceGT, f1, hrows_len, f5, f6, List.nil_append, List.length_nil, hasRows, hAll]
   | (refine ite_guard (fun hg => ?_) (fun hg => ?_) <;> (try simp only [Bool.not_eq_true, Bool.not_eq_false, Decidable.not_not] at hg) <;> (first | have hgb : (_ : Bool) = _ := hg | have hgb := ff hg | have hgb := tt hg))
   | (refine ⟨fun hc => ht _ ?_, fun hc => hf _ ?_⟩ <;> clear ht hf KT KF)
   | fail)
theorem names_one {nm : Nat} {b : Blk} {nm' : Nat} {blk : Blk} (h : hGet [(nm, b)] nm' = some blk) : nm' = nm ∧ blk = b := by
  by_cases e : nm' = nm
  · subst e; simp [hGet] at h; exact ⟨rfl, h.symm⟩
  · simp [hGet, e] at h
open Go.Sort Go.Proofs in
theorem clone_none_t : Spec Try.prog 40 [.v (.t (.sl 2 []))] [] [.v (.mr 7 0 0)] [(7, listB [])] := by
  intro w G vals hv hN hz
  match vals, hv with
  | [v1], ⟨h1, _⟩ =>
  simp only [AVR] at h1
  have hval : ∃ a cap, v1 = .slice a 0 cap := by
    cases h1 with
    | t h => cases h with
      | nil => exact ⟨_, _, rfl⟩
      | sl _ _ b o cap => exact ⟨_, _, rfl⟩
  obtain ⟨a, cap, rfl⟩ := hval
  refine Calls.mono (clone_c a cap w) ?_
  rintro e w' ⟨a', rfl, os, rfl⟩
  have hsize : w.heap.size ≤ (grow w os).heap.size := by rw [size_grow]; omega
  refine ⟨_, { hw := G.hw, ph := fun n => if n = 7 then none else G.ph n, reg := fun n k => if n = 7 then False else G.reg n k }, rfl, .mr0 7 0 a', ⟨?_, ?_, ?_⟩, ?_, ?_, ⟨rfl, rfl, rfl, hsize, fun k hk _ => heap_grow_old _ _ hk⟩, fun _ _ _ => rfl, fun b hb => hz b (Nat.le_trans hsize hb)⟩
  · intro nm blk h
    obtain ⟨rfl, rfl⟩ := names_one h
    simp [listB, BlkR, hrows, up]
  · intro nm blk k h hr
    obtain ⟨rfl, rfl⟩ := names_one h
    simp at hr
  · intro nm nm' blk blk' k h h' hr hr'
    obtain ⟨rfl, rfl⟩ := names_one h
    simp at hr
  · intro nm blk k h hr
    obtain ⟨rfl, rfl⟩ := names_one h
    simp at hr
  · intro nm blk blk' h h'
    simp [hGet] at h
theorem clone_any_t (l : List Ht) (hl : l.length * 16 ≤ 140737488355328) : Spec Try.prog 40 [.v (.t (.sl 2 (hrows l)))] [] [.v (.mr 7 0 l.length)] [(7, listB l)] := by
  rcases Nat.eq_zero_or_pos l.length with h | h
  · obtain rfl := List.eq_nil_of_length_eq_zero h
    exact clone_none_t
  · exact clone_some_t l h hl
theorem tsort_none (m : Int) (A : List Ht) (n : Nat) (hM : mOk m = false) : Spec Try.prog 14 [.v (.t (.int .i64 m)), .v (.mr 1000 0 n)] [(1000, listB A)] [.v (.t (.sl 2 []))] [(1000, listB A)] := by
  have h1 := metric_spec m
  rw [hM] at h1
  refine spec_by Try.func14 rfl mixed tOk evOk (n := 15) rfl (by simp) (by simp) ?_
  rw [initSt_mk, show Try.f14.results.toList = [.tmp 4] from rfl]
  simp only [initL, AV.sv, List.map_cons, List.map_nil, Nat.reduceAdd, Nat.zero_add, listB, boxB]
  repeat' (first
   | (with_reducible first | refine s_seq ?_ | refine s_block ?_ | refine s_region fun kr hr => ?_)
   | (with_reducible refine s_text tOk [2, 4, 1000, 1001, 1002, 1003] (by kernel_rfl) (by simp [HeapIn, namers, namerDst, namerOp, namedOp, namedFn, ownLoad, Blk.has, hasRows, hasL, CV.has, hasRows_up, hasM_up, hasRows_append]; (try ((repeat' apply And.intro) <;> intros <;> omega))) fun kr hr => ?_)
   | (with_reducible first | refine s_op fun K' hk => ?_ | refine t_op fun K' hk => ?_ | (refine hk _ ?_; clear hk K') | (refine ht _ ?_; clear ht hf KT KF) | (refine hf _ ?_; clear ht hf KT KF) | ((first | refine s_nil ?_ | refine t_nil ?_); refine hr _ ?_; clear hr kr))
   | ((with_reducible refine n_seqK [0, 1, 2, 3, 4, 5, 8] [2, 4, 1000, 1001] ?_); simp only [mk_keep, keepL, List.mem_cons, List.not_mem_nil, Nat.reduceEqDiff, Nat.zero_ne_one, Nat.one_ne_zero, reduceCtorEq, or_false, false_or, or_true, true_or, or_self, eq_self, ↓reduceIte])
   | (with_reducible first | refine s_cond fun KT KF ht hf => ?_ | refine s_skip ?_)
   | ((with_reducible refine s_long ?_); simp only [List.cons_append, List.nil_append])
   | (with_reducible first | refine s_exit ?_ | refine s_ret ?_ | refine e_seq ?_ | refine r_seq ?_ | refine n_block ?_ | refine e_block ?_ | refine r_block ?_ | refine e_loop ?_ | refine r_loop ?_ | refine e_round ?_ | refine r_round ?_ | refine s_round ?_ | refine f_block ?_ (by decide) | refine r_res ?_ | refine n_res ?_)
   | (simp only [hgb, go_sem, Int.reduceToNat, ↓reduceIte, reduceCtorEq, Nat.reduceEqDiff, Nat.reduceAdd, Nat.reduceMul, Nat.reduceLT, Nat.reduceLeDiff, Nat.reduceBEq, Int.reduceBEq, Int.reduceBNe, String.reduceBEq, Int.reduceEq, Int.reduceLT, Int.reduceLE, Int.reduceGE, Int.reduceGT, callE, resSV, AV.flat, CV.flat, TV.flat]; clear hgb)
   | simp only [go_sem, Int.reduceToNat, ↓reduceIte, reduceCtorEq, Nat.reduceEqDiff, Nat.reduceAdd, Nat.reduceMul, Nat.reduceLT, Nat.reduceLeDiff, Nat.reduceBEq, Int.reduceBEq, Int.reduceBNe, String.reduceBEq, Int.reduceEq, Int.reduceLT, Int.reduceLE, Int.reduceGE, Int.reduceGT, callE, resSV, AV.flat, CV.flat, TV.flat, hAll]
   | refine Or.inl ⟨_, ⟨fun _ _ => rfl, h1⟩, ?_⟩
   | refine ⟨_, ⟨fun _ _ => rfl, h1⟩, ?_⟩
   | (refine ite_guard (fun hg => ?_) (fun hg => ?_) <;> (try simp only [Bool.not_eq_true, Bool.not_eq_false, Decidable.not_not] at hg) <;> (first | have hgb : (_ : Bool) = _ := hg | have hgb := ff hg | have hgb := tt hg))
   | (refine ⟨fun hc => ht _ ?_, fun hc => hf _ ?_⟩ <;> clear ht hf KT KF)
   | fail)
theorem tsort_some (m : Int) (A : List Ht) (n : Nat) (hM : mOk m = true) (hn : n ≤ A.length) (hl : n * 16 ≤ 140737488355328) : Spec Try.prog 14 [.v (.t (.int .i64 m)), .v (.mr 1000 0 n)] [(1000, listB A)] [.v (.mr 10 0 n)] [(1000, listB A), (10, listB (hsort m (A.take n)))] := by
  have h1 := metric_spec m
  rw [hM] at h1
  have h2 := clone_any A n hn hl
  have e : (A.take n).length = n := by simp; omega
  have h3 := sort_any m hM (A.take n) (by omega)
  rw [e] at h3
  refine spec_by Try.func14 rfl mixed tOk evOk (n := 15) rfl (by simp) (by simp) ?_
  rw [initSt_mk, show Try.f14.results.toList = [.tmp 4] from rfl]
  simp only [initL, AV.sv, List.map_cons, List.map_nil, Nat.reduceAdd, Nat.zero_add, listB, boxB]
  repeat' (first
   | (with_reducible first | refine s_seq ?_ | refine s_block ?_ | refine s_region fun kr hr => ?_)
   | (with_reducible refine s_text tOk [2, 10, 1000, 1001, 1002, 1003] (by kernel_rfl) (by simp [HeapIn, namers, namerDst, namerOp, namedOp, namedFn, ownLoad, Blk.has, hasRows, hasL, CV.has, hasRows_up, hasM_up, hasRows_append, boxB, listB]; (try ((repeat' apply And.intro) <;> intros <;> omega))) fun kr hr => ?_)
   | (with_reducible first | refine s_op fun K' hk => ?_ | refine t_op fun K' hk => ?_ | (refine hk _ ?_; clear hk K') | (refine ht _ ?_; clear ht hf KT KF) | (refine hf _ ?_; clear ht hf KT KF) | ((first | refine s_nil ?_ | refine t_nil ?_); refine hr _ ?_; clear hr kr))
   | ((with_reducible refine n_seqK [0, 1, 2, 3, 4, 5, 8] [2, 10, 1000, 1001] ?_); simp only [mk_keep, keepL, List.mem_cons, List.not_mem_nil, Nat.reduceEqDiff, Nat.zero_ne_one, Nat.one_ne_zero, reduceCtorEq, or_false, false_or, or_true, true_or, or_self, eq_self, ↓reduceIte])
   | (with_reducible first | refine s_cond fun KT KF ht hf => ?_ | refine s_skip ?_)
   | ((with_reducible refine s_long ?_); simp only [List.cons_append, List.nil_append])
   | (with_reducible first | refine s_exit ?_ | refine s_ret ?_ | refine e_seq ?_ | refine r_seq ?_ | refine n_block ?_ | refine e_block ?_ | refine r_block ?_ | refine e_loop ?_ | refine r_loop ?_ | refine e_round ?_ | refine r_round ?_ | refine s_round ?_ | refine f_block ?_ (by decide) | refine r_res ?_ | refine n_res ?_)
   | (simp only [hgb, go_sem, Int.reduceToNat, ↓reduceIte, reduceCtorEq, Nat.reduceEqDiff, Nat.reduceAdd, Nat.reduceMul, Nat.reduceLT, Nat.reduceLeDiff, Nat.reduceBEq, Int.reduceBEq, Int.reduceBNe, String.reduceBEq, Int.reduceEq, Int.reduceLT, Int.reduceLE, Int.reduceGE, Int.reduceGT, boxB, listB, callE, resSV, AV.flat, CV.flat, TV.flat]; clear hgb)
   | simp only [go_sem, Int.reduceToNat, ↓reduceIte, reduceCtorEq, Nat.reduceEqDiff, Nat.reduceAdd, Nat.reduceMul, Nat.reduceLT, Nat.reduceLeDiff, Nat.reduceBEq, Int.reduceBEq, Int.reduceBNe, String.reduceBEq, Int.reduceEq, Int.reduceLT, Int.reduceLE, Int.reduceGE, Int.reduceGT, boxB, listB, callE, resSV, AV.flat, CV.flat, TV.flat, hAll]
   | refine Or.inl ⟨_, ⟨fun _ _ => rfl, h1⟩, ?_⟩
   | refine ⟨_, ⟨fun _ _ => rfl, h1⟩, ?_⟩
   | refine Or.inr (m_callN [(1000,1000),(7,10)] [1000] [1000,7] [10] [1000] ⟨fun _ _ => rfl, h2⟩ rfl rfl (by first | (simp [avren_v, avren_a, CV.ren, renL, renL_map, tbl, listB]; done) | fail) rfl rfl rfl rfl (by decide) (by first | (simp [hAll, hRen, mk_heap, hL, tbl, Blk.ren, renRows_up, renRows, renL, CV.ren, listB]; done) | fail) (by first | (simp [Blk.has, hasRows, hasL, CV.has, hasRows_up, hasM_up, listB]; done) | fail) (by first | (intro k; simp [hasA, AV.has, CV.has, hasL, Blk.has, hasRows, hasRows_up, hasM_up, listB]; done) | (intro k; simp [hasA, AV.has, CV.has, hasL, Blk.has, hasRows, hasRows_up, hasM_up, listB]; omega) | fail) ?_)
   | refine (m_callN [(1000,1000),(7,10)] [1000] [1000,7] [10] [1000] ⟨fun _ _ => rfl, h2⟩ rfl rfl (by first | (simp [avren_v, avren_a, CV.ren, renL, renL_map, tbl, listB]; done) | fail) rfl rfl rfl rfl (by decide) (by first | (simp [hAll, hRen, mk_heap, hL, tbl, Blk.ren, renRows_up, renRows, renL, CV.ren, listB]; done) | fail) (by first | (simp [Blk.has, hasRows, hasL, CV.has, hasRows_up, hasM_up, listB]; done) | fail) (by first | (intro k; simp [hasA, AV.has, CV.has, hasL, Blk.has, hasRows, hasRows_up, hasM_up, listB]; done) | (intro k; simp [hasA, AV.has, CV.has, hasL, Blk.has, hasRows, hasRows_up, hasM_up, listB]; omega) | fail) ?_)
   | refine Or.inr (m_callN [(1000,10),(1001,2)] [1000,1001] [1000,1001] [] [10, 2] ⟨fun _ _ => rfl, h3⟩ rfl rfl (by first | (simp [avren_v, avren_a, CV.ren, renL, renL_map, tbl, listB, boxB]; done) | fail) rfl rfl rfl rfl (by decide) (by first | (simp [hAll, hRen, mk_heap, hL, tbl, Blk.ren, renRows_up, renRows, renL, CV.ren, listB, boxB]; done) | fail) (by first | (simp [Blk.has, hasRows, hasL, CV.has, hasRows_up, hasM_up, listB, boxB]; done) | fail) (by first | (intro k; simp [hasA, AV.has, CV.has, hasL, Blk.has, hasRows, hasRows_up, hasM_up, listB, boxB]; done) | (intro k; simp [hasA, AV.has, CV.has, hasL, Blk.has, hasRows, hasRows_up, hasM_up, listB, boxB]; omega) | fail) ?_)
   | refine (m_callN [(1000,10),(1001,2)] [1000,1001] [1000,1001] [] [10, 2] ⟨fun _ _ => rfl, h3⟩ rfl rfl (by first | (simp [avren_v, avren_a, CV.ren, renL, renL_map, tbl, listB, boxB]; done) | fail) rfl rfl rfl rfl (by decide) (by first | (simp [hAll, hRen, mk_heap, hL, tbl, Blk.ren, renRows_up, renRows, renL, CV.ren, listB, boxB]; done) | fail) (by first | (simp [Blk.has, hasRows, hasL, CV.has, hasRows_up, hasM_up, listB, boxB]; done) | fail) (by first | (intro k; simp [hasA, AV.has, CV.has, hasL, Blk.has, hasRows, hasRows_up, hasM_up, listB, boxB]; done) | (intro k; simp [hasA, AV.has, CV.has, hasL, Blk.has, hasRows, hasRows_up, hasM_up, listB, boxB]; omega) | fail) ?_)
   | (refine ite_guard (fun hg => ?_) (fun hg => ?_) <;> (try simp only [Bool.not_eq_true, Bool.not_eq_false, Decidable.not_not] at hg) <;> (first | have hgb : (_ : Bool) = _ := hg | have hgb := ff hg | have hgb := tt hg))
   | (refine ⟨fun hc => ht _ ?_, fun hc => hf _ ?_⟩ <;> clear ht hf KT KF)
   | fail)
theorem tsort_tnone (m : Int) (rows : List (List TV)) (hM : mOk m = false) : Spec Try.prog 14 [.v (.t (.int .i64 m)), .v (.t (.sl 2 rows))] [] [.v (.t (.sl 2 []))] [] := by
  have h1 := metric_spec m
  rw [hM] at h1
  refine spec_by Try.func14 rfl mixed tOk evOk (n := 15) rfl (by simp) (by simp) ?_
  rw [initSt_mk, show Try.f14.results.toList = [.tmp 4] from rfl]
  simp only [initL, AV.sv, List.map_cons, List.map_nil, Nat.reduceAdd, Nat.zero_add, boxB]
  repeat' (first
   | (with_reducible first | refine s_seq ?_ | refine s_block ?_ | refine s_region fun kr hr => ?_)
   | (with_reducible refine s_text tOk [2, 4, 1000, 1001, 1002, 1003] (by kernel_rfl) (by simp [HeapIn, namers, namerDst, namerOp, namedOp, namedFn, ownLoad, Blk.has, hasRows, hasL, CV.has, hasRows_up, hasM_up, hasRows_append]; (try ((repeat' apply And.intro) <;> intros <;> omega))) fun kr hr => ?_)
   | (with_reducible first | refine s_op fun K' hk => ?_ | refine t_op fun K' hk => ?_ | (refine hk _ ?_; clear hk K') | (refine ht _ ?_; clear ht hf KT KF) | (refine hf _ ?_; clear ht hf KT KF) | ((first | refine s_nil ?_ | refine t_nil ?_); refine hr _ ?_; clear hr kr))
   | ((with_reducible refine n_seqK [0, 1, 2, 3, 4, 5, 8] [2, 4, 1000, 1001] ?_); simp only [mk_keep, keepL, List.mem_cons, List.not_mem_nil, Nat.reduceEqDiff, Nat.zero_ne_one, Nat.one_ne_zero, reduceCtorEq, or_false, false_or, or_true, true_or, or_self, eq_self, ↓reduceIte])
   | (with_reducible first | refine s_cond fun KT KF ht hf => ?_ | refine s_skip ?_)
   | ((with_reducible refine s_long ?_); simp only [List.cons_append, List.nil_append])
   | (with_reducible first | refine s_exit ?_ | refine s_ret ?_ | refine e_seq ?_ | refine r_seq ?_ | refine n_block ?_ | refine e_block ?_ | refine r_block ?_ | refine e_loop ?_ | refine r_loop ?_ | refine e_round ?_ | refine r_round ?_ | refine s_round ?_ | refine f_block ?_ (by decide) | refine r_res ?_ | refine n_res ?_)
   | (simp only [hgb, go_sem, Int.reduceToNat, ↓reduceIte, reduceCtorEq, Nat.reduceEqDiff, Nat.reduceAdd, Nat.reduceMul, Nat.reduceLT, Nat.reduceLeDiff, Nat.reduceBEq, Int.reduceBEq, Int.reduceBNe, String.reduceBEq, Int.reduceEq, Int.reduceLT, Int.reduceLE, Int.reduceGE, Int.reduceGT, callE, resSV, AV.flat, CV.flat, TV.flat]; clear hgb)
   | simp only [go_sem, Int.reduceToNat, ↓reduceIte, reduceCtorEq, Nat.reduceEqDiff, Nat.reduceAdd, Nat.reduceMul, Nat.reduceLT, Nat.reduceLeDiff, Nat.reduceBEq, Int.reduceBEq, Int.reduceBNe, String.reduceBEq, Int.reduceEq, Int.reduceLT, Int.reduceLE, Int.reduceGE, Int.reduceGT, callE, resSV, AV.flat, CV.flat, TV.flat, hAll]
   | refine Or.inl ⟨_, ⟨fun _ _ => rfl, h1⟩, ?_⟩
   | refine ⟨_, ⟨fun _ _ => rfl, h1⟩, ?_⟩
   | (refine ite_guard (fun hg => ?_) (fun hg => ?_) <;> (try simp only [Bool.not_eq_true, Bool.not_eq_false, Decidable.not_not] at hg) <;> (first | have hgb : (_ : Bool) = _ := hg | have hgb := ff hg | have hgb := tt hg))
   | (refine ⟨fun hc => ht _ ?_, fun hc => hf _ ?_⟩ <;> clear ht hf KT KF)
   | fail)
theorem tsort_tree (m : Int) (l : List Ht) (hM : mOk m = true) (hl : l.length * 16 ≤ 140737488355328) : Spec Try.prog 14 [.v (.t (.int .i64 m)), .v (.t (.sl 2 (hrows l)))] [] [.v (.mr 10 0 l.length)] [(10, listB (hsort m l))] := by
  have h1 := metric_spec m
  rw [hM] at h1
  have h2 := clone_any_t l hl
  have h3 := sort_any m hM l (by omega)
  refine spec_by Try.func14 rfl mixed tOk evOk (n := 15) rfl (by simp) (by simp) ?_
  rw [initSt_mk, show Try.f14.results.toList = [.tmp 4] from rfl]
  simp only [initL, AV.sv, List.map_cons, List.map_nil, Nat.reduceAdd, Nat.zero_add, listB, boxB]
  repeat' (first
   | (with_reducible first | refine s_seq ?_ | refine s_block ?_ | refine s_region fun kr hr => ?_)
   | (with_reducible refine s_text tOk [2, 10, 1000, 1001, 1002, 1003] (by kernel_rfl) (by simp [HeapIn, namers, namerDst, namerOp, namedOp, namedFn, ownLoad, Blk.has, hasRows, hasL, CV.has, hasRows_up, hasM_up, hasRows_append, boxB, listB]; (try ((repeat' apply And.intro) <;> intros <;> omega))) fun kr hr => ?_)
   | (with_reducible first | refine s_op fun K' hk => ?_ | refine t_op fun K' hk => ?_ | (refine hk _ ?_; clear hk K') | (refine ht _ ?_; clear ht hf KT KF) | (refine hf _ ?_; clear ht hf KT KF) | ((first | refine s_nil ?_ | refine t_nil ?_); refine hr _ ?_; clear hr kr))
   | ((with_reducible refine n_seqK [0, 1, 2, 3, 4, 5, 8] [2, 10, 1000, 1001] ?_); simp only [mk_keep, keepL, List.mem_cons, List.not_mem_nil, Nat.reduceEqDiff, Nat.zero_ne_one, Nat.one_ne_zero, reduceCtorEq, or_false, false_or, or_true, true_or, or_self, eq_self, ↓reduceIte])
   | (with_reducible first | refine s_cond fun KT KF ht hf => ?_ | refine s_skip ?_)
   | ((with_reducible refine s_long ?_); simp only [List.cons_append, List.nil_append])
   | (with_reducible first | refine s_exit ?_ | refine s_ret ?_ | refine e_seq ?_ | refine r_seq ?_ | refine n_block ?_ | refine e_block ?_ | refine r_block ?_ | refine e_loop ?_ | refine r_loop ?_ | refine e_round ?_ | refine r_round ?_ | refine s_round ?_ | refine f_block ?_ (by decide) | refine r_res ?_ | refine n_res ?_)
   | (simp only [hgb, go_sem, Int.reduceToNat, ↓reduceIte, reduceCtorEq, Nat.reduceEqDiff, Nat.reduceAdd, Nat.reduceMul, Nat.reduceLT, Nat.reduceLeDiff, Nat.reduceBEq, Int.reduceBEq, Int.reduceBNe, String.reduceBEq, Int.reduceEq, Int.reduceLT, Int.reduceLE, Int.reduceGE, Int.reduceGT, boxB, listB, callE, resSV, AV.flat, CV.flat, TV.flat]; clear hgb)
   | simp only [go_sem, Int.reduceToNat, ↓reduceIte, reduceCtorEq, Nat.reduceEqDiff, Nat.reduceAdd, Nat.reduceMul, Nat.reduceLT, Nat.reduceLeDiff, Nat.reduceBEq, Int.reduceBEq, Int.reduceBNe, String.reduceBEq, Int.reduceEq, Int.reduceLT, Int.reduceLE, Int.reduceGE, Int.reduceGT, boxB, listB, callE, resSV, AV.flat, CV.flat, TV.flat, hAll]
   | refine Or.inl ⟨_, ⟨fun _ _ => rfl, h1⟩, ?_⟩
   | refine ⟨_, ⟨fun _ _ => rfl, h1⟩, ?_⟩
   | refine Or.inr (m_callN [(7,10)] [] [7] [10] [] ⟨fun _ _ => rfl, h2⟩ rfl rfl (by first | (simp [avren_v, avren_a, CV.ren, renL, renL_map, tbl, listB]; done) | fail) rfl rfl rfl rfl (by decide) (by first | (simp [hAll, hRen, mk_heap, hL, tbl, Blk.ren, renRows_up, renRows, renL, CV.ren, listB]; done) | fail) (by first | (simp [Blk.has, hasRows, hasL, CV.has, hasRows_up, hasM_up, listB]; done) | fail) (by first | (intro k; simp [hasA, AV.has, CV.has, hasL, Blk.has, hasRows, hasRows_up, hasM_up, listB]; done) | (intro k; simp [hasA, AV.has, CV.has, hasL, Blk.has, hasRows, hasRows_up, hasM_up, listB]; omega) | fail) ?_)
   | refine (m_callN [(7,10)] [] [7] [10] [] ⟨fun _ _ => rfl, h2⟩ rfl rfl (by first | (simp [avren_v, avren_a, CV.ren, renL, renL_map, tbl, listB]; done) | fail) rfl rfl rfl rfl (by decide) (by first | (simp [hAll, hRen, mk_heap, hL, tbl, Blk.ren, renRows_up, renRows, renL, CV.ren, listB]; done) | fail) (by first | (simp [Blk.has, hasRows, hasL, CV.has, hasRows_up, hasM_up, listB]; done) | fail) (by first | (intro k; simp [hasA, AV.has, CV.has, hasL, Blk.has, hasRows, hasRows_up, hasM_up, listB]; done) | (intro k; simp [hasA, AV.has, CV.has, hasL, Blk.has, hasRows, hasRows_up, hasM_up, listB]; omega) | fail) ?_)
   | refine Or.inr (m_callN [(1000,10),(1001,2)] [1000,1001] [1000,1001] [] [10, 2] ⟨fun _ _ => rfl, h3⟩ rfl rfl (by first | (simp [avren_v, avren_a, CV.ren, renL, renL_map, tbl, listB, boxB]; done) | fail) rfl rfl rfl rfl (by decide) (by first | (simp [hAll, hRen, mk_heap, hL, tbl, Blk.ren, renRows_up, renRows, renL, CV.ren, listB, boxB]; done) | fail) (by first | (simp [Blk.has, hasRows, hasL, CV.has, hasRows_up, hasM_up, listB, boxB]; done) | fail) (by first | (intro k; simp [hasA, AV.has, CV.has, hasL, Blk.has, hasRows, hasRows_up, hasM_up, listB, boxB]; done) | (intro k; simp [hasA, AV.has, CV.has, hasL, Blk.has, hasRows, hasRows_up, hasM_up, listB, boxB]; omega) | fail) ?_)
   | refine (m_callN [(1000,10),(1001,2)] [1000,1001] [1000,1001] [] [10, 2] ⟨fun _ _ => rfl, h3⟩ rfl rfl (by first | (simp [avren_v, avren_a, CV.ren, renL, renL_map, tbl, listB, boxB]; done) | fail) rfl rfl rfl rfl (by decide) (by first | (simp [hAll, hRen, mk_heap, hL, tbl, Blk.ren, renRows_up, renRows, renL, CV.ren, listB, boxB]; done) | fail) (by first | (simp [Blk.has, hasRows, hasL, CV.has, hasRows_up, hasM_up, listB, boxB]; done) | fail) (by first | (intro k; simp [hasA, AV.has, CV.has, hasL, Blk.has, hasRows, hasRows_up, hasM_up, listB, boxB]; done) | (intro k; simp [hasA, AV.has, CV.has, hasL, Blk.has, hasRows, hasRows_up, hasM_up, listB, boxB]; omega) | fail) ?_)
   | (refine ite_guard (fun hg => ?_) (fun hg => ?_) <;> (try simp only [Bool.not_eq_true, Bool.not_eq_false, Decidable.not_not] at hg) <;> (first | have hgb : (_ : Bool) = _ := hg | have hgb := ff hg | have hgb := tt hg))
   | (refine ⟨fun hc => ht _ ?_, fun hc => hf _ ?_⟩ <;> clear ht hf KT KF)
   | fail)
end Go.Proofs.Ytgmjgognpabmdaa.Fx
