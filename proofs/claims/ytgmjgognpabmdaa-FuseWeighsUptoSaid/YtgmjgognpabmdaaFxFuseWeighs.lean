/- The law FuseWeighs. -/
import Derived.Test.YtgmjgognpabmdaaFxRefWeigh
import Derived.Test.YtgmjgognpabmdaaFxRankLaw
import Derived.Test.YtgmjgognpabmdaaFxSrt
import Derived.Test.YtgmjgognpabmdaaFxTrim
import Derived.Test.YtgmjgognpabmdaaFxAwake25
-- ren_map
namespace Go.Proofs.Ytgmjgognpabmdaa.Fx
open Go Go.RowKit
set_option linter.unusedSimpArgs false
set_option linter.unusedVariables false
def fstI (l : List Ht) (i : Int) : Option Ht := l.find? fun z => z.1 == i
theorem fst_snoc (l : List Ht) (z : Ht) (i : Int) : fstI (l ++ [z]) i = match fstI l i with
    | some q => some q
    | none => if z.1 = i then some z else none := by
  unfold fstI
  rw [List.find?_append]
  cases h : l.find? fun z => z.1 == i with
  | some p => simp
  | none =>
    by_cases hz : z.1 = i <;> simp [hz]
theorem fst_some {l : List Ht} {i : Int} : (fstI l i).isSome = true ↔ i ∈ idl l := by
  unfold fstI idl
  rw [List.find?_isSome, List.mem_map]
  simp
theorem wOver_or (mt n : Int) (ov : Bool) : wOver mt n ov = (ov || wOver mt n false) := by
  unfold wOver; split <;> simp
theorem wstep_eq (wt mt : Int) (s : WS) (z : Ht) : s.step wt mt z = if mval false s.sm z.1 = true then s else { cs := mclk s.cs s.sm z.1, sm := mset s.cs s.sm z.1 true, cm := mclk s.cm s.mm z.1, mm := mset s.cm s.mm z.1 (wst wt mt (mval 0 s.mm z.1) z.2).1, ov := s.ov || (wst wt mt (mval 0 s.mm z.1) z.2).2 } := by
  unfold WS.step wst
  rw [wOver_or]
  simp only [Bool.or_assoc]
theorem wgo_laws (wt mt : Int) (s : WS) (hs : s.sm = []) (l : List Ht) : ∀ k, k ≤ l.length →
    (∀ i, mval false (s.go wt mt l k).sm i = (fstI (l.take k) i).isSome) ∧
    (∀ i, mget (s.go wt mt l k).mm i = match fstI (l.take k) i with | some z => some (wst wt mt ((mget s.mm i).getD 0) z.2).1 | none => mget s.mm i) ∧
    ((s.go wt mt l k).ov = true ↔ s.ov = true ∨ ∃ i z, fstI (l.take k) i = some z ∧ (wst wt mt ((mget s.mm i).getD 0) z.2).2 = true)
  | 0, _ => by
    refine ⟨fun i => ?_, fun i => ?_, ?_⟩
    · rw [WS.go, hs]; simp [mval, pfind, fstI]
    · rw [WS.go]; simp [fstI]
    · rw [WS.go]; simp [fstI]
  | k + 1, hk => by
    obtain ⟨h1, h2, h3⟩ := wgo_laws wt mt s hs l k (by omega)
    have hz : l.getD k (0, 0) = l[k] := by rw [List.getD_eq_getElem?_getD, get_of_lt (by omega)]; rfl
    rw [List.take_succ_eq_append_getElem (by omega), WS.go, hz]
    generalize l[k] = z
    generalize s.go wt mt l k = t at *
    rw [wstep_eq]
    have h1z := h1 z.1
    by_cases hv : mval false t.sm z.1 = true
    · rw [if_pos hv]
      rw [hv] at h1z
      have key : ∀ i, fstI (l.take k ++ [z]) i = fstI (l.take k) i := fun i => by
        rw [fst_snoc]
        cases hc : fstI (l.take k) i with
        | some q => rfl
        | none =>
          simp only
          rw [if_neg]
          intro e
          rw [← e] at hc
          rw [hc] at h1z; cases h1z
      refine ⟨fun i => by rw [key]; exact h1 i, fun i => by rw [key]; exact h2 i, ?_⟩
      rw [h3]; simp only [key]
    · rw [if_neg hv]
      rw [Bool.not_eq_true] at hv
      rw [hv] at h1z
      have hcz : fstI (l.take k) z.1 = none := by
        cases hc : fstI (l.take k) z.1 with
        | none => rfl
        | some q => rw [hc] at h1z; cases h1z
      have h2z := h2 z.1
      rw [hcz] at h2z
      refine ⟨fun i => ?_, fun i => ?_, ?_⟩
      · simp only
        rw [mval_get, mget_mset, fst_snoc]
        by_cases hi : i = z.1
        · subst hi; rw [if_pos rfl, hcz]; simp
        · rw [if_neg hi, ← mval_get, h1 i]
          cases hc : fstI (l.take k) i with
          | some q => rfl
          | none => simp only; rw [if_neg (fun e => hi e.symm)]
      · simp only
        rw [mget_mset, fst_snoc]
        by_cases hi : i = z.1
        · subst hi
          rw [if_pos rfl, hcz, mval_get, h2z]
          simp
        · rw [if_neg hi, h2 i]
          cases hc : fstI (l.take k) i with
          | some q => rfl
          | none => simp only; rw [if_neg (fun e => hi e.symm)]
      · simp only [Bool.or_eq_true]
        rw [h3, mval_get, h2z]
        constructor
        · rintro ((h | ⟨i, q, h, h'⟩) | h)
          · exact .inl h
          · exact .inr ⟨i, q, by rw [fst_snoc, h], h'⟩
          · exact .inr ⟨z.1, z, by rw [fst_snoc, hcz]; simp, h⟩
        · rintro (h | ⟨i, q, h, h'⟩)
          · exact .inl (.inl h)
          · rw [fst_snoc] at h
            cases hc : fstI (l.take k) i with
            | some q' =>
              rw [hc] at h
              simp only at h
              exact .inl (.inr ⟨i, q, by rw [hc]; exact h, h'⟩)
            | none =>
              rw [hc] at h
              simp only at h
              by_cases hi : z.1 = i
              · rw [if_pos hi] at h
                obtain rfl := Option.some.inj h
                rw [← hi] at h'
                exact .inr h'
              · rw [if_neg hi] at h; cases h
theorem cB_succ (ls : List (List Ht)) (ms ws : List Int) (i : Int) (k : Nat) : cB ls ms ws i (k + 1) = match fstI (ls.getD k []) i with
    | some z => ((wst (ws.getD k 0) (ms.getD k 0) (cB ls ms ws i k).1 z.2).1, (cB ls ms ws i k).2 || (wst (ws.getD k 0) (ms.getD k 0) (cB ls ms ws i k).1 z.2).2)
    | none => cB ls ms ws i k := rfl
theorem wall_sem (ls : List (List Ht)) (ms ws : List Int) : ∀ k, k ≤ ls.length →
    (∀ i, mget (ws0.all ws ms ls k).mm i = if i ∈ idsL (ls.take k) then some (cB ls ms ws i k).1 else none) ∧
    ((ws0.all ws ms ls k).ov = true ↔ ∃ i, (cB ls ms ws i k).2 = true) ∧ ∀ i, i ∉ idsL (ls.take k) → cB ls ms ws i k = (0, false)
  | 0, _ => by
    refine ⟨fun i => ?_, ?_, fun i _ => rfl⟩
    · simp [WS.all, ws0, mget, pfind, idsL]
    · simp [WS.all, ws0, cB]
  | k + 1, hk => by
    obtain ⟨h1, h2, h3⟩ := wall_sem ls ms ws k (by omega)
    have e : ls.getD k [] = ls[k] := by rw [List.getD_eq_getElem?_getD, get_of_lt (by omega)]; rfl
    have hD : ∀ i, (mget (ws0.all ws ms ls k).mm i).getD 0 = (cB ls ms ws i k).1 := fun i => by
      rw [h1]
      split
      · rfl
      · rename_i h; rw [h3 i h]; rfl
    rw [WS.all, idsL_take (by omega), e]
    obtain ⟨_, g2, g3⟩ := wgo_laws (ws.getD k 0) (ms.getD k 0) ⟨(ws0.all ws ms ls k).cs, [], (ws0.all ws ms ls k).cm, (ws0.all ws ms ls k).mm, (ws0.all ws ms ls k).ov⟩ rfl ls[k] ls[k].length (Nat.le_refl _)
    rw [List.take_length] at g2 g3
    simp only [hD] at g2 g3
    have cs : ∀ i, cB ls ms ws i (k + 1) = match fstI ls[k] i with
        | some z => ((wst (ws.getD k 0) (ms.getD k 0) (cB ls ms ws i k).1 z.2).1, (cB ls ms ws i k).2 || (wst (ws.getD k 0) (ms.getD k 0) (cB ls ms ws i k).1 z.2).2)
        | none => cB ls ms ws i k := fun i => by rw [cB_succ, e]
    have hno : ∀ i, fstI ls[k] i = none ↔ i ∉ idl ls[k] := fun i => by
      rw [← fst_some]; cases fstI ls[k] i <;> simp
    refine ⟨fun i => ?_, ?_, fun i hi => ?_⟩
    · rw [g2, cs]
      cases hc : fstI ls[k] i with
      | some z =>
        have : i ∈ idl ls[k] := fst_some.1 (by rw [hc]; rfl)
        rw [if_pos (List.mem_append.2 (.inr this))]
      | none =>
        have := (hno i).1 hc
        simp only
        rw [h1]
        by_cases hi : i ∈ idsL (ls.take k)
        · rw [if_pos hi, if_pos (List.mem_append.2 (.inl hi))]
        · rw [if_neg hi, if_neg (fun h => (List.mem_append.1 h).elim hi this)]
    · rw [g3, h2]
      constructor
      · rintro (⟨i, h⟩ | ⟨i, z, h, h'⟩)
        · exact ⟨i, cB_mono ls ms ws i k h 1⟩
        · exact ⟨i, by rw [cs, h]; simp only; rw [h', Bool.or_true]⟩
      · rintro ⟨i, h⟩
        rw [cs] at h
        cases hc : fstI ls[k] i with
        | some z =>
          rw [hc] at h
          simp only [Bool.or_eq_true] at h
          exact h.elim (fun h => .inl ⟨i, h⟩) fun h => .inr ⟨i, z, hc, h⟩
        | none => rw [hc] at h; exact .inl ⟨i, h⟩
    · rw [List.mem_append, not_or] at hi
      rw [cs, (hno i).2 hi.2]
      exact h3 i hi.1
theorem nodup_lt : ∀ {l : List Int}, l.Pairwise (· < ·) → l.Nodup := fun h => h.imp fun h => by omega
theorem weigh_eq (ls : List (List Ht)) (ms ws : List Int) : weighR ls ms ws = if ms.length = ls.length ∧ ws.length = ls.length ∧ ms.any badM = false then rwR ls ms ws else ([], 250) := by
  unfold weighR rwR
  split
  · obtain ⟨h1, h2, h3⟩ := wall_sem ls ms ws ls.length (Nat.le_refl _)
    rw [List.take_length] at h1 h3
    have hov : (ws0.all ws ms ls ls.length).ov = true ↔ (riseS (idsL ls)).any (fun i => (cB ls ms ws i ls.length).2) = true := by
      rw [h2, List.any_eq_true]
      constructor
      · rintro ⟨i, h⟩
        refine ⟨i, (riseS_mem _ _).2 ?_, h⟩
        by_cases hi : i ∈ idsL ls
        · exact hi
        · rw [h3 i hi] at h; cases h
      · rintro ⟨i, _, h⟩; exact ⟨i, h⟩
    by_cases ho : (ws0.all ws ms ls ls.length).ov = true
    · rw [if_pos ho, if_pos (hov.1 ho)]
    · rw [if_neg ho, if_neg (fun h => ho (hov.2 h))]
      have hk := (wall_wf ws ms ls ls.length (Nat.le_refl _)).1.keys
      rw [srt_eq rfl, hsort_congr rfl]
      refine perm_of_mem (hits_nodup hk) (nodup_map (f := (·.1)) ?_) fun x => ?_
      · rw [List.map_map]
        rw [show ((fun x : Ht => x.1) ∘ fun i => (i, (cB ls ms ws i ls.length).1)) = id from rfl, List.map_id]
        exact nodup_lt (riseS_sorted _)
      · obtain ⟨i, v⟩ := x
        rw [mem_hits hk, h1, List.mem_map]
        constructor
        · intro h
          split at h
          · rename_i hi
            exact ⟨i, (riseS_mem _ _).2 hi, by rw [Option.some.inj h]⟩
          · cases h
        · rintro ⟨a, ha, he⟩
          obtain ⟨rfl, rfl⟩ := Prod.mk.inj he
          rw [if_pos ((riseS_mem _ _).1 ha)]
  · rfl
theorem rweigh_spec (ls : List (List Ht)) (ms ws : List Int) (hl : tot ls * 16 ≤ 140737488355328) (hn : ls.length ≤ 4611686018427387904) (hw : ∀ w ∈ ws, In64 w) (hz : ∀ l ∈ ls, ∀ z ∈ l, In64 z.2) :
    Spec Try.prog 33 [.v (.t (.sl 1 (lists ls))), .v (.t (.sl 1 (ints ms))), .v (.t (.sl 1 (ints ws)))] [] [.v (.t (.sl 2 (hrows (weighR ls ms ws).1))), .v (.t (.int .i64 (weighR ls ms ws).2))] [] := by
  rw [weigh_eq]
  by_cases h1 : ms.length = ls.length ∧ ws.length = ls.length
  · cases h3 : ms.any badM with
    | false =>
      rw [if_pos ⟨h1.1, h1.2, rfl⟩]
      exact rweigh_ok ls ms ws h1.1 h1.2 h3 hl hn hw hz
    | true =>
      rw [if_neg (fun h => by cases h.2.2)]
      exact rweigh_met ls ms ws h1.1 h1.2 h3 hn
  · rw [if_neg (fun h => h1 ⟨h.1, h.2.1⟩)]
    exact rweigh_len ls ms ws h1
end Go.Proofs.Ytgmjgognpabmdaa.Fx
namespace Go.Proofs.Ytgmjgognpabmdaa.Fx
open Go Go.RowKit
set_option maxRecDepth 100000
set_option linter.unusedSimpArgs false
set_option linter.unusedVariables false
/-- Rankings that are each held by its cell. -/
def olists (ls : List (List Ht)) : List (List CV) := lrows 2 (ls.map hrows)
theorem olists_has {nm : Nat} {ls : List (List Ht)} : hasRows nm (olists ls) = false := lrows_has
theorem olists_view (ls : List (List Ht)) : viewRows (olists ls) = some (lists ls) := by
  rw [olists, lrows_view, List.map_map]; rfl
theorem olists_len (ls : List (List Ht)) : (olists ls).length = ls.length := by simp [olists, lrows_length]
theorem olists_succ {ls : List (List Ht)} {k : Nat} (h : k < ls.length) : olists (ls.take (k + 1)) = olists (ls.take k) ++ [[lcell 2 (up (hrows ls[k]))]] := by
  unfold olists lrows
  rw [List.take_succ_eq_append_getElem h, List.map_append, List.map_append]; rfl
theorem modify_end (a : List (List CV)) (x c : CV) : (a ++ [[x]]).modify a.length (·.set 0 c) = a ++ [[c]] := by
  induction a with
  | nil => rfl
  | cons b t ih => simp only [List.cons_append, List.length_cons, List.modify_succ_cons, ih]
set_option maxHeartbeats 4000000 in
theorem twin25_named (ls : List (List Ht)) (hl : tot ls * 16 ≤ 70368744177664) (hn : ls.length * 24 ≤ 140737488355328) : Spec Try.prog 28 [.v (.t (.sl 1 (lists ls)))] [] [.v (.mr 27 0 ls.length)] [(27, .cells 1 (olists ls))] := by
  have hll : (lists ls).length = ls.length := lists_len ls
  refine spec_by Try.func28 rfl mixed tOk evOk (n := 29) rfl (by simp) (by simp) ?_
  rw [initSt_mk, show Try.f28.results.toList = [.tmp 2] from rfl]
  simp only [initL, AV.sv, List.map_cons, List.map_nil, Nat.reduceAdd, Nat.zero_add]
  repeat' (first
   | (with_reducible first | refine s_seq ?_ | refine s_block ?_ | refine s_region fun kr hr => ?_)
   | (with_reducible refine s_text tOk [16, 18, 19, 20, 26, 27, 1000, 1001, 1002, 1003] (by kernel_rfl) (by simp [HeapIn, namers, namerDst, namerOp, namedOp, namedFn, ownLoad, Blk.has, hasRows, hasL, CV.has, hasRows_up, hasM_up, hasRows_append, hll]; (try ((repeat' apply And.intro) <;> intros <;> omega))) fun kr hr => ?_)
   | (with_reducible first | refine s_op fun K' hk => ?_ | refine t_op fun K' hk => ?_ | (refine hk _ ?_; clear hk K') | (refine ht _ ?_; clear ht hf KT KF) | (refine hf _ ?_; clear ht hf KT KF) | ((first | refine s_nil ?_ | refine t_nil ?_); refine hr _ ?_; clear hr kr))
   | ((with_reducible refine n_seqK [0, 1, 2, 3, 4, 8] [16, 18, 19, 20, 26, 27] ?_); simp only [mk_keep, keepL, List.mem_cons, List.not_mem_nil, Nat.reduceEqDiff, Nat.zero_ne_one, Nat.one_ne_zero, reduceCtorEq, or_false, false_or, or_true, true_or, or_self, eq_self, ↓reduceIte])
   | (with_reducible first | refine s_cond fun KT KF ht hf => ?_ | refine s_skip ?_)
   | ((with_reducible refine s_long ?_); simp only [List.cons_append, List.nil_append])
   | (with_reducible first | refine s_exit ?_ | refine s_ret ?_ | refine e_seq ?_ | refine r_seq ?_ | refine n_block ?_ | refine e_block ?_ | refine r_block ?_ | refine e_loop ?_ | refine r_loop ?_ | refine e_round ?_ | refine r_round ?_ | refine s_round ?_ | refine f_block ?_ (by decide) | refine r_res ?_ | refine n_res ?_)
   | (simp only [hgb, go_sem, Int.reduceToNat, ↓reduceIte, reduceCtorEq, Nat.reduceEqDiff, Nat.reduceAdd, Nat.reduceMul, Nat.reduceLT, Nat.reduceLeDiff, Nat.reduceBEq, Int.reduceBEq, Int.reduceBNe, String.reduceBEq, Int.reduceEq, Int.reduceLT, Int.reduceLE, Int.reduceGE, Int.reduceGT, hll]; clear hgb)
   | simp only [go_sem, Int.reduceToNat, ↓reduceIte, reduceCtorEq, Nat.reduceEqDiff, Nat.reduceAdd, Nat.reduceMul, Nat.reduceLT, Nat.reduceLeDiff, Nat.reduceBEq, Int.reduceBEq, Int.reduceBNe, String.reduceBEq, Int.reduceEq, Int.reduceLT, Int.reduceLE, Int.reduceGE, Int.reduceGT, hll, hAll]
   | (refine ite_guard (fun hg => ?_) (fun hg => ?_) <;> (try simp only [Bool.not_eq_true, Bool.not_eq_false, Decidable.not_not] at hg) <;> (first | have hgb : (_ : Bool) = _ := hg | have hgb := ff hg | have hgb := tt hg))
   | (refine ⟨fun hc => ht _ ?_, fun hc => hf _ ?_⟩ <;> clear ht hf KT KF)
   | fail)
  refine w_loopG _ (gho_nilName (s := 3) (d := 27) (sz := 1) (by decide) ⟨1, rfl⟩ (by rw [fresh_t]; exact trivial; rfl)) ?_
  rw [mk_nilName]
  refine w_loop [0, 3, 4] [27] (σ := Nat) (fun k st => st = mk [(0, V (.sl 1 (lists ls))), (3, .c (.mr 27 0 k)), (4, I k)] [(27, .cells 1 (olists (ls.take k)))] ∧ k ≤ ls.length) (fun k => ls.length - k) 0 ?_ ?_
  · refine ⟨?_, Nat.zero_le _⟩
    simp only [go_sem, Int.reduceToNat, ↓reduceIte, reduceCtorEq, Nat.reduceEqDiff, Nat.reduceAdd, Nat.reduceMul, Nat.reduceLT, Nat.reduceLeDiff, Nat.reduceBEq, Int.reduceBEq, Int.reduceBNe, String.reduceBEq, Int.reduceEq, Int.reduceLT, Int.reduceLE, Int.reduceGE, Int.reduceGT, mk_keep, keepL, List.mem_cons, List.not_mem_nil, Nat.reduceEqDiff, Nat.zero_ne_one, Nat.one_ne_zero, reduceCtorEq, or_false, false_or, or_true, true_or, or_self, eq_self, ↓reduceIte]
    rfl
  rintro k st' ⟨rfl, hk⟩
  have hlk : (olists (ls.take k)).length = k := by rw [olists_len, List.length_take]; omega
  have htk : (olists (ls.take k)).take k = olists (ls.take k) := List.take_of_length_le (by omega)
  by_cases hlt : k < ls.length
  · have f1 := ltI hlt
    have f2 : (lists ls)[k]? = some [.sl 2 (hrows ls[k])] := by rw [lists_get, get_of_lt hlt]; rfl
    have f3 := wUp hlt (by omega)
    have hlen := len_tot hlt
    have hsu := olists_succ hlt
    have hme := modify_end (olists (ls.take k)) (.mr 20 0 ls[k].length) (lcell 2 (up (hrows ls[k])))
    have hme2 := modify_end (olists (ls.take k)) (.mr 19 0 ls[k].length) (.mr 20 0 ls[k].length)
    rw [hlk] at hme hme2
    obtain ⟨U', hU'⟩ : ∃ U, olists (ls.take (k + 1)) = U := ⟨_, rfl⟩
    have hUh : ∀ nm, hasRows nm (olists (ls.take k)) = false := fun nm => olists_has
    rw [hU'] at hsu
    generalize olists (ls.take k) = U at *
    generalize ls[k] = l at *
    have b1 := tt (show l.length * 16 ≤ 140737488355328 by omega)
    have b2 := tt (show l.length ≤ 9223372036854775807 by omega)
    have b3 := tt (show (k + 1) * 24 ≤ 140737488355328 by omega)
    have b4 := tt (show k ≤ 9223372036854775806 by omega)
    have b5 := tt (show (l.length + 1) * 16 ≤ 140737488355328 by omega)
    have b6 := tt (show l.length ≤ 9223372036854775806 by omega)
    have e0 : (hrows l).length = l.length := hrows_len l
    have e1 : (up (hrows l)).take l.length = up (hrows l) := List.take_of_length_le (by rw [up_length]; omega)
    have e2 : up (hrows l) ++ [[.t (.int .i64 77), .t (.int .i64 0)]] = up (hrows (l ++ [(77, 0)])) := by simp [up, hrows, hrow]
    have e3 : (hrows (l ++ [(77, 0)])).length = l.length + 1 := by rw [hrows_len]; simp
    have e5 := tt (show l.length ≤ l.length + 1 by omega)
    have e6 : (up (hrows (l ++ [(77, 0)]))).take l.length = up (hrows l) := by
      rw [show hrows (l ++ [(77, 0)]) = hrows l ++ [hrow (77, 0)] by simp [hrows], up_append, List.take_append_of_le_length (by rw [up_length]; omega)]; exact e1
    have b7 := tt (Nat.zero_le l.length)
    repeat' (first
     | with_reducible refine s_draw (id := 5) ?_
     | ((with_reducible refine a_seg tOk [16, 18, 19, 26, 27] 18 0 16 (by decide) (by kernel_rfl) (by simp [HeapIn, namers, namerDst, namerOp, namedOp, namedFn, ownLoad, Blk.has, hasRows, hasL, CV.has, hasRows_up, hasM_up, hasRows_append, f1, f2, f3, b7, b1, b2, b3, b4, b5, b6, e0, e1, e2, e3, e5, hll, hlk, htk, hUh]; (try ((repeat' apply And.intro) <;> intros <;> omega))) fun kr hr => ?_); simp only [List.drop_succ_cons, List.drop_zero, List.take_succ_cons, List.take_zero, List.map_cons, List.map_nil, List.cons_append, List.nil_append, Nat.reduceSub])
     | ((with_reducible refine a_seg tOk [16, 18, 19, 26, 27] 18 17 18 (by decide) (by kernel_rfl) (by simp [HeapIn, namers, namerDst, namerOp, namedOp, namedFn, ownLoad, Blk.has, hasRows, hasL, CV.has, hasRows_up, hasM_up, hasRows_append, f1, f2, f3, b7, b1, b2, b3, b4, b5, b6, e0, e1, e2, e3, e5, hll, hlk, htk, hUh]; (try ((repeat' apply And.intro) <;> intros <;> omega))) fun kr hr => ?_); simp only [List.drop_succ_cons, List.drop_zero, List.take_succ_cons, List.take_zero, List.map_cons, List.map_nil, List.cons_append, List.nil_append, Nat.reduceSub])
     | ((with_reducible refine a_one 18 16 (by decide) (by kernel_rfl) fun kr hr => ?_); simp only [List.drop_succ_cons, List.drop_zero, List.take_succ_cons, List.take_zero, List.map_cons, List.map_nil, List.cons_append, List.nil_append, Nat.reduceSub])
     | with_reducible refine a_end 18 (by decide) ?_
     | (with_reducible refine hr _ ?_; clear hr kr)
     | (with_reducible first | refine s_seq ?_ | refine s_block ?_ | refine s_region fun kr hr => ?_)
     | (with_reducible refine s_text tOk [16, 18, 19, 26, 27] (by kernel_rfl) (by simp [HeapIn, namers, namerDst, namerOp, namedOp, namedFn, ownLoad, Blk.has, hasRows, hasL, CV.has, hasRows_up, hasM_up, hasRows_append, f1, f2, f3, b7, b1, b2, b3, b4, b5, b6, e0, e1, e2, e3, e5, hll, hlk, htk, hUh]; (try ((repeat' apply And.intro) <;> intros <;> omega))) fun kr hr => ?_)
     | (with_reducible first | refine s_op fun K' hk => ?_ | refine t_op fun K' hk => ?_ | (refine hk _ ?_; clear hk K') | (refine ht _ ?_; clear ht hf KT KF) | (refine hf _ ?_; clear ht hf KT KF) | ((first | refine s_nil ?_ | refine t_nil ?_); refine hr _ ?_; clear hr kr))
     | ((with_reducible refine n_seqK [0, 1, 2, 3, 4, 8] [16, 18, 19, 20, 26, 27] ?_); simp only [mk_keep, keepL, List.mem_cons, List.not_mem_nil, Nat.reduceEqDiff, Nat.zero_ne_one, Nat.one_ne_zero, reduceCtorEq, or_false, false_or, or_true, true_or, or_self, eq_self, ↓reduceIte])
     | (with_reducible first | refine s_cond fun KT KF ht hf => ?_ | refine s_skip ?_)
     | ((with_reducible refine s_long ?_); simp only [List.cons_append, List.nil_append])
     | (with_reducible first | refine s_exit ?_ | refine s_ret ?_ | refine e_seq ?_ | refine r_seq ?_ | refine n_block ?_ | refine e_block ?_ | refine r_block ?_ | refine e_loop ?_ | refine r_loop ?_ | refine e_round ?_ | refine r_round ?_ | refine s_round ?_ | refine f_block ?_ (by decide) | refine r_res ?_ | refine n_res ?_)
     | (simp only [hgb, go_sem, Int.reduceToNat, ↓reduceIte, reduceCtorEq, Nat.reduceEqDiff, Nat.reduceAdd, Nat.reduceMul, Nat.reduceLT, Nat.reduceLeDiff, Nat.reduceBEq, Int.reduceBEq, Int.reduceBNe, String.reduceBEq, Int.reduceEq, Int.reduceLT, Int.reduceLE, Int.reduceGE, Int.reduceGT, f1, f2, f3, b7, b1, b2, b3, b4, b5, b6, e0, e1, e2, e3, e5, hll, hlk, htk, hUh]; clear hgb)
     | simp only [go_sem, Int.reduceToNat, ↓reduceIte, reduceCtorEq, Nat.reduceEqDiff, Nat.reduceAdd, Nat.reduceMul, Nat.reduceLT, Nat.reduceLeDiff, Nat.reduceBEq, Int.reduceBEq, Int.reduceBNe, String.reduceBEq, Int.reduceEq, Int.reduceLT, Int.reduceLE, Int.reduceGE, Int.reduceGT, f1, f2, f3, b7, b1, b2, b3, b4, b5, b6, e0, e1, e2, e3, e5, hll, hlk, htk, hUh, hAll]
     | (refine ite_guard (fun hg => ?_) (fun hg => ?_) <;> (try simp only [Bool.not_eq_true, Bool.not_eq_false, Decidable.not_not] at hg) <;> (first | have hgb : (_ : Bool) = _ := hg | have hgb := ff hg | have hgb := tt hg))
     | (refine ⟨fun hc => ht _ ?_, fun hc => hf _ ?_⟩ <;> clear ht hf KT KF)
     | fail)
    refine n_loopG _ (gho_trim (k := 27) (i := k) (j := 0) (nm := 19) (d := 20) (L := l.length) (sz := 1) (sz' := 2) (rows := U ++ [[.mr 19 0 l.length]]) (row := [.mr 19 0 l.length]) (rows' := up (hrows (l ++ [(77, 0)]))) (by decide) (by decide) (by decide) (by simp [mk_heap, hL]) (by simp [mk_heap, hL]) (by rw [List.getElem?_append_right (by omega), hlk]; simp) (by rfl) (by rw [up_length, e3]; omega) (fresh2_mk _ _ _ _ (by simp [freshL, Blk.has, hasRows, hasL, CV.has, hasRows_append, hUh])) (by rw [e6]; simp [Blk.has, hasRows_up])) ?_
    rw [mk_trim, hme2, e6]
    simp only [mapV, SV.kill, SV.has, CV.has, hasL, ins, del, Nat.reduceBEq, Nat.reduceEqDiff, Nat.reduceLT, ↓reduceIte, Bool.or_false, Bool.false_or, Bool.false_eq_true]
    refine n_loopG _ (gho_foldL (k := 27) (i := k) (j := 0) (nm := 20) (sz := 1) (sz' := 2) (rows := U ++ [[.mr 20 0 l.length]]) (rows' := up (hrows l)) (row := [.mr 20 0 l.length]) (by decide) (by simp [mk_heap, hL]) (by simp [mk_heap, hL]) (by rw [List.getElem?_append_right (by omega), hlk]; simp) (by rw [up_length, e0]; rfl)) ?_
    rw [mk_fold, hme, ← hsu]
    refine n_loop (k + 1) [0, 3, 4] [27] ⟨?_, hlt⟩ (by omega)
    simp only [go_sem, Int.reduceToNat, ↓reduceIte, reduceCtorEq, Nat.reduceEqDiff, Nat.reduceAdd, Nat.reduceMul, Nat.reduceLT, Nat.reduceLeDiff, Nat.reduceBEq, Int.reduceBEq, Int.reduceBNe, String.reduceBEq, Int.reduceEq, Int.reduceLT, Int.reduceLE, Int.reduceGE, Int.reduceGT, mk_keep, keepL, List.mem_cons, List.not_mem_nil, Nat.reduceEqDiff, Nat.zero_ne_one, Nat.one_ne_zero, reduceCtorEq, or_false, false_or, or_true, true_or, or_self, eq_self, ↓reduceIte, hU']
  · obtain rfl : k = ls.length := by omega
    have f1 := nltI hlt
    rw [List.take_length] at hlk htk ⊢
    repeat' (first
     | (with_reducible first | refine s_seq ?_ | refine s_block ?_ | refine s_region fun kr hr => ?_)
     | (with_reducible refine s_text tOk [16, 18, 19, 20, 26, 27, 1000, 1001, 1002, 1003] (by kernel_rfl) (by simp [HeapIn, namers, namerDst, namerOp, namedOp, namedFn, ownLoad, Blk.has, hasRows, hasL, CV.has, hasRows_up, hasM_up, hasRows_append, f1, hlk, htk, hll, olists_has]; (try ((repeat' apply And.intro) <;> intros <;> omega))) fun kr hr => ?_)
     | (with_reducible first | refine s_op fun K' hk => ?_ | refine t_op fun K' hk => ?_ | (refine hk _ ?_; clear hk K') | (refine ht _ ?_; clear ht hf KT KF) | (refine hf _ ?_; clear ht hf KT KF) | ((first | refine s_nil ?_ | refine t_nil ?_); refine hr _ ?_; clear hr kr))
     | ((with_reducible refine n_seqK [0, 1, 2, 3, 4, 8] [16, 18, 19, 20, 26, 27] ?_); simp only [mk_keep, keepL, List.mem_cons, List.not_mem_nil, Nat.reduceEqDiff, Nat.zero_ne_one, Nat.one_ne_zero, reduceCtorEq, or_false, false_or, or_true, true_or, or_self, eq_self, ↓reduceIte])
     | (with_reducible first | refine s_cond fun KT KF ht hf => ?_ | refine s_skip ?_)
     | ((with_reducible refine s_long ?_); simp only [List.cons_append, List.nil_append])
     | (with_reducible first | refine s_exit ?_ | refine s_ret ?_ | refine e_seq ?_ | refine r_seq ?_ | refine n_block ?_ | refine e_block ?_ | refine r_block ?_ | refine e_loop ?_ | refine r_loop ?_ | refine e_round ?_ | refine r_round ?_ | refine s_round ?_ | refine f_block ?_ (by decide) | refine r_res ?_ | refine n_res ?_)
     | (simp only [hgb, go_sem, Int.reduceToNat, ↓reduceIte, reduceCtorEq, Nat.reduceEqDiff, Nat.reduceAdd, Nat.reduceMul, Nat.reduceLT, Nat.reduceLeDiff, Nat.reduceBEq, Int.reduceBEq, Int.reduceBNe, String.reduceBEq, Int.reduceEq, Int.reduceLT, Int.reduceLE, Int.reduceGE, Int.reduceGT, f1, hlk, htk, hll, olists_has]; clear hgb)
     | simp only [go_sem, Int.reduceToNat, ↓reduceIte, reduceCtorEq, Nat.reduceEqDiff, Nat.reduceAdd, Nat.reduceMul, Nat.reduceLT, Nat.reduceLeDiff, Nat.reduceBEq, Int.reduceBEq, Int.reduceBNe, String.reduceBEq, Int.reduceEq, Int.reduceLT, Int.reduceLE, Int.reduceGE, Int.reduceGT, f1, hlk, htk, hll, olists_has, hAll]
     | (refine ite_guard (fun hg => ?_) (fun hg => ?_) <;> (try simp only [Bool.not_eq_true, Bool.not_eq_false, Decidable.not_not] at hg) <;> (first | have hgb : (_ : Bool) = _ := hg | have hgb := ff hg | have hgb := tt hg))
     | (refine ⟨fun hc => ht _ ?_, fun hc => hf _ ?_⟩ <;> clear ht hf KT KF)
     | fail)
theorem twin25_spec (ls : List (List Ht)) (hl : tot ls * 16 ≤ 70368744177664) (hn : ls.length * 24 ≤ 140737488355328) : Spec Try.prog 28 [.v (.t (.sl 1 (lists ls)))] [] [.v (.t (.sl 1 (lists ls)))] [] := by
  have h1 := twin25_named ls hl hn
  rw [← olists_len ls] at h1
  exact Spec.tree h1 (olists_view _)
end Go.Proofs.Ytgmjgognpabmdaa.Fx
namespace Go.Proofs.Ytgmjgognpabmdaa.Fx
open Go Go.RowKit
set_option maxRecDepth 100000
set_option linter.unusedSimpArgs false
set_option linter.unusedVariables false
theorem tot_small4 {ls : List (List Ht)} (h1 : ls.length ≤ 1048576) (h2 : ∀ l ∈ ls, l.length ≤ 1048576) : tot ls * 16 ≤ 70368744177664 := by
  have key : ∀ ls : List (List Ht), (∀ l ∈ ls, l.length ≤ 1048576) → tot ls ≤ ls.length * 1048576 := by
    intro ls
    induction ls with
    | nil => intro _; simp [tot]
    | cons l ls ih =>
      intro h
      have := ih fun x hx => h x (by simp [hx])
      have := h l (by simp)
      simp only [tot, List.map_cons, List.sum_cons, List.length_cons] at *
      omega
  have := key ls h2
  omega
set_option maxHeartbeats 4000000 in
theorem fuseWeighs_spec (ls : List (List Ht)) (ms ws : List Int) (hl : tot ls * 16 ≤ 70368744177664) (hn : ls.length * 24 ≤ 140737488355328) (hm : ms.length ≤ 4611686018427387904) (hw : ∀ w ∈ ws, In64 w) (hz : ∀ l ∈ ls, ∀ z ∈ l, In64 z.2) :
    Spec Try.prog 9 [.v (.t (.sl 1 (lists ls))), .v (.t (.sl 1 (ints ms))), .v (.t (.sl 1 (ints ws)))] [] [.v (.t (.bool true))] [] := by
  have h1 := twin25_spec ls hl hn
  have h2 := weigh_spec ls ms ws (by omega) (by omega) hm hw hz
  have h3 := rweigh_spec ls ms ws (by omega) (by omega) hw hz
  have hR : (weighR ls ms ws).1.length ≤ 4611686018427387904 := by
    unfold weighR
    split
    · split
      · simp
      · rw [hsort_len]
        have := (wall_wf ws ms ls ls.length (Nat.le_refl _)).2
        rw [List.take_length] at this
        simp only [hits, List.length_map]; omega
    · simp
  generalize (weighR ls ms ws).1 = R at *
  generalize (weighR ls ms ws).2 = e at *
  have h4 := same_spec R R hR
  rw [decide_eq_true rfl] at h4
  refine spec_by Try.func9 rfl mixed tOk evOk (n := 37) rfl (by simp) (by simp) ?_
  rw [initSt_mk, show Try.f9.results.toList = [.tmp 6] from rfl]
  simp only [initL, AV.sv, List.map_cons, List.map_nil, Nat.reduceAdd, Nat.zero_add]
  repeat' (first
   | (with_reducible first | refine s_seq ?_ | refine s_block ?_ | refine s_region fun kr hr => ?_)
   | (with_reducible refine s_text tOk [1000, 1001, 1002, 1003] (by kernel_rfl) (by simp [HeapIn, namers, namerDst, namerOp, namedOp, namedFn, ownLoad, Blk.has, hasRows, hasL, CV.has, hasRows_up, hasM_up, hasRows_append]; (try ((repeat' apply And.intro) <;> intros <;> omega))) fun kr hr => ?_)
   | (with_reducible first | refine s_op fun K' hk => ?_ | refine t_op fun K' hk => ?_ | (refine hk _ ?_; clear hk K') | (refine ht _ ?_; clear ht hf KT KF) | (refine hf _ ?_; clear ht hf KT KF) | ((first | refine s_nil ?_ | refine t_nil ?_); refine hr _ ?_; clear hr kr))
   | ((with_reducible refine n_seqK [0, 1, 2, 3, 4, 5, 6, 7, 8, 9, 10, 17, 25, 28, 32, 33] [] ?_); simp only [mk_keep, keepL, List.mem_cons, List.not_mem_nil, Nat.reduceEqDiff, Nat.zero_ne_one, Nat.one_ne_zero, reduceCtorEq, or_false, false_or, or_true, true_or, or_self, eq_self, ↓reduceIte])
   | (with_reducible first | refine s_cond fun KT KF ht hf => ?_ | refine s_skip ?_)
   | ((with_reducible refine s_long ?_); simp only [List.cons_append, List.nil_append])
   | (with_reducible first | refine s_exit ?_ | refine s_ret ?_ | refine e_seq ?_ | refine r_seq ?_ | refine n_block ?_ | refine e_block ?_ | refine r_block ?_ | refine e_loop ?_ | refine r_loop ?_ | refine e_round ?_ | refine r_round ?_ | refine s_round ?_ | refine f_block ?_ (by decide) | refine r_res ?_ | refine n_res ?_)
   | (simp only [hgb, go_sem, Int.reduceToNat, ↓reduceIte, reduceCtorEq, Nat.reduceEqDiff, Nat.reduceAdd, Nat.reduceMul, Nat.reduceLT, Nat.reduceLeDiff, Nat.reduceBEq, Int.reduceBEq, Int.reduceBNe, String.reduceBEq, Int.reduceEq, Int.reduceLT, Int.reduceLE, Int.reduceGE, Int.reduceGT, callE, resSV, AV.flat, CV.flat, TV.flat]; clear hgb)
   | simp only [go_sem, Int.reduceToNat, ↓reduceIte, reduceCtorEq, Nat.reduceEqDiff, Nat.reduceAdd, Nat.reduceMul, Nat.reduceLT, Nat.reduceLeDiff, Nat.reduceBEq, Int.reduceBEq, Int.reduceBNe, String.reduceBEq, Int.reduceEq, Int.reduceLT, Int.reduceLE, Int.reduceGE, Int.reduceGT, callE, resSV, AV.flat, CV.flat, TV.flat, hAll]
   | refine Or.inl ⟨_, ⟨fun _ _ => rfl, h1⟩, ?_⟩
   | refine ⟨_, ⟨fun _ _ => rfl, h1⟩, ?_⟩
   | refine Or.inl ⟨_, ⟨fun _ _ => rfl, h2⟩, ?_⟩
   | refine ⟨_, ⟨fun _ _ => rfl, h2⟩, ?_⟩
   | refine Or.inl ⟨_, ⟨fun _ _ => rfl, h3⟩, ?_⟩
   | refine ⟨_, ⟨fun _ _ => rfl, h3⟩, ?_⟩
   | refine Or.inl ⟨_, ⟨fun _ _ => rfl, h4⟩, ?_⟩
   | refine ⟨_, ⟨fun _ _ => rfl, h4⟩, ?_⟩
   | refine Or.inl ⟨_, ⟨fun _ _ => rfl, awake25_spec⟩, ?_⟩
   | refine ⟨_, ⟨fun _ _ => rfl, awake25_spec⟩, ?_⟩
   | (refine ite_guard (fun hg => ?_) (fun hg => ?_) <;> (try simp only [Bool.not_eq_true, Bool.not_eq_false, Decidable.not_not] at hg) <;> (first | have hgb : (_ : Bool) = _ := hg | have hgb := ff hg | have hgb := tt hg))
   | (refine ⟨fun hc => ht _ ?_, fun hc => hf _ ?_⟩ <;> clear ht hf KT KF)
   | fail)
end Go.Proofs.Ytgmjgognpabmdaa.Fx
