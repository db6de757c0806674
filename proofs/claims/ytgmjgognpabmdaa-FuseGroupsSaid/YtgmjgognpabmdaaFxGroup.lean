/- Hits by their values, so many of each. -/
import Derived.Test.YtgmjgognpabmdaaFxAnyT
import Derived.Test.YtgmjgognpabmdaaFxAwake25
-- ren_map
namespace Go.Proofs.Ytgmjgognpabmdaa.Fx
open Go Go.RowKit
set_option maxRecDepth 100000
set_option linter.unusedSimpArgs false
set_option linter.unusedVariables false
/-- A value: its kind, its number, its text. -/
abbrev Vl := Int × Int × ByteArray
def vrow (v : Vl) : List TV := [.int .i64 v.1, .int .i64 v.2.1, .str v.2.2]
def vcell (v : Vl) : List CV := [.t (.int .i64 v.1), .t (.int .i64 v.2.1), .t (.str v.2.2)]
def vrows (l : List Vl) : List (List TV) := l.map vrow
def brows (l : List Bool) : List (List TV) := l.map fun b => [.bool b]
theorem vrows_len (l : List Vl) : (vrows l).length = l.length := by simp [vrows]
theorem vrows_get (l : List Vl) (i : Nat) : (vrows l)[i]? = (l[i]?).map vrow := by simp [vrows]
theorem brows_len (l : List Bool) : (brows l).length = l.length := by simp [brows]
theorem brows_get (l : List Bool) (i : Nat) : (brows l)[i]? = (l[i]?).map fun b => [.bool b] := by simp [brows]
abbrev VM := List (Vl × Int × Nat)
def upV (m : VM) : List (AV × AV × Nat) := m.map fun e => (.agg (vcell e.1), .v (.t (.int .i64 e.2.1)), e.2.2)
theorem eqL_v (a b : Vl) : eqL (vcell a) (vcell b) = some (decide (a = b)) := by
  obtain ⟨a1, a2, a3⟩ := a
  obtain ⟨b1, b2, b3⟩ := b
  simp only [vcell, eqL, scEq, if_true, Bool.and_true, Option.some.injEq, Prod.mk.injEq]
  by_cases h1 : a1 = b1 <;> by_cases h2 : a2 = b2 <;> by_cases h3 : a3 = b3 <;> simp [h1, h2, h3]
theorem mfind_V {T : TypeId → Option TI} {tk : TI} (k1 k2 : Int) (k3 : ByteArray) : ∀ m : VM, mfind T tk (.agg [.t (.int .i64 k1), .t (.int .i64 k2), .t (.str k3)]) (upV m) = some ((pfind (k1, k2, k3) m).map fun p => (p.1, .v (.t (.int .i64 p.2))))
  | [] => rfl
  | e :: m => by
    have ih := mfind_V (T := T) (tk := tk) k1 k2 k3 m
    have he := eqL_v (k1, k2, k3) e.1
    unfold upV at ih
    simp only [vcell] at he ih
    simp only [upV, List.map_cons, mfind, keyEq, vcell, pfind, he, ih]
    by_cases h : (k1, k2, k3) = e.1
    · simp [h]
    · simp only [h, decide_false, if_false]
      cases pfind (k1, k2, k3) m <;> rfl
theorem hasM_V (nm : Nat) : ∀ m : VM, hasM nm (upV m) = false
  | [] => rfl
  | e :: m => by
    have ih := hasM_V nm m
    unfold upV at ih
    have hc : hasL nm (vcell e.1) = false := by simp [vcell, hasL, CV.has]
    simp only [upV, List.map_cons, hasM, AV.has, hc, CV.has, Bool.or_self, ih]
theorem upV_app (m : VM) (v : Vl) (n : Int) (c : Nat) : upV m ++ [(.agg [.t (.int .i64 v.1), .t (.int .i64 v.2.1), .t (.str v.2.2)], .v (.t (.int .i64 n)), c)] = upV (m ++ [(v, n, c)]) := by simp [upV, vcell]
theorem upV_get {m : VM} {i : Nat} {e : Vl × Int × Nat} (h : m[i]? = some e) : (upV m)[i]? = some (.agg (vcell e.1), .v (.t (.int .i64 e.2.1)), e.2.2) := by simp [upV, h]
theorem upV_same {m : VM} {i : Nat} {e : Vl × Int × Nat} (h : m[i]? = some e) : (upV m).modify i (fun x => (.agg [.t (.int .i64 e.1.1), .t (.int .i64 e.1.2.1), .t (.str e.1.2.2)], x.2.1, x.2.2)) = upV m := by
  apply List.ext_getElem?
  intro j
  rw [List.getElem?_modify]
  by_cases hj : i = j
  · subst hj
    rw [upV_get h]; simp [vcell]
  · simp [hj]
theorem upV_set {m : VM} {i : Nat} {e : Vl × Int × Nat} (h : m[i]? = some e) (n : Int) : (upV m).modify i (fun x => (x.1, .v (.t (.int .i64 n)), x.2.2)) = upV (m.modify i fun x => (e.1, n, x.2.2)) := by
  apply List.ext_getElem?
  intro j
  have hu : ∀ (q : VM) (t : Nat), (upV q)[t]? = (q[t]?).map fun e => (AV.agg (vcell e.1), AV.v (.t (.int .i64 e.2.1)), e.2.2) := fun q t => by simp [upV]
  rw [List.getElem?_modify, hu, hu, List.getElem?_modify]
  by_cases hj : i = j
  · subst hj
    rw [h]; simp
  · simp [hj]
theorem upV_born {c : Nat} {m : VM} (hw : Wf c m) {i : Nat} {e : Vl × Int × Nat} (h : m[i]? = some e) : (upV m).findIdx? (fun x => (x.2.2 : Int) == (e.2.2 : Int)) = some i := by
  have hl := (List.getElem?_eq_some_iff.1 h).1
  rw [List.findIdx?_eq_some_iff_getElem]
  refine ⟨by simp [upV]; exact hl, ?_, fun j hj => ?_⟩
  · have := (List.getElem?_eq_some_iff.1 h).2
    simp [upV, this]
  · have hjl : j < m.length := by omega
    simp only [upV, List.getElem_map, beq_iff_eq, Int.natCast_inj]
    have := List.pairwise_iff_getElem.1 hw.born j i (by simpa using hjl) (by simpa using hl) hj
    have h9 := (List.getElem?_eq_some_iff.1 h).2
    simpa [h9] using this
/-- What stands while hits are grouped. -/
structure GS where
  c : Nat
  m : VM
  o : List Ht
  f : List Vl
abbrev v0 : Vl := (0, 0, ByteArray.empty)
def GS.step (hs : List Bool) (vs : List Vl) (size : Int) (s : GS) (i : Nat) (z : Ht) : GS :=
  if hs.getD i false = true ∧ i < vs.length ∧ mval 0 s.m (vs.getD i v0) < size then ⟨mclk s.c s.m (vs.getD i v0), mset s.c s.m (vs.getD i v0) (IntKind.wrap .i64 (mval 0 s.m (vs.getD i v0) + 1)), s.o ++ [z], s.f ++ [vs.getD i v0]⟩ else s
def GS.go (hs : List Bool) (vs : List Vl) (size : Int) (l : List Ht) : Nat → GS
  | 0 => ⟨0, [], [], []⟩
  | k + 1 => (GS.go hs vs size l k).step hs vs size k (l.getD k (0, 0))
theorem ggo_wf (hs : List Bool) (vs : List Vl) (size : Int) (l : List Ht) : ∀ k, Wf (GS.go hs vs size l k).c (GS.go hs vs size l k).m ∧ (GS.go hs vs size l k).o.length ≤ k ∧ (GS.go hs vs size l k).f.length = (GS.go hs vs size l k).o.length
  | 0 => ⟨⟨by simp [GS.go], by simp [GS.go], by simp [GS.go]⟩, by simp [GS.go], rfl⟩
  | k + 1 => by
    obtain ⟨h1, h2, h3⟩ := ggo_wf hs vs size l k
    rw [GS.go]
    unfold GS.step
    split
    · exact ⟨(mset_wf h1 _ _).1, by simp only [List.length_append, List.length_singleton]; omega, by simp [h3]⟩
    · exact ⟨h1, by omega, h3⟩
theorem ren_V (ρ : Nat → Nat) (m : VM) : (upV m).map (fun e => (e.1.ren ρ, e.2.1.ren ρ, e.2.2)) = upV m := by
  unfold upV
  rw [List.map_map]
  refine List.map_congr_left fun e _ => ?_
  simp only [Function.comp, AV.ren, CV.ren, vcell, renL]
attribute [go_sem] mfind_V hasM_V
set_option maxHeartbeats 4000000 in
theorem group_spec (l : List Ht) (vs : List Vl) (hs : List Bool) (size : Int) (hl : l.length * 16 ≤ 140737488355328) (hvl : vs.length * 32 ≤ 140737488355328) (hhl : hs.length ≤ 4611686018427387904) :
    Spec Try.prog 36 [.v (.t (.sl 2 (hrows l))), .v (.t (.sl 3 (vrows vs))), .v (.t (.sl 1 (brows hs))), .v (.t (.int .i64 size))] [] [.v (.t (.sl 2 (hrows (GS.go hs vs size l l.length).o))), .v (.t (.sl 3 (vrows (GS.go hs vs size l l.length).f)))] [] := by
  refine spec_by Try.func36 rfl mixed tOk evOk (n := 73) rfl (by simp) (by simp) ?_
  rw [initSt_mk, show Try.f36.results.toList = [.tmp 8, .tmp 9] from rfl]
  simp only [initL, AV.sv, List.map_cons, List.map_nil, Nat.reduceAdd, Nat.zero_add]
  repeat' (first
   | (with_reducible first | refine s_seq ?_ | refine s_block ?_ | refine s_region fun kr hr => ?_)
   | (with_reducible refine s_text tOk [11, 12, 14, 15, 61, 62, 68, 69, 1000, 1001, 1002, 1003] (by kernel_rfl) (by simp [HeapIn, namers, namerDst, namerOp, namedOp, namedFn, ownLoad, Blk.has, hasRows, hasL, CV.has, hasRows_up, hasM_up, hasRows_append, hrows_len]; (try ((repeat' apply And.intro) <;> intros <;> omega))) fun kr hr => ?_)
   | (with_reducible first | refine s_op fun K' hk => ?_ | refine t_op fun K' hk => ?_ | (refine hk _ ?_; clear hk K') | (refine ht _ ?_; clear ht hf KT KF) | (refine hf _ ?_; clear ht hf KT KF) | ((first | refine s_nil ?_ | refine t_nil ?_); refine hr _ ?_; clear hr kr))
   | ((with_reducible refine n_seqK [0, 1, 2, 3, 4, 5, 6, 7, 8, 9, 10, 11, 12, 13, 14, 16, 17, 18, 19, 23, 25, 49, 58, 59] [11, 12, 14, 15, 61, 62, 68, 69] ?_); simp only [mk_keep, keepL, List.mem_cons, List.not_mem_nil, Nat.reduceEqDiff, Nat.zero_ne_one, Nat.one_ne_zero, reduceCtorEq, or_false, false_or, or_true, true_or, or_self, eq_self, ↓reduceIte])
   | (with_reducible first | refine s_cond fun KT KF ht hf => ?_ | refine s_skip ?_)
   | ((with_reducible refine s_long ?_); simp only [List.cons_append, List.nil_append])
   | (with_reducible first | refine s_exit ?_ | refine s_ret ?_ | refine e_seq ?_ | refine r_seq ?_ | refine n_block ?_ | refine e_block ?_ | refine r_block ?_ | refine e_loop ?_ | refine r_loop ?_ | refine e_round ?_ | refine r_round ?_ | refine s_round ?_ | refine f_block ?_ (by decide) | refine r_res ?_ | refine n_res ?_)
   | (simp only [hgb, go_sem, Int.reduceToNat, ↓reduceIte, reduceCtorEq, Nat.reduceEqDiff, Nat.reduceAdd, Nat.reduceMul, Nat.reduceLT, Nat.reduceLeDiff, Nat.reduceBEq, Int.reduceBEq, Int.reduceBNe, String.reduceBEq, Int.reduceEq, Int.reduceLT, Int.reduceLE, Int.reduceGE, Int.reduceGT, hrows_len]; clear hgb)
   | simp only [go_sem, Int.reduceToNat, ↓reduceIte, reduceCtorEq, Nat.reduceEqDiff, Nat.reduceAdd, Nat.reduceMul, Nat.reduceLT, Nat.reduceLeDiff, Nat.reduceBEq, Int.reduceBEq, Int.reduceBNe, String.reduceBEq, Int.reduceEq, Int.reduceLT, Int.reduceLE, Int.reduceGE, Int.reduceGT, hrows_len, hAll]
   | (refine ite_guard (fun hg => ?_) (fun hg => ?_) <;> (try simp only [Bool.not_eq_true, Bool.not_eq_false, Decidable.not_not] at hg) <;> (first | have hgb : (_ : Bool) = _ := hg | have hgb := ff hg | have hgb := tt hg))
   | (refine ⟨fun hc => ht _ ?_, fun hc => hf _ ?_⟩ <;> clear ht hf KT KF)
   | fail)
  refine w_loopG _ (gho_nilName (s := 11) (d := 11) (sz := 2) (by decide) ⟨2, rfl⟩ (by rw [fresh_t]; exact trivial; rfl)) ?_
  rw [mk_nilName]
  refine w_loopG _ (gho_nilName (s := 12) (d := 12) (sz := 3) (by decide) ⟨3, rfl⟩ (by rw [fresh_t]; exact trivial; rfl)) ?_
  rw [mk_nilName]
  refine w_loop [0, 1, 2, 3, 10, 11, 12, 16, 17, 18] [11, 12, 15] (σ := Nat) (fun k st => st = mk [(0, V (.sl 2 (hrows l))), (1, V (.sl 3 (vrows vs))), (2, V (.sl 1 (brows hs))), (3, I size), (10, .c (.mm 15)), (11, .c (.mr 11 0 (GS.go hs vs size l k).o.length)), (12, .c (.mr 12 0 (GS.go hs vs size l k).f.length)), (16, V (.sl 2 (hrows l))), (17, I l.length), (18, I k)] [(11, .cells 2 (up (hrows (GS.go hs vs size l k).o))), (12, .cells 3 (up (vrows (GS.go hs vs size l k).f))), (15, .map (GS.go hs vs size l k).c (upV (GS.go hs vs size l k).m))] ∧ k ≤ l.length) (fun k => l.length - k) 0 ?_ ?_
  · refine ⟨?_, Nat.zero_le _⟩
    simp only [go_sem, Int.reduceToNat, ↓reduceIte, reduceCtorEq, Nat.reduceEqDiff, Nat.reduceAdd, Nat.reduceMul, Nat.reduceLT, Nat.reduceLeDiff, Nat.reduceBEq, Int.reduceBEq, Int.reduceBNe, String.reduceBEq, Int.reduceEq, Int.reduceLT, Int.reduceLE, Int.reduceGE, Int.reduceGT, mk_keep, keepL, List.mem_cons, List.not_mem_nil, Nat.reduceEqDiff, Nat.zero_ne_one, Nat.one_ne_zero, reduceCtorEq, or_false, false_or, or_true, true_or, or_self, eq_self, ↓reduceIte]
    try rfl
  rintro k st' ⟨rfl, hk9⟩
  by_cases hlt : k < l.length
  · have f1 := ltI hlt
    have f2 : (hrows l)[k]? = some (hrow l[k]) := by rw [hrows_get, get_of_lt hlt]; rfl
    have f3 := wUp hlt (by omega)
    have hvl1 : (vrows vs).length = vs.length := vrows_len vs
    have hbl1 : (brows hs).length = hs.length := brows_len hs
    obtain ⟨hwf, ho1, ho2⟩ := ggo_wf hs vs size l k
    have hgo : GS.go hs vs size l (k + 1) = (GS.go hs vs size l k).step hs vs size k l[k] := by rw [GS.go, List.getD_eq_getElem?_getD, get_of_lt hlt]; rfl
    obtain ⟨⟨c, m, oo, ff1⟩, hE⟩ : ∃ E, GS.go hs vs size l k = E := ⟨_, rfl⟩
    obtain ⟨⟨a, b⟩, hz9⟩ : ∃ z, l[k] = z := ⟨_, rfl⟩
    rw [hE, hz9] at hgo
    rw [hE] at hwf ho1 ho2 ⊢
    rw [hz9] at f2
    simp only at hwf ho1 ho2
    have out : (GS.step hs vs size ⟨c, m, oo, ff1⟩ k (a, b) = ⟨c, m, oo, ff1⟩) → GS.go hs vs size l (k + 1) = ⟨c, m, oo, ff1⟩ := fun h => hgo.trans h
    by_cases c1 : k < hs.length
    · have g1 := ff (show ¬ (k : Int) ≥ hs.length by omega)
      have g2 : (brows hs)[k]? = some [.bool hs[k]] := by rw [brows_get, get_of_lt c1]; rfl
      have d1 : hs.getD k false = hs[k] := by rw [List.getD_eq_getElem?_getD, get_of_lt c1]; rfl
      cases hb : hs[k] with
      | false =>
        rw [hb] at g2 d1
        have hst := out (by unfold GS.step; rw [if_neg (by rw [d1]; simp)])
        repeat' (first
         | (with_reducible first | refine s_seq ?_ | refine s_block ?_ | refine s_region fun kr hr => ?_)
         | (with_reducible refine s_text tOk [11, 12, 14, 15, 61, 62, 68, 69, 1000, 1001, 1002, 1003] (by kernel_rfl) (by simp [HeapIn, namers, namerDst, namerOp, namedOp, namedFn, ownLoad, Blk.has, hasRows, hasL, CV.has, hasRows_up, hasM_up, hasRows_append, f1, f2, f3, g1, g2, hrow, hbl1]; (try ((repeat' apply And.intro) <;> intros <;> omega))) fun kr hr => ?_)
         | (with_reducible first | refine s_op fun K' hk => ?_ | refine t_op fun K' hk => ?_ | (refine hk _ ?_; clear hk K') | (refine ht _ ?_; clear ht hf KT KF) | (refine hf _ ?_; clear ht hf KT KF) | ((first | refine s_nil ?_ | refine t_nil ?_); refine hr _ ?_; clear hr kr))
         | ((with_reducible refine n_seqK [0, 1, 2, 3, 4, 5, 6, 7, 8, 9, 10, 11, 12, 13, 14, 16, 17, 18, 19, 23, 25, 49, 58, 59] [11, 12, 14, 15, 61, 62, 68, 69] ?_); simp only [mk_keep, keepL, List.mem_cons, List.not_mem_nil, Nat.reduceEqDiff, Nat.zero_ne_one, Nat.one_ne_zero, reduceCtorEq, or_false, false_or, or_true, true_or, or_self, eq_self, ↓reduceIte])
         | (with_reducible first | refine s_cond fun KT KF ht hf => ?_ | refine s_skip ?_)
         | ((with_reducible refine s_long ?_); simp only [List.cons_append, List.nil_append])
         | (with_reducible first | refine s_exit ?_ | refine s_ret ?_ | refine e_seq ?_ | refine r_seq ?_ | refine n_block ?_ | refine e_block ?_ | refine r_block ?_ | refine e_loop ?_ | refine r_loop ?_ | refine e_round ?_ | refine r_round ?_ | refine s_round ?_ | refine f_block ?_ (by decide) | refine r_res ?_ | refine n_res ?_)
         | (simp only [hgb, go_sem, Int.reduceToNat, ↓reduceIte, reduceCtorEq, Nat.reduceEqDiff, Nat.reduceAdd, Nat.reduceMul, Nat.reduceLT, Nat.reduceLeDiff, Nat.reduceBEq, Int.reduceBEq, Int.reduceBNe, String.reduceBEq, Int.reduceEq, Int.reduceLT, Int.reduceLE, Int.reduceGE, Int.reduceGT, f1, f2, f3, g1, g2, hrow, hbl1]; clear hgb)
         | simp only [go_sem, Int.reduceToNat, ↓reduceIte, reduceCtorEq, Nat.reduceEqDiff, Nat.reduceAdd, Nat.reduceMul, Nat.reduceLT, Nat.reduceLeDiff, Nat.reduceBEq, Int.reduceBEq, Int.reduceBNe, String.reduceBEq, Int.reduceEq, Int.reduceLT, Int.reduceLE, Int.reduceGE, Int.reduceGT, f1, f2, f3, g1, g2, hrow, hbl1, hAll]
         | (refine ite_guard (fun hg => ?_) (fun hg => ?_) <;> (try simp only [Bool.not_eq_true, Bool.not_eq_false, Decidable.not_not] at hg) <;> (first | have hgb : (_ : Bool) = _ := hg | have hgb := ff hg | have hgb := tt hg))
         | (refine ⟨fun hc => ht _ ?_, fun hc => hf _ ?_⟩ <;> clear ht hf KT KF)
         | fail)
        refine n_loop (k + 1) [0, 1, 2, 3, 10, 11, 12, 16, 17, 18] [11, 12, 15] ⟨?_, hlt⟩ (by omega)
        simp only [go_sem, Int.reduceToNat, ↓reduceIte, reduceCtorEq, Nat.reduceEqDiff, Nat.reduceAdd, Nat.reduceMul, Nat.reduceLT, Nat.reduceLeDiff, Nat.reduceBEq, Int.reduceBEq, Int.reduceBNe, String.reduceBEq, Int.reduceEq, Int.reduceLT, Int.reduceLE, Int.reduceGE, Int.reduceGT, mk_keep, keepL, List.mem_cons, List.not_mem_nil, Nat.reduceEqDiff, Nat.zero_ne_one, Nat.one_ne_zero, reduceCtorEq, or_false, false_or, or_true, true_or, or_self, eq_self, ↓reduceIte, hst]
      | true =>
        rw [hb] at g2 d1
        by_cases c2 : k < vs.length
        · have g3 := ff (show ¬ (k : Int) ≥ vs.length by omega)
          have g4 : (vrows vs)[k]? = some (vrow vs[k]) := by rw [vrows_get, get_of_lt c2]; rfl
          have d2 : vs.getD k v0 = vs[k] := by rw [List.getD_eq_getElem?_getD, get_of_lt c2]; rfl
          obtain ⟨⟨v1, v2, v3⟩, hv9⟩ : ∃ v, vs[k] = v := ⟨_, rfl⟩
          rw [hv9] at g4 d2
          have q1 := tt (show (oo.length + 1) * 16 ≤ 140737488355328 by omega)
          have q2 := tt (show oo.length ≤ 9223372036854775806 by omega)
          have q3 := tt (show (ff1.length + 1) * 32 ≤ 140737488355328 by omega)
          have q4 := tt (show ff1.length ≤ 9223372036854775806 by omega)
          have hro1 : (hrows oo).length = oo.length := hrows_len oo
          have hro2 : (vrows ff1).length = ff1.length := vrows_len ff1
          have r1 : (up (hrows oo)).take oo.length = up (hrows oo) := List.take_of_length_le (by rw [up_length]; omega)
          have r2 : (up (vrows ff1)).take ff1.length = up (vrows ff1) := List.take_of_length_le (by rw [up_length]; omega)
          have r3 : up (hrows oo) ++ [[.t (.int .i64 a), .t (.int .i64 b)]] = up (hrows (oo ++ [(a, b)])) := by simp [up, hrows, hrow]
          have r4 : up (vrows ff1) ++ [[.t (.int .i64 v1), .t (.int .i64 v2), .t (.str v3)]] = up (vrows (ff1 ++ [(v1, v2, v3)])) := by simp [up, vrows, vrow]
          have r5 : (hrows (oo ++ [(a, b)])).length = oo.length + 1 := by rw [hrows_len]; simp
          have r6 : (vrows (ff1 ++ [(v1, v2, v3)])).length = ff1.length + 1 := by rw [vrows_len]; simp
          cases hf : pfind (v1, v2, v3) m with
          | none =>
            have hmv : mval 0 m (v1, v2, v3) = 0 := by simp [mval, hf]
            by_cases c3 : (0 : Int) ≥ size
            · have g5 := tt c3
              have hst := out (by unfold GS.step; rw [d1, d2, hmv, if_neg (fun h => by omega)])
              repeat' (first
               | (with_reducible first | refine s_seq ?_ | refine s_block ?_ | refine s_region fun kr hr => ?_)
               | (with_reducible refine s_text tOk [11, 12, 14, 15, 61, 62, 68, 69, 1000, 1001, 1002, 1003] (by kernel_rfl) (by simp [HeapIn, namers, namerDst, namerOp, namedOp, namedFn, ownLoad, Blk.has, hasRows, hasL, CV.has, hasRows_up, hasM_up, hasRows_append, f1, f2, f3, g1, g2, g3, g4, g5, hrow, vrow, hbl1, hvl1, hf]; (try ((repeat' apply And.intro) <;> intros <;> omega))) fun kr hr => ?_)
               | (with_reducible first | refine s_op fun K' hk => ?_ | refine t_op fun K' hk => ?_ | (refine hk _ ?_; clear hk K') | (refine ht _ ?_; clear ht hf KT KF) | (refine hf _ ?_; clear ht hf KT KF) | ((first | refine s_nil ?_ | refine t_nil ?_); refine hr _ ?_; clear hr kr))
               | ((with_reducible refine n_seqK [0, 1, 2, 3, 4, 5, 6, 7, 8, 9, 10, 11, 12, 13, 14, 16, 17, 18, 19, 23, 25, 49, 58, 59] [11, 12, 14, 15, 61, 62, 68, 69] ?_); simp only [mk_keep, keepL, List.mem_cons, List.not_mem_nil, Nat.reduceEqDiff, Nat.zero_ne_one, Nat.one_ne_zero, reduceCtorEq, or_false, false_or, or_true, true_or, or_self, eq_self, ↓reduceIte])
               | (with_reducible first | refine s_cond fun KT KF ht hf => ?_ | refine s_skip ?_)
               | ((with_reducible refine s_long ?_); simp only [List.cons_append, List.nil_append])
               | (with_reducible first | refine s_exit ?_ | refine s_ret ?_ | refine e_seq ?_ | refine r_seq ?_ | refine n_block ?_ | refine e_block ?_ | refine r_block ?_ | refine e_loop ?_ | refine r_loop ?_ | refine e_round ?_ | refine r_round ?_ | refine s_round ?_ | refine f_block ?_ (by decide) | refine r_res ?_ | refine n_res ?_)
               | (simp only [hgb, go_sem, Int.reduceToNat, ↓reduceIte, reduceCtorEq, Nat.reduceEqDiff, Nat.reduceAdd, Nat.reduceMul, Nat.reduceLT, Nat.reduceLeDiff, Nat.reduceBEq, Int.reduceBEq, Int.reduceBNe, String.reduceBEq, Int.reduceEq, Int.reduceLT, Int.reduceLE, Int.reduceGE, Int.reduceGT, f1, f2, f3, g1, g2, g3, g4, g5, hrow, vrow, hbl1, hvl1, hf]; clear hgb)
               | simp only [go_sem, Int.reduceToNat, ↓reduceIte, reduceCtorEq, Nat.reduceEqDiff, Nat.reduceAdd, Nat.reduceMul, Nat.reduceLT, Nat.reduceLeDiff, Nat.reduceBEq, Int.reduceBEq, Int.reduceBNe, String.reduceBEq, Int.reduceEq, Int.reduceLT, Int.reduceLE, Int.reduceGE, Int.reduceGT, f1, f2, f3, g1, g2, g3, g4, g5, hrow, vrow, hbl1, hvl1, hf, hAll]
               | (refine ite_guard (fun hg => ?_) (fun hg => ?_) <;> (try simp only [Bool.not_eq_true, Bool.not_eq_false, Decidable.not_not] at hg) <;> (first | have hgb : (_ : Bool) = _ := hg | have hgb := ff hg | have hgb := tt hg))
               | (refine ⟨fun hc => ht _ ?_, fun hc => hf _ ?_⟩ <;> clear ht hf KT KF)
               | fail)
              refine n_loop (k + 1) [0, 1, 2, 3, 10, 11, 12, 16, 17, 18] [11, 12, 15] ⟨?_, hlt⟩ (by omega)
              simp only [go_sem, Int.reduceToNat, ↓reduceIte, reduceCtorEq, Nat.reduceEqDiff, Nat.reduceAdd, Nat.reduceMul, Nat.reduceLT, Nat.reduceLeDiff, Nat.reduceBEq, Int.reduceBEq, Int.reduceBNe, String.reduceBEq, Int.reduceEq, Int.reduceLT, Int.reduceLE, Int.reduceGE, Int.reduceGT, mk_keep, keepL, List.mem_cons, List.not_mem_nil, Nat.reduceEqDiff, Nat.zero_ne_one, Nat.one_ne_zero, reduceCtorEq, or_false, false_or, or_true, true_or, or_self, eq_self, ↓reduceIte, hst]
            have g5 := ff c3
            have w1 : IntKind.wrap .i64 1 = 1 := wI (by omega) (by omega)
            have w0 : IntKind.wrap .i64 (0 + 1) = 1 := w1
            have hst9 : GS.go hs vs size l (k + 1) = ⟨c + 1, m ++ [((v1, v2, v3), 1, c)], oo ++ [(a, b)], ff1 ++ [(v1, v2, v3)]⟩ := by
              rw [hgo]; unfold GS.step
              rw [d1, d2, hmv, if_pos ⟨rfl, c2, by omega⟩]
              simp [mclk, mset, hf, w1]
            have hw2 : Wf (c + 1) (m ++ [((v1, v2, v3), (0 : Int), c)]) := by
              have := (mset_wf hwf (v1, v2, v3) (0 : Int)).1
              simpa [mclk, mset, hf] using this
            have ha : upV m ++ [(.agg [.t (.int .i64 v1), .t (.int .i64 v2), .t (.str v3)], .v (.t (.int .i64 0)), c)] = upV (m ++ [((v1, v2, v3), (0 : Int), c)]) := upV_app m (v1, v2, v3) 0 c
            have hat : (m ++ [((v1, v2, v3), (0 : Int), c)])[m.length]? = some ((v1, v2, v3), 0, c) := by simp
            have hf2 : pfind (v1, v2, v3) (m ++ [((v1, v2, v3), (0 : Int), c)]) = some (m.length, 0) := by
              have key : ∀ m : VM, pfind (v1, v2, v3) m = none → pfind (v1, v2, v3) (m ++ [((v1, v2, v3), (0 : Int), c)]) = some (m.length, 0) := by
                intro m
                induction m with
                | nil => intro _; simp [pfind]
                | cons x m ih =>
                  intro h
                  have hn := pfind_none.1 h
                  rw [List.forall_mem_cons] at hn
                  rw [List.cons_append]
                  simp only [pfind]
                  rw [if_neg (fun e => hn.1 e.symm), ih (pfind_none.2 hn.2)]
                  rfl
              exact key m hf
            have hb2 := upV_born hw2 hat
            have hs2 : (upV (m ++ [((v1, v2, v3), (0 : Int), c)])).modify m.length (fun x => (x.1, .v (.t (.int .i64 1)), x.2.2)) = upV (m ++ [((v1, v2, v3), (1 : Int), c)]) := by
              rw [upV_set hat 1]
              congr 1
              apply List.ext_getElem?
              intro j
              rw [List.getElem?_modify]
              by_cases hj : m.length = j
              · subst hj; simp
              · rcases Nat.lt_or_ge j m.length with h | h
                · simp [hj, List.getElem?_append_left h]
                · rw [List.getElem?_append_right h, List.getElem?_append_right h, List.getElem?_eq_none (by simp; omega), List.getElem?_eq_none (by simp; omega)]; simp
            simp only [ieq] at hb2
            obtain ⟨J8, hJ⟩ : ∃ J : St → Prop, J = fun st => st = mk [(0, V (.sl 2 (hrows l))), (1, V (.sl 3 (vrows vs))), (2, V (.sl 1 (brows hs))), (3, I size), (10, .c (.mm 15)), (11, .c (.mr 11 0 oo.length)), (12, .c (.mr 12 0 ff1.length)), (13, I k), (14, .c (.mp 14 0 0)), (16, V (.sl 2 (hrows l))), (17, I l.length), (18, I k)] [(11, .cells 2 (up (hrows oo))), (12, .cells 3 (up (vrows ff1))), (14, .cells 2 [[.t (.int .i64 a), .t (.int .i64 b)]]), (15, .map (c + 1) (upV (m ++ [((v1, v2, v3), (1 : Int), c)])))] := ⟨_, rfl⟩
            repeat' (first
             | with_reducible refine s_draw (id := 8) ?_
             | ((with_reducible refine a_seg2 tOk [11, 12, 14, 15] 10 0 5 (by decide) (by kernel_rfl) (by simp [HeapIn, namers, namerDst, namerOp, namedOp, namedFn, ownLoad, Blk.has, hasRows, hasL, CV.has, hasRows_up, hasM_up, hasRows_append, f1, f2, f3, g1, g2, g3, g4, g5, hrow, vrow, hbl1, hvl1, hf, hasM_V]; (try ((repeat' apply And.intro) <;> intros <;> omega))) fun kr hr => ?_); simp only [List.drop_succ_cons, List.drop_zero, List.take_succ_cons, List.take_zero, List.map_cons, List.map_nil, List.cons_append, List.nil_append, Nat.reduceSub])
             | (with_reducible refine hr _ ?_; clear hr kr)
             | with_reducible refine s_seqJ (x := .region 8 _ _) J8 ?_ ?_
             | (with_reducible first | refine s_seq ?_ | refine s_block ?_ | refine s_region fun kr hr => ?_)
             | (with_reducible refine s_text tOk [11, 12, 14, 15] (by kernel_rfl) (by simp [HeapIn, namers, namerDst, namerOp, namedOp, namedFn, ownLoad, Blk.has, hasRows, hasL, CV.has, hasRows_up, hasM_up, hasRows_append, f1, f2, f3, g1, g2, g3, g4, g5, hrow, vrow, hbl1, hvl1, hf, hasM_V]; (try ((repeat' apply And.intro) <;> intros <;> omega))) fun kr hr => ?_)
             | (with_reducible first | refine s_op fun K' hk => ?_ | refine t_op fun K' hk => ?_ | (refine hk _ ?_; clear hk K') | (refine ht _ ?_; clear ht hf KT KF) | (refine hf _ ?_; clear ht hf KT KF) | ((first | refine s_nil ?_ | refine t_nil ?_); refine hr _ ?_; clear hr kr))
             | ((with_reducible refine n_seqK [0, 1, 2, 3, 4, 5, 6, 7, 8, 9, 10, 11, 12, 13, 14, 16, 17, 18, 19, 23, 25, 49, 58, 59] [11, 12, 14, 15, 61, 62, 68, 69] ?_); simp only [mk_keep, keepL, List.mem_cons, List.not_mem_nil, Nat.reduceEqDiff, Nat.zero_ne_one, Nat.one_ne_zero, reduceCtorEq, or_false, false_or, or_true, true_or, or_self, eq_self, ↓reduceIte])
             | (with_reducible first | refine s_cond fun KT KF ht hf => ?_ | refine s_skip ?_)
             | ((with_reducible refine s_long ?_); simp only [List.cons_append, List.nil_append])
             | (with_reducible first | refine s_exit ?_ | refine s_ret ?_ | refine e_seq ?_ | refine r_seq ?_ | refine n_block ?_ | refine e_block ?_ | refine r_block ?_ | refine e_loop ?_ | refine r_loop ?_ | refine e_round ?_ | refine r_round ?_ | refine s_round ?_ | refine f_block ?_ (by decide) | refine r_res ?_ | refine n_res ?_)
             | (simp only [hgb, go_sem, Int.reduceToNat, ↓reduceIte, reduceCtorEq, Nat.reduceEqDiff, Nat.reduceAdd, Nat.reduceMul, Nat.reduceLT, Nat.reduceLeDiff, Nat.reduceBEq, Int.reduceBEq, Int.reduceBNe, String.reduceBEq, Int.reduceEq, Int.reduceLT, Int.reduceLE, Int.reduceGE, Int.reduceGT, f1, f2, f3, g1, g2, g3, g4, g5, hrow, vrow, hbl1, hvl1, hf, hasM_V]; clear hgb)
             | simp only [go_sem, Int.reduceToNat, ↓reduceIte, reduceCtorEq, Nat.reduceEqDiff, Nat.reduceAdd, Nat.reduceMul, Nat.reduceLT, Nat.reduceLeDiff, Nat.reduceBEq, Int.reduceBEq, Int.reduceBNe, String.reduceBEq, Int.reduceEq, Int.reduceLT, Int.reduceLE, Int.reduceGE, Int.reduceGT, f1, f2, f3, g1, g2, g3, g4, g5, hrow, vrow, hbl1, hvl1, hf, hasM_V, hAll]
             | (refine ite_guard (fun hg => ?_) (fun hg => ?_) <;> (try simp only [Bool.not_eq_true, Bool.not_eq_false, Decidable.not_not] at hg) <;> (first | have hgb : (_ : Bool) = _ := hg | have hgb := ff hg | have hgb := tt hg))
             | (refine ⟨fun hc => ht _ ?_, fun hc => hf _ ?_⟩ <;> clear ht hf KT KF)
             | fail)
            refine a_tree 10 5 5 (by decide) rfl ?_
            refine x_any (r := 5) (rs := [7]) (by kernel_rfl) ?_
            refine List.forall_mem_cons.2 ⟨?_, List.forall_mem_cons.2 ⟨?_, fun _ h => by cases h⟩⟩
            · refine x_op rfl rfl fun K' hk => ?_
              simp only [go_sem, Int.reduceToNat, ↓reduceIte, reduceCtorEq, Nat.reduceEqDiff, Nat.reduceAdd, Nat.reduceMul, Nat.reduceLT, Nat.reduceLeDiff, Nat.reduceBEq, Int.reduceBEq, Int.reduceBNe, String.reduceBEq, Int.reduceEq, Int.reduceLT, Int.reduceLE, Int.reduceGE, Int.reduceGT, hf, ha, hf2, hb2, hs2, w0]
              refine hk _ ?_
              clear hk K'
              refine x_any (r := 6) (rs := [7]) (by kernel_rfl) ?_
              refine List.forall_mem_cons.2 ⟨?_, List.forall_mem_cons.2 ⟨?_, fun _ h => by cases h⟩⟩
              · refine x_op rfl rfl fun K' hk => ?_
                simp only [go_sem, Int.reduceToNat, ↓reduceIte, reduceCtorEq, Nat.reduceEqDiff, Nat.reduceAdd, Nat.reduceMul, Nat.reduceLT, Nat.reduceLeDiff, Nat.reduceBEq, Int.reduceBEq, Int.reduceBNe, String.reduceBEq, Int.reduceEq, Int.reduceLT, Int.reduceLE, Int.reduceGE, Int.reduceGT, hf, ha, hf2, hb2, hs2, w0]
                refine hk _ ?_
                clear hk K'
                refine x_any (r := 7) (rs := []) (by kernel_rfl) ?_
                refine List.forall_mem_cons.2 ⟨?_, fun _ h => by cases h⟩
                · refine x_op rfl rfl fun K' hk => ?_
                  simp only [go_sem, Int.reduceToNat, ↓reduceIte, reduceCtorEq, Nat.reduceEqDiff, Nat.reduceAdd, Nat.reduceMul, Nat.reduceLT, Nat.reduceLeDiff, Nat.reduceBEq, Int.reduceBEq, Int.reduceBNe, String.reduceBEq, Int.reduceEq, Int.reduceLT, Int.reduceLE, Int.reduceGE, Int.reduceGT, hf, ha, hf2, hb2, hs2, w0]
                  refine hk _ ?_
                  clear hk K'
                  refine x_any (r := 8) (rs := []) (by kernel_rfl) ?_
                  refine List.forall_mem_cons.2 ⟨?_, fun _ h => by cases h⟩
                  · refine x_op rfl rfl fun K' hk => ?_
                    simp only [go_sem, Int.reduceToNat, ↓reduceIte, reduceCtorEq, Nat.reduceEqDiff, Nat.reduceAdd, Nat.reduceMul, Nat.reduceLT, Nat.reduceLeDiff, Nat.reduceBEq, Int.reduceBEq, Int.reduceBNe, String.reduceBEq, Int.reduceEq, Int.reduceLT, Int.reduceLE, Int.reduceGE, Int.reduceGT, hf, ha, hf2, hb2, hs2, w0]
                    refine hk _ ?_
                    clear hk K'
                    refine x_any (r := 9) (rs := []) (by kernel_rfl) ?_
                    refine List.forall_mem_cons.2 ⟨?_, fun _ h => by cases h⟩
                    · refine x_op rfl rfl fun K' hk => ?_
                      simp only [go_sem, Int.reduceToNat, ↓reduceIte, reduceCtorEq, Nat.reduceEqDiff, Nat.reduceAdd, Nat.reduceMul, Nat.reduceLT, Nat.reduceLeDiff, Nat.reduceBEq, Int.reduceBEq, Int.reduceBNe, String.reduceBEq, Int.reduceEq, Int.reduceLT, Int.reduceLE, Int.reduceGE, Int.reduceGT, hf, ha, hf2, hb2, hs2, w0]
                      refine hk _ ?_
                      clear hk K'
                      refine x_end (by kernel_rfl) ?_
                      refine n_join [0, 1, 2, 3, 10, 11, 12, 13, 14, 16, 17, 18] [11, 12, 14, 15] ?_; rw [hJ]; simp only [go_sem, Int.reduceToNat, ↓reduceIte, reduceCtorEq, Nat.reduceEqDiff, Nat.reduceAdd, Nat.reduceMul, Nat.reduceLT, Nat.reduceLeDiff, Nat.reduceBEq, Int.reduceBEq, Int.reduceBNe, String.reduceBEq, Int.reduceEq, Int.reduceLT, Int.reduceLE, Int.reduceGE, Int.reduceGT, mk_keep, keepL, List.mem_cons, List.not_mem_nil, Nat.reduceEqDiff, Nat.zero_ne_one, Nat.one_ne_zero, reduceCtorEq, or_false, false_or, or_true, true_or, or_self, eq_self, ↓reduceIte]
              · refine x_op rfl rfl fun K' hk => ?_
                simp only [go_sem, Int.reduceToNat, ↓reduceIte, reduceCtorEq, Nat.reduceEqDiff, Nat.reduceAdd, Nat.reduceMul, Nat.reduceLT, Nat.reduceLeDiff, Nat.reduceBEq, Int.reduceBEq, Int.reduceBNe, String.reduceBEq, Int.reduceEq, Int.reduceLT, Int.reduceLE, Int.reduceGE, Int.reduceGT, hf, ha, hf2, hb2, hs2, w0]
                refine hk _ ?_
                clear hk K'
                refine x_any (r := 6) (rs := [8]) (by kernel_rfl) ?_
                refine List.forall_mem_cons.2 ⟨?_, List.forall_mem_cons.2 ⟨?_, fun _ h => by cases h⟩⟩
                · refine x_op rfl rfl fun K' hk => ?_
                  simp only [go_sem, Int.reduceToNat, ↓reduceIte, reduceCtorEq, Nat.reduceEqDiff, Nat.reduceAdd, Nat.reduceMul, Nat.reduceLT, Nat.reduceLeDiff, Nat.reduceBEq, Int.reduceBEq, Int.reduceBNe, String.reduceBEq, Int.reduceEq, Int.reduceLT, Int.reduceLE, Int.reduceGE, Int.reduceGT, hf, ha, hf2, hb2, hs2, w0]
                  refine hk _ ?_
                  clear hk K'
                  refine x_any (r := 8) (rs := []) (by kernel_rfl) ?_
                  refine List.forall_mem_cons.2 ⟨?_, fun _ h => by cases h⟩
                  · refine x_op rfl rfl fun K' hk => ?_
                    simp only [go_sem, Int.reduceToNat, ↓reduceIte, reduceCtorEq, Nat.reduceEqDiff, Nat.reduceAdd, Nat.reduceMul, Nat.reduceLT, Nat.reduceLeDiff, Nat.reduceBEq, Int.reduceBEq, Int.reduceBNe, String.reduceBEq, Int.reduceEq, Int.reduceLT, Int.reduceLE, Int.reduceGE, Int.reduceGT, hf, ha, hf2, hb2, hs2, w0]
                    refine hk _ ?_
                    clear hk K'
                    refine x_any (r := 9) (rs := []) (by kernel_rfl) ?_
                    refine List.forall_mem_cons.2 ⟨?_, fun _ h => by cases h⟩
                    · refine x_op rfl rfl fun K' hk => ?_
                      simp only [go_sem, Int.reduceToNat, ↓reduceIte, reduceCtorEq, Nat.reduceEqDiff, Nat.reduceAdd, Nat.reduceMul, Nat.reduceLT, Nat.reduceLeDiff, Nat.reduceBEq, Int.reduceBEq, Int.reduceBNe, String.reduceBEq, Int.reduceEq, Int.reduceLT, Int.reduceLE, Int.reduceGE, Int.reduceGT, hf, ha, hf2, hb2, hs2, w0]
                      refine hk _ ?_
                      clear hk K'
                      refine x_end (by kernel_rfl) ?_
                      refine n_join [0, 1, 2, 3, 10, 11, 12, 13, 14, 16, 17, 18] [11, 12, 14, 15] ?_; rw [hJ]; simp only [go_sem, Int.reduceToNat, ↓reduceIte, reduceCtorEq, Nat.reduceEqDiff, Nat.reduceAdd, Nat.reduceMul, Nat.reduceLT, Nat.reduceLeDiff, Nat.reduceBEq, Int.reduceBEq, Int.reduceBNe, String.reduceBEq, Int.reduceEq, Int.reduceLT, Int.reduceLE, Int.reduceGE, Int.reduceGT, mk_keep, keepL, List.mem_cons, List.not_mem_nil, Nat.reduceEqDiff, Nat.zero_ne_one, Nat.one_ne_zero, reduceCtorEq, or_false, false_or, or_true, true_or, or_self, eq_self, ↓reduceIte]
                · refine x_op rfl rfl fun K' hk => ?_
                  simp only [go_sem, Int.reduceToNat, ↓reduceIte, reduceCtorEq, Nat.reduceEqDiff, Nat.reduceAdd, Nat.reduceMul, Nat.reduceLT, Nat.reduceLeDiff, Nat.reduceBEq, Int.reduceBEq, Int.reduceBNe, String.reduceBEq, Int.reduceEq, Int.reduceLT, Int.reduceLE, Int.reduceGE, Int.reduceGT, hf, ha, hf2, hb2, hs2, w0]
                  refine hk _ ?_
                  clear hk K'
                  refine x_any (r := 6) (rs := []) (by kernel_rfl) ?_
                  refine List.forall_mem_cons.2 ⟨?_, fun _ h => by cases h⟩
                  · refine x_op rfl rfl fun K' hk => ?_
                    simp only [go_sem, Int.reduceToNat, ↓reduceIte, reduceCtorEq, Nat.reduceEqDiff, Nat.reduceAdd, Nat.reduceMul, Nat.reduceLT, Nat.reduceLeDiff, Nat.reduceBEq, Int.reduceBEq, Int.reduceBNe, String.reduceBEq, Int.reduceEq, Int.reduceLT, Int.reduceLE, Int.reduceGE, Int.reduceGT, hf, ha, hf2, hb2, hs2, w0]
                    refine hk _ ?_
                    clear hk K'
                    refine x_any (r := 9) (rs := []) (by kernel_rfl) ?_
                    refine List.forall_mem_cons.2 ⟨?_, fun _ h => by cases h⟩
                    · refine x_op rfl rfl fun K' hk => ?_
                      simp only [go_sem, Int.reduceToNat, ↓reduceIte, reduceCtorEq, Nat.reduceEqDiff, Nat.reduceAdd, Nat.reduceMul, Nat.reduceLT, Nat.reduceLeDiff, Nat.reduceBEq, Int.reduceBEq, Int.reduceBNe, String.reduceBEq, Int.reduceEq, Int.reduceLT, Int.reduceLE, Int.reduceGE, Int.reduceGT, hf, ha, hf2, hb2, hs2, w0]
                      refine hk _ ?_
                      clear hk K'
                      refine x_end (by kernel_rfl) ?_
                      refine n_join [0, 1, 2, 3, 10, 11, 12, 13, 14, 16, 17, 18] [11, 12, 14, 15] ?_; rw [hJ]; simp only [go_sem, Int.reduceToNat, ↓reduceIte, reduceCtorEq, Nat.reduceEqDiff, Nat.reduceAdd, Nat.reduceMul, Nat.reduceLT, Nat.reduceLeDiff, Nat.reduceBEq, Int.reduceBEq, Int.reduceBNe, String.reduceBEq, Int.reduceEq, Int.reduceLT, Int.reduceLE, Int.reduceGE, Int.reduceGT, mk_keep, keepL, List.mem_cons, List.not_mem_nil, Nat.reduceEqDiff, Nat.zero_ne_one, Nat.one_ne_zero, reduceCtorEq, or_false, false_or, or_true, true_or, or_self, eq_self, ↓reduceIte]
            · refine x_op rfl rfl fun K' hk => ?_
              simp only [go_sem, Int.reduceToNat, ↓reduceIte, reduceCtorEq, Nat.reduceEqDiff, Nat.reduceAdd, Nat.reduceMul, Nat.reduceLT, Nat.reduceLeDiff, Nat.reduceBEq, Int.reduceBEq, Int.reduceBNe, String.reduceBEq, Int.reduceEq, Int.reduceLT, Int.reduceLE, Int.reduceGE, Int.reduceGT, hf, ha, hf2, hb2, hs2, w0]
              refine hk _ ?_
              clear hk K'
              refine x_any (r := 5) (rs := [8]) (by kernel_rfl) ?_
              refine List.forall_mem_cons.2 ⟨?_, List.forall_mem_cons.2 ⟨?_, fun _ h => by cases h⟩⟩
              · refine x_op rfl rfl fun K' hk => ?_
                simp only [go_sem, Int.reduceToNat, ↓reduceIte, reduceCtorEq, Nat.reduceEqDiff, Nat.reduceAdd, Nat.reduceMul, Nat.reduceLT, Nat.reduceLeDiff, Nat.reduceBEq, Int.reduceBEq, Int.reduceBNe, String.reduceBEq, Int.reduceEq, Int.reduceLT, Int.reduceLE, Int.reduceGE, Int.reduceGT, hf, ha, hf2, hb2, hs2, w0]
                refine hk _ ?_
                clear hk K'
                refine x_any (r := 6) (rs := [8]) (by kernel_rfl) ?_
                refine List.forall_mem_cons.2 ⟨?_, List.forall_mem_cons.2 ⟨?_, fun _ h => by cases h⟩⟩
                · refine x_op rfl rfl fun K' hk => ?_
                  simp only [go_sem, Int.reduceToNat, ↓reduceIte, reduceCtorEq, Nat.reduceEqDiff, Nat.reduceAdd, Nat.reduceMul, Nat.reduceLT, Nat.reduceLeDiff, Nat.reduceBEq, Int.reduceBEq, Int.reduceBNe, String.reduceBEq, Int.reduceEq, Int.reduceLT, Int.reduceLE, Int.reduceGE, Int.reduceGT, hf, ha, hf2, hb2, hs2, w0]
                  refine hk _ ?_
                  clear hk K'
                  refine x_any (r := 8) (rs := []) (by kernel_rfl) ?_
                  refine List.forall_mem_cons.2 ⟨?_, fun _ h => by cases h⟩
                  · refine x_op rfl rfl fun K' hk => ?_
                    simp only [go_sem, Int.reduceToNat, ↓reduceIte, reduceCtorEq, Nat.reduceEqDiff, Nat.reduceAdd, Nat.reduceMul, Nat.reduceLT, Nat.reduceLeDiff, Nat.reduceBEq, Int.reduceBEq, Int.reduceBNe, String.reduceBEq, Int.reduceEq, Int.reduceLT, Int.reduceLE, Int.reduceGE, Int.reduceGT, hf, ha, hf2, hb2, hs2, w0]
                    refine hk _ ?_
                    clear hk K'
                    refine x_any (r := 9) (rs := []) (by kernel_rfl) ?_
                    refine List.forall_mem_cons.2 ⟨?_, fun _ h => by cases h⟩
                    · refine x_op rfl rfl fun K' hk => ?_
                      simp only [go_sem, Int.reduceToNat, ↓reduceIte, reduceCtorEq, Nat.reduceEqDiff, Nat.reduceAdd, Nat.reduceMul, Nat.reduceLT, Nat.reduceLeDiff, Nat.reduceBEq, Int.reduceBEq, Int.reduceBNe, String.reduceBEq, Int.reduceEq, Int.reduceLT, Int.reduceLE, Int.reduceGE, Int.reduceGT, hf, ha, hf2, hb2, hs2, w0]
                      refine hk _ ?_
                      clear hk K'
                      refine x_end (by kernel_rfl) ?_
                      refine n_join [0, 1, 2, 3, 10, 11, 12, 13, 14, 16, 17, 18] [11, 12, 14, 15] ?_; rw [hJ]; simp only [go_sem, Int.reduceToNat, ↓reduceIte, reduceCtorEq, Nat.reduceEqDiff, Nat.reduceAdd, Nat.reduceMul, Nat.reduceLT, Nat.reduceLeDiff, Nat.reduceBEq, Int.reduceBEq, Int.reduceBNe, String.reduceBEq, Int.reduceEq, Int.reduceLT, Int.reduceLE, Int.reduceGE, Int.reduceGT, mk_keep, keepL, List.mem_cons, List.not_mem_nil, Nat.reduceEqDiff, Nat.zero_ne_one, Nat.one_ne_zero, reduceCtorEq, or_false, false_or, or_true, true_or, or_self, eq_self, ↓reduceIte]
                · refine x_op rfl rfl fun K' hk => ?_
                  simp only [go_sem, Int.reduceToNat, ↓reduceIte, reduceCtorEq, Nat.reduceEqDiff, Nat.reduceAdd, Nat.reduceMul, Nat.reduceLT, Nat.reduceLeDiff, Nat.reduceBEq, Int.reduceBEq, Int.reduceBNe, String.reduceBEq, Int.reduceEq, Int.reduceLT, Int.reduceLE, Int.reduceGE, Int.reduceGT, hf, ha, hf2, hb2, hs2, w0]
                  refine hk _ ?_
                  clear hk K'
                  refine x_any (r := 6) (rs := []) (by kernel_rfl) ?_
                  refine List.forall_mem_cons.2 ⟨?_, fun _ h => by cases h⟩
                  · refine x_op rfl rfl fun K' hk => ?_
                    simp only [go_sem, Int.reduceToNat, ↓reduceIte, reduceCtorEq, Nat.reduceEqDiff, Nat.reduceAdd, Nat.reduceMul, Nat.reduceLT, Nat.reduceLeDiff, Nat.reduceBEq, Int.reduceBEq, Int.reduceBNe, String.reduceBEq, Int.reduceEq, Int.reduceLT, Int.reduceLE, Int.reduceGE, Int.reduceGT, hf, ha, hf2, hb2, hs2, w0]
                    refine hk _ ?_
                    clear hk K'
                    refine x_any (r := 9) (rs := []) (by kernel_rfl) ?_
                    refine List.forall_mem_cons.2 ⟨?_, fun _ h => by cases h⟩
                    · refine x_op rfl rfl fun K' hk => ?_
                      simp only [go_sem, Int.reduceToNat, ↓reduceIte, reduceCtorEq, Nat.reduceEqDiff, Nat.reduceAdd, Nat.reduceMul, Nat.reduceLT, Nat.reduceLeDiff, Nat.reduceBEq, Int.reduceBEq, Int.reduceBNe, String.reduceBEq, Int.reduceEq, Int.reduceLT, Int.reduceLE, Int.reduceGE, Int.reduceGT, hf, ha, hf2, hb2, hs2, w0]
                      refine hk _ ?_
                      clear hk K'
                      refine x_end (by kernel_rfl) ?_
                      refine n_join [0, 1, 2, 3, 10, 11, 12, 13, 14, 16, 17, 18] [11, 12, 14, 15] ?_; rw [hJ]; simp only [go_sem, Int.reduceToNat, ↓reduceIte, reduceCtorEq, Nat.reduceEqDiff, Nat.reduceAdd, Nat.reduceMul, Nat.reduceLT, Nat.reduceLeDiff, Nat.reduceBEq, Int.reduceBEq, Int.reduceBNe, String.reduceBEq, Int.reduceEq, Int.reduceLT, Int.reduceLE, Int.reduceGE, Int.reduceGT, mk_keep, keepL, List.mem_cons, List.not_mem_nil, Nat.reduceEqDiff, Nat.zero_ne_one, Nat.one_ne_zero, reduceCtorEq, or_false, false_or, or_true, true_or, or_self, eq_self, ↓reduceIte]
              · refine x_op rfl rfl fun K' hk => ?_
                simp only [go_sem, Int.reduceToNat, ↓reduceIte, reduceCtorEq, Nat.reduceEqDiff, Nat.reduceAdd, Nat.reduceMul, Nat.reduceLT, Nat.reduceLeDiff, Nat.reduceBEq, Int.reduceBEq, Int.reduceBNe, String.reduceBEq, Int.reduceEq, Int.reduceLT, Int.reduceLE, Int.reduceGE, Int.reduceGT, hf, ha, hf2, hb2, hs2, w0]
                refine hk _ ?_
                clear hk K'
                refine x_any (r := 5) (rs := []) (by kernel_rfl) ?_
                refine List.forall_mem_cons.2 ⟨?_, fun _ h => by cases h⟩
                · refine x_op rfl rfl fun K' hk => ?_
                  simp only [go_sem, Int.reduceToNat, ↓reduceIte, reduceCtorEq, Nat.reduceEqDiff, Nat.reduceAdd, Nat.reduceMul, Nat.reduceLT, Nat.reduceLeDiff, Nat.reduceBEq, Int.reduceBEq, Int.reduceBNe, String.reduceBEq, Int.reduceEq, Int.reduceLT, Int.reduceLE, Int.reduceGE, Int.reduceGT, hf, ha, hf2, hb2, hs2, w0]
                  refine hk _ ?_
                  clear hk K'
                  refine x_any (r := 6) (rs := []) (by kernel_rfl) ?_
                  refine List.forall_mem_cons.2 ⟨?_, fun _ h => by cases h⟩
                  · refine x_op rfl rfl fun K' hk => ?_
                    simp only [go_sem, Int.reduceToNat, ↓reduceIte, reduceCtorEq, Nat.reduceEqDiff, Nat.reduceAdd, Nat.reduceMul, Nat.reduceLT, Nat.reduceLeDiff, Nat.reduceBEq, Int.reduceBEq, Int.reduceBNe, String.reduceBEq, Int.reduceEq, Int.reduceLT, Int.reduceLE, Int.reduceGE, Int.reduceGT, hf, ha, hf2, hb2, hs2, w0]
                    refine hk _ ?_
                    clear hk K'
                    refine x_any (r := 9) (rs := []) (by kernel_rfl) ?_
                    refine List.forall_mem_cons.2 ⟨?_, fun _ h => by cases h⟩
                    · refine x_op rfl rfl fun K' hk => ?_
                      simp only [go_sem, Int.reduceToNat, ↓reduceIte, reduceCtorEq, Nat.reduceEqDiff, Nat.reduceAdd, Nat.reduceMul, Nat.reduceLT, Nat.reduceLeDiff, Nat.reduceBEq, Int.reduceBEq, Int.reduceBNe, String.reduceBEq, Int.reduceEq, Int.reduceLT, Int.reduceLE, Int.reduceGE, Int.reduceGT, hf, ha, hf2, hb2, hs2, w0]
                      refine hk _ ?_
                      clear hk K'
                      refine x_end (by kernel_rfl) ?_
                      refine n_join [0, 1, 2, 3, 10, 11, 12, 13, 14, 16, 17, 18] [11, 12, 14, 15] ?_; rw [hJ]; simp only [go_sem, Int.reduceToNat, ↓reduceIte, reduceCtorEq, Nat.reduceEqDiff, Nat.reduceAdd, Nat.reduceMul, Nat.reduceLT, Nat.reduceLeDiff, Nat.reduceBEq, Int.reduceBEq, Int.reduceBNe, String.reduceBEq, Int.reduceEq, Int.reduceLT, Int.reduceLE, Int.reduceGE, Int.reduceGT, mk_keep, keepL, List.mem_cons, List.not_mem_nil, Nat.reduceEqDiff, Nat.zero_ne_one, Nat.one_ne_zero, reduceCtorEq, or_false, false_or, or_true, true_or, or_self, eq_self, ↓reduceIte]
            intro st hst
            rw [hJ] at hst
            subst hst
            clear hJ
            repeat' (first
             | with_reducible refine s_draw (id := 8) ?_
             | with_reducible refine s_draw (id := 9) ?_
             | ((with_reducible refine a_seg tOk [11, 12, 14, 15, 61, 62, 68, 69] 10 0 9 (by decide) (by kernel_rfl) (by simp [HeapIn, namers, namerDst, namerOp, namedOp, namedFn, ownLoad, Blk.has, hasRows, hasL, CV.has, hasRows_up, hasM_up, hasRows_append, g4, vrow, hasM_V, f3, q1, q2, q3, q4, r1, r2, r3, r4, r5, r6, hro1, hro2]; (try ((repeat' apply And.intro) <;> intros <;> omega))) fun kr hr => ?_); simp only [List.drop_succ_cons, List.drop_zero, List.take_succ_cons, List.take_zero, List.map_cons, List.map_nil, List.cons_append, List.nil_append, Nat.reduceSub])
             | ((with_reducible refine a_one 10 9 (by decide) (by kernel_rfl) fun kr hr => ?_); simp only [List.drop_succ_cons, List.drop_zero, List.take_succ_cons, List.take_zero, List.map_cons, List.map_nil, List.cons_append, List.nil_append, Nat.reduceSub])
             | with_reducible refine a_end 10 (by decide) ?_
             | ((with_reducible refine a_seg tOk [11, 12, 14, 15, 61, 62, 68, 69] 13 0 10 (by decide) (by kernel_rfl) (by simp [HeapIn, namers, namerDst, namerOp, namedOp, namedFn, ownLoad, Blk.has, hasRows, hasL, CV.has, hasRows_up, hasM_up, hasRows_append, g4, vrow, hasM_V, f3, q1, q2, q3, q4, r1, r2, r3, r4, r5, r6, hro1, hro2]; (try ((repeat' apply And.intro) <;> intros <;> omega))) fun kr hr => ?_); simp only [List.drop_succ_cons, List.drop_zero, List.take_succ_cons, List.take_zero, List.map_cons, List.map_nil, List.cons_append, List.nil_append, Nat.reduceSub])
             | ((with_reducible refine a_seg tOk [11, 12, 14, 15, 61, 62, 68, 69] 13 11 13 (by decide) (by kernel_rfl) (by simp [HeapIn, namers, namerDst, namerOp, namedOp, namedFn, ownLoad, Blk.has, hasRows, hasL, CV.has, hasRows_up, hasM_up, hasRows_append, g4, vrow, hasM_V, f3, q1, q2, q3, q4, r1, r2, r3, r4, r5, r6, hro1, hro2]; (try ((repeat' apply And.intro) <;> intros <;> omega))) fun kr hr => ?_); simp only [List.drop_succ_cons, List.drop_zero, List.take_succ_cons, List.take_zero, List.map_cons, List.map_nil, List.cons_append, List.nil_append, Nat.reduceSub])
             | ((with_reducible refine a_one 13 10 (by decide) (by kernel_rfl) fun kr hr => ?_); simp only [List.drop_succ_cons, List.drop_zero, List.take_succ_cons, List.take_zero, List.map_cons, List.map_nil, List.cons_append, List.nil_append, Nat.reduceSub])
             | with_reducible refine a_end 13 (by decide) ?_
             | (with_reducible refine hr _ ?_; clear hr kr)
             | (with_reducible first | refine s_seq ?_ | refine s_block ?_ | refine s_region fun kr hr => ?_)
             | (with_reducible refine s_text tOk [11, 12, 14, 15, 61, 62, 68, 69] (by kernel_rfl) (by simp [HeapIn, namers, namerDst, namerOp, namedOp, namedFn, ownLoad, Blk.has, hasRows, hasL, CV.has, hasRows_up, hasM_up, hasRows_append, g4, vrow, hasM_V, f3, q1, q2, q3, q4, r1, r2, r3, r4, r5, r6, hro1, hro2]; (try ((repeat' apply And.intro) <;> intros <;> omega))) fun kr hr => ?_)
             | (with_reducible first | refine s_op fun K' hk => ?_ | refine t_op fun K' hk => ?_ | (refine hk _ ?_; clear hk K') | (refine ht _ ?_; clear ht hf KT KF) | (refine hf _ ?_; clear ht hf KT KF) | ((first | refine s_nil ?_ | refine t_nil ?_); refine hr _ ?_; clear hr kr))
             | ((with_reducible refine n_seqK [0, 1, 2, 3, 4, 5, 6, 7, 8, 9, 10, 11, 12, 13, 14, 16, 17, 18, 19, 23, 25, 49, 58, 59] [11, 12, 14, 15, 61, 62, 68, 69] ?_); simp only [mk_keep, keepL, List.mem_cons, List.not_mem_nil, Nat.reduceEqDiff, Nat.zero_ne_one, Nat.one_ne_zero, reduceCtorEq, or_false, false_or, or_true, true_or, or_self, eq_self, ↓reduceIte])
             | (with_reducible first | refine s_cond fun KT KF ht hf => ?_ | refine s_skip ?_)
             | ((with_reducible refine s_long ?_); simp only [List.cons_append, List.nil_append])
             | (with_reducible first | refine s_exit ?_ | refine s_ret ?_ | refine e_seq ?_ | refine r_seq ?_ | refine n_block ?_ | refine e_block ?_ | refine r_block ?_ | refine e_loop ?_ | refine r_loop ?_ | refine e_round ?_ | refine r_round ?_ | refine s_round ?_ | refine f_block ?_ (by decide) | refine r_res ?_ | refine n_res ?_)
             | (simp only [hgb, go_sem, Int.reduceToNat, ↓reduceIte, reduceCtorEq, Nat.reduceEqDiff, Nat.reduceAdd, Nat.reduceMul, Nat.reduceLT, Nat.reduceLeDiff, Nat.reduceBEq, Int.reduceBEq, Int.reduceBNe, String.reduceBEq, Int.reduceEq, Int.reduceLT, Int.reduceLE, Int.reduceGE, Int.reduceGT, g4, vrow, hasM_V, f3, q1, q2, q3, q4, r1, r2, r3, r4, r5, r6, hro1, hro2]; clear hgb)
             | simp only [go_sem, Int.reduceToNat, ↓reduceIte, reduceCtorEq, Nat.reduceEqDiff, Nat.reduceAdd, Nat.reduceMul, Nat.reduceLT, Nat.reduceLeDiff, Nat.reduceBEq, Int.reduceBEq, Int.reduceBNe, String.reduceBEq, Int.reduceEq, Int.reduceLT, Int.reduceLE, Int.reduceGE, Int.reduceGT, g4, vrow, hasM_V, f3, q1, q2, q3, q4, r1, r2, r3, r4, r5, r6, hro1, hro2, hAll]
             | (refine ite_guard (fun hg => ?_) (fun hg => ?_) <;> (try simp only [Bool.not_eq_true, Bool.not_eq_false, Decidable.not_not] at hg) <;> (first | have hgb : (_ : Bool) = _ := hg | have hgb := ff hg | have hgb := tt hg))
             | (refine ⟨fun hc => ht _ ?_, fun hc => hf _ ?_⟩ <;> clear ht hf KT KF)
             | fail)
            refine n_loopG _ (gho_ren (a := 62) (b := 11) (by decide) (by decide)) ?_
            rw [mk_ren]
            refine n_loopG _ (gho_ren (a := 69) (b := 12) (by decide) (by decide)) ?_
            rw [mk_ren]
            refine n_loop (k + 1) [0, 1, 2, 3, 10, 11, 12, 16, 17, 18] [11, 12, 15] ⟨?_, hlt⟩ (by omega)
            simp only [go_sem, Int.reduceToNat, ↓reduceIte, reduceCtorEq, Nat.reduceEqDiff, Nat.reduceAdd, Nat.reduceMul, Nat.reduceLT, Nat.reduceLeDiff, Nat.reduceBEq, Int.reduceBEq, Int.reduceBNe, String.reduceBEq, Int.reduceEq, Int.reduceLT, Int.reduceLE, Int.reduceGE, Int.reduceGT, mk_keep, keepL, List.mem_cons, List.not_mem_nil, Nat.reduceEqDiff, Nat.zero_ne_one, Nat.one_ne_zero, reduceCtorEq, or_false, false_or, or_true, true_or, or_self, eq_self, ↓reduceIte, hst9, renS, Blk.ren, renRows, renL, CV.ren, renRows_up, ren_V, mapV, SV.ren, ins, sw]
          | some iq =>
            obtain ⟨i, q⟩ := iq
            obtain ⟨e, he, he1, he2⟩ := pfind_some hf
            obtain ⟨ek, eq, eb⟩ := e
            simp only at he1 he2
            subst he1 he2
            have hmv : mval 0 m (v1, v2, v3) = eq := by simp [mval, hf]
            by_cases c3 : eq ≥ size
            · have g5 := tt c3
              have hst := out (by unfold GS.step; rw [d1, d2, hmv, if_neg (fun h => by omega)])
              repeat' (first
               | (with_reducible first | refine s_seq ?_ | refine s_block ?_ | refine s_region fun kr hr => ?_)
               | (with_reducible refine s_text tOk [11, 12, 14, 15, 61, 62, 68, 69, 1000, 1001, 1002, 1003] (by kernel_rfl) (by simp [HeapIn, namers, namerDst, namerOp, namedOp, namedFn, ownLoad, Blk.has, hasRows, hasL, CV.has, hasRows_up, hasM_up, hasRows_append, f1, f2, f3, g1, g2, g3, g4, g5, hrow, vrow, hbl1, hvl1, hf]; (try ((repeat' apply And.intro) <;> intros <;> omega))) fun kr hr => ?_)
               | (with_reducible first | refine s_op fun K' hk => ?_ | refine t_op fun K' hk => ?_ | (refine hk _ ?_; clear hk K') | (refine ht _ ?_; clear ht hf KT KF) | (refine hf _ ?_; clear ht hf KT KF) | ((first | refine s_nil ?_ | refine t_nil ?_); refine hr _ ?_; clear hr kr))
               | ((with_reducible refine n_seqK [0, 1, 2, 3, 4, 5, 6, 7, 8, 9, 10, 11, 12, 13, 14, 16, 17, 18, 19, 23, 25, 49, 58, 59] [11, 12, 14, 15, 61, 62, 68, 69] ?_); simp only [mk_keep, keepL, List.mem_cons, List.not_mem_nil, Nat.reduceEqDiff, Nat.zero_ne_one, Nat.one_ne_zero, reduceCtorEq, or_false, false_or, or_true, true_or, or_self, eq_self, ↓reduceIte])
               | (with_reducible first | refine s_cond fun KT KF ht hf => ?_ | refine s_skip ?_)
               | ((with_reducible refine s_long ?_); simp only [List.cons_append, List.nil_append])
               | (with_reducible first | refine s_exit ?_ | refine s_ret ?_ | refine e_seq ?_ | refine r_seq ?_ | refine n_block ?_ | refine e_block ?_ | refine r_block ?_ | refine e_loop ?_ | refine r_loop ?_ | refine e_round ?_ | refine r_round ?_ | refine s_round ?_ | refine f_block ?_ (by decide) | refine r_res ?_ | refine n_res ?_)
               | (simp only [hgb, go_sem, Int.reduceToNat, ↓reduceIte, reduceCtorEq, Nat.reduceEqDiff, Nat.reduceAdd, Nat.reduceMul, Nat.reduceLT, Nat.reduceLeDiff, Nat.reduceBEq, Int.reduceBEq, Int.reduceBNe, String.reduceBEq, Int.reduceEq, Int.reduceLT, Int.reduceLE, Int.reduceGE, Int.reduceGT, f1, f2, f3, g1, g2, g3, g4, g5, hrow, vrow, hbl1, hvl1, hf]; clear hgb)
               | simp only [go_sem, Int.reduceToNat, ↓reduceIte, reduceCtorEq, Nat.reduceEqDiff, Nat.reduceAdd, Nat.reduceMul, Nat.reduceLT, Nat.reduceLeDiff, Nat.reduceBEq, Int.reduceBEq, Int.reduceBNe, String.reduceBEq, Int.reduceEq, Int.reduceLT, Int.reduceLE, Int.reduceGE, Int.reduceGT, f1, f2, f3, g1, g2, g3, g4, g5, hrow, vrow, hbl1, hvl1, hf, hAll]
               | (refine ite_guard (fun hg => ?_) (fun hg => ?_) <;> (try simp only [Bool.not_eq_true, Bool.not_eq_false, Decidable.not_not] at hg) <;> (first | have hgb : (_ : Bool) = _ := hg | have hgb := ff hg | have hgb := tt hg))
               | (refine ⟨fun hc => ht _ ?_, fun hc => hf _ ?_⟩ <;> clear ht hf KT KF)
               | fail)
              refine n_loop (k + 1) [0, 1, 2, 3, 10, 11, 12, 16, 17, 18] [11, 12, 15] ⟨?_, hlt⟩ (by omega)
              simp only [go_sem, Int.reduceToNat, ↓reduceIte, reduceCtorEq, Nat.reduceEqDiff, Nat.reduceAdd, Nat.reduceMul, Nat.reduceLT, Nat.reduceLeDiff, Nat.reduceBEq, Int.reduceBEq, Int.reduceBNe, String.reduceBEq, Int.reduceEq, Int.reduceLT, Int.reduceLE, Int.reduceGE, Int.reduceGT, mk_keep, keepL, List.mem_cons, List.not_mem_nil, Nat.reduceEqDiff, Nat.zero_ne_one, Nat.one_ne_zero, reduceCtorEq, or_false, false_or, or_true, true_or, or_self, eq_self, ↓reduceIte, hst]
            have g5 := ff c3
            have hst9 : GS.go hs vs size l (k + 1) = ⟨c, m.modify i (fun x => ((v1, v2, v3), IntKind.wrap .i64 (eq + 1), x.2.2)), oo ++ [(a, b)], ff1 ++ [(v1, v2, v3)]⟩ := by
              rw [hgo]; unfold GS.step
              rw [d1, d2, hmv, if_pos ⟨rfl, c2, by omega⟩]
              simp [mclk, mset, hf]
            have hb2 := upV_born hwf he
            have hg2 : (upV m)[i]? = some (.agg [.t (.int .i64 v1), .t (.int .i64 v2), .t (.str v3)], .v (.t (.int .i64 eq)), eb) := upV_get he
            have hm2 : (upV m).modify i (fun x => (.agg [.t (.int .i64 v1), .t (.int .i64 v2), .t (.str v3)], x.2.1, x.2.2)) = upV m := upV_same he
            have hs2 := upV_set he (IntKind.wrap .i64 (eq + 1))
            simp only [ieq] at hb2
            simp only at hb2 hs2
            obtain ⟨J8, hJ⟩ : ∃ J : St → Prop, J = fun st => st = mk [(0, V (.sl 2 (hrows l))), (1, V (.sl 3 (vrows vs))), (2, V (.sl 1 (brows hs))), (3, I size), (10, .c (.mm 15)), (11, .c (.mr 11 0 oo.length)), (12, .c (.mr 12 0 ff1.length)), (13, I k), (14, .c (.mp 14 0 0)), (16, V (.sl 2 (hrows l))), (17, I l.length), (18, I k)] [(11, .cells 2 (up (hrows oo))), (12, .cells 3 (up (vrows ff1))), (14, .cells 2 [[.t (.int .i64 a), .t (.int .i64 b)]]), (15, .map c (upV (m.modify i (fun x => ((v1, v2, v3), IntKind.wrap .i64 (eq + 1), x.2.2)))))] := ⟨_, rfl⟩
            repeat' (first
             | with_reducible refine s_draw (id := 8) ?_
             | ((with_reducible refine a_seg2 tOk [11, 12, 14, 15] 10 0 5 (by decide) (by kernel_rfl) (by simp [HeapIn, namers, namerDst, namerOp, namedOp, namedFn, ownLoad, Blk.has, hasRows, hasL, CV.has, hasRows_up, hasM_up, hasRows_append, f1, f2, f3, g1, g2, g3, g4, g5, hrow, vrow, hbl1, hvl1, hf, hasM_V]; (try ((repeat' apply And.intro) <;> intros <;> omega))) fun kr hr => ?_); simp only [List.drop_succ_cons, List.drop_zero, List.take_succ_cons, List.take_zero, List.map_cons, List.map_nil, List.cons_append, List.nil_append, Nat.reduceSub])
             | (with_reducible refine hr _ ?_; clear hr kr)
             | with_reducible refine s_seqJ (x := .region 8 _ _) J8 ?_ ?_
             | (with_reducible first | refine s_seq ?_ | refine s_block ?_ | refine s_region fun kr hr => ?_)
             | (with_reducible refine s_text tOk [11, 12, 14, 15] (by kernel_rfl) (by simp [HeapIn, namers, namerDst, namerOp, namedOp, namedFn, ownLoad, Blk.has, hasRows, hasL, CV.has, hasRows_up, hasM_up, hasRows_append, f1, f2, f3, g1, g2, g3, g4, g5, hrow, vrow, hbl1, hvl1, hf, hasM_V]; (try ((repeat' apply And.intro) <;> intros <;> omega))) fun kr hr => ?_)
             | (with_reducible first | refine s_op fun K' hk => ?_ | refine t_op fun K' hk => ?_ | (refine hk _ ?_; clear hk K') | (refine ht _ ?_; clear ht hf KT KF) | (refine hf _ ?_; clear ht hf KT KF) | ((first | refine s_nil ?_ | refine t_nil ?_); refine hr _ ?_; clear hr kr))
             | ((with_reducible refine n_seqK [0, 1, 2, 3, 4, 5, 6, 7, 8, 9, 10, 11, 12, 13, 14, 16, 17, 18, 19, 23, 25, 49, 58, 59] [11, 12, 14, 15, 61, 62, 68, 69] ?_); simp only [mk_keep, keepL, List.mem_cons, List.not_mem_nil, Nat.reduceEqDiff, Nat.zero_ne_one, Nat.one_ne_zero, reduceCtorEq, or_false, false_or, or_true, true_or, or_self, eq_self, ↓reduceIte])
             | (with_reducible first | refine s_cond fun KT KF ht hf => ?_ | refine s_skip ?_)
             | ((with_reducible refine s_long ?_); simp only [List.cons_append, List.nil_append])
             | (with_reducible first | refine s_exit ?_ | refine s_ret ?_ | refine e_seq ?_ | refine r_seq ?_ | refine n_block ?_ | refine e_block ?_ | refine r_block ?_ | refine e_loop ?_ | refine r_loop ?_ | refine e_round ?_ | refine r_round ?_ | refine s_round ?_ | refine f_block ?_ (by decide) | refine r_res ?_ | refine n_res ?_)
             | (simp only [hgb, go_sem, Int.reduceToNat, ↓reduceIte, reduceCtorEq, Nat.reduceEqDiff, Nat.reduceAdd, Nat.reduceMul, Nat.reduceLT, Nat.reduceLeDiff, Nat.reduceBEq, Int.reduceBEq, Int.reduceBNe, String.reduceBEq, Int.reduceEq, Int.reduceLT, Int.reduceLE, Int.reduceGE, Int.reduceGT, f1, f2, f3, g1, g2, g3, g4, g5, hrow, vrow, hbl1, hvl1, hf, hasM_V]; clear hgb)
             | simp only [go_sem, Int.reduceToNat, ↓reduceIte, reduceCtorEq, Nat.reduceEqDiff, Nat.reduceAdd, Nat.reduceMul, Nat.reduceLT, Nat.reduceLeDiff, Nat.reduceBEq, Int.reduceBEq, Int.reduceBNe, String.reduceBEq, Int.reduceEq, Int.reduceLT, Int.reduceLE, Int.reduceGE, Int.reduceGT, f1, f2, f3, g1, g2, g3, g4, g5, hrow, vrow, hbl1, hvl1, hf, hasM_V, hAll]
             | (refine ite_guard (fun hg => ?_) (fun hg => ?_) <;> (try simp only [Bool.not_eq_true, Bool.not_eq_false, Decidable.not_not] at hg) <;> (first | have hgb : (_ : Bool) = _ := hg | have hgb := ff hg | have hgb := tt hg))
             | (refine ⟨fun hc => ht _ ?_, fun hc => hf _ ?_⟩ <;> clear ht hf KT KF)
             | fail)
            refine a_tree 10 5 5 (by decide) rfl ?_
            refine x_any (r := 5) (rs := [7]) (by kernel_rfl) ?_
            refine List.forall_mem_cons.2 ⟨?_, List.forall_mem_cons.2 ⟨?_, fun _ h => by cases h⟩⟩
            · refine x_op rfl rfl fun K' hk => ?_
              simp only [go_sem, Int.reduceToNat, ↓reduceIte, reduceCtorEq, Nat.reduceEqDiff, Nat.reduceAdd, Nat.reduceMul, Nat.reduceLT, Nat.reduceLeDiff, Nat.reduceBEq, Int.reduceBEq, Int.reduceBNe, String.reduceBEq, Int.reduceEq, Int.reduceLT, Int.reduceLE, Int.reduceGE, Int.reduceGT, hf, hg2, hm2, hb2, hs2]
              refine hk _ ?_
              clear hk K'
              refine x_any (r := 6) (rs := [7]) (by kernel_rfl) ?_
              refine List.forall_mem_cons.2 ⟨?_, List.forall_mem_cons.2 ⟨?_, fun _ h => by cases h⟩⟩
              · refine x_op rfl rfl fun K' hk => ?_
                simp only [go_sem, Int.reduceToNat, ↓reduceIte, reduceCtorEq, Nat.reduceEqDiff, Nat.reduceAdd, Nat.reduceMul, Nat.reduceLT, Nat.reduceLeDiff, Nat.reduceBEq, Int.reduceBEq, Int.reduceBNe, String.reduceBEq, Int.reduceEq, Int.reduceLT, Int.reduceLE, Int.reduceGE, Int.reduceGT, hf, hg2, hm2, hb2, hs2]
                refine hk _ ?_
                clear hk K'
                refine x_any (r := 7) (rs := []) (by kernel_rfl) ?_
                refine List.forall_mem_cons.2 ⟨?_, fun _ h => by cases h⟩
                · refine x_op rfl rfl fun K' hk => ?_
                  simp only [go_sem, Int.reduceToNat, ↓reduceIte, reduceCtorEq, Nat.reduceEqDiff, Nat.reduceAdd, Nat.reduceMul, Nat.reduceLT, Nat.reduceLeDiff, Nat.reduceBEq, Int.reduceBEq, Int.reduceBNe, String.reduceBEq, Int.reduceEq, Int.reduceLT, Int.reduceLE, Int.reduceGE, Int.reduceGT, hf, hg2, hm2, hb2, hs2]
                  refine hk _ ?_
                  clear hk K'
                  refine x_any (r := 8) (rs := []) (by kernel_rfl) ?_
                  refine List.forall_mem_cons.2 ⟨?_, fun _ h => by cases h⟩
                  · refine x_op rfl rfl fun K' hk => ?_
                    simp only [go_sem, Int.reduceToNat, ↓reduceIte, reduceCtorEq, Nat.reduceEqDiff, Nat.reduceAdd, Nat.reduceMul, Nat.reduceLT, Nat.reduceLeDiff, Nat.reduceBEq, Int.reduceBEq, Int.reduceBNe, String.reduceBEq, Int.reduceEq, Int.reduceLT, Int.reduceLE, Int.reduceGE, Int.reduceGT, hf, hg2, hm2, hb2, hs2]
                    refine hk _ ?_
                    clear hk K'
                    refine x_any (r := 9) (rs := []) (by kernel_rfl) ?_
                    refine List.forall_mem_cons.2 ⟨?_, fun _ h => by cases h⟩
                    · refine x_op rfl rfl fun K' hk => ?_
                      simp only [go_sem, Int.reduceToNat, ↓reduceIte, reduceCtorEq, Nat.reduceEqDiff, Nat.reduceAdd, Nat.reduceMul, Nat.reduceLT, Nat.reduceLeDiff, Nat.reduceBEq, Int.reduceBEq, Int.reduceBNe, String.reduceBEq, Int.reduceEq, Int.reduceLT, Int.reduceLE, Int.reduceGE, Int.reduceGT, hf, hg2, hm2, hb2, hs2]
                      refine hk _ ?_
                      clear hk K'
                      refine x_end (by kernel_rfl) ?_
                      refine n_join [0, 1, 2, 3, 10, 11, 12, 13, 14, 16, 17, 18] [11, 12, 14, 15] ?_; rw [hJ]; simp only [go_sem, Int.reduceToNat, ↓reduceIte, reduceCtorEq, Nat.reduceEqDiff, Nat.reduceAdd, Nat.reduceMul, Nat.reduceLT, Nat.reduceLeDiff, Nat.reduceBEq, Int.reduceBEq, Int.reduceBNe, String.reduceBEq, Int.reduceEq, Int.reduceLT, Int.reduceLE, Int.reduceGE, Int.reduceGT, mk_keep, keepL, List.mem_cons, List.not_mem_nil, Nat.reduceEqDiff, Nat.zero_ne_one, Nat.one_ne_zero, reduceCtorEq, or_false, false_or, or_true, true_or, or_self, eq_self, ↓reduceIte]
              · refine x_op rfl rfl fun K' hk => ?_
                simp only [go_sem, Int.reduceToNat, ↓reduceIte, reduceCtorEq, Nat.reduceEqDiff, Nat.reduceAdd, Nat.reduceMul, Nat.reduceLT, Nat.reduceLeDiff, Nat.reduceBEq, Int.reduceBEq, Int.reduceBNe, String.reduceBEq, Int.reduceEq, Int.reduceLT, Int.reduceLE, Int.reduceGE, Int.reduceGT, hf, hg2, hm2, hb2, hs2]
                refine hk _ ?_
                clear hk K'
                refine x_any (r := 6) (rs := [8]) (by kernel_rfl) ?_
                refine List.forall_mem_cons.2 ⟨?_, List.forall_mem_cons.2 ⟨?_, fun _ h => by cases h⟩⟩
                · refine x_op rfl rfl fun K' hk => ?_
                  simp only [go_sem, Int.reduceToNat, ↓reduceIte, reduceCtorEq, Nat.reduceEqDiff, Nat.reduceAdd, Nat.reduceMul, Nat.reduceLT, Nat.reduceLeDiff, Nat.reduceBEq, Int.reduceBEq, Int.reduceBNe, String.reduceBEq, Int.reduceEq, Int.reduceLT, Int.reduceLE, Int.reduceGE, Int.reduceGT, hf, hg2, hm2, hb2, hs2]
                  refine hk _ ?_
                  clear hk K'
                  refine x_any (r := 8) (rs := []) (by kernel_rfl) ?_
                  refine List.forall_mem_cons.2 ⟨?_, fun _ h => by cases h⟩
                  · refine x_op rfl rfl fun K' hk => ?_
                    simp only [go_sem, Int.reduceToNat, ↓reduceIte, reduceCtorEq, Nat.reduceEqDiff, Nat.reduceAdd, Nat.reduceMul, Nat.reduceLT, Nat.reduceLeDiff, Nat.reduceBEq, Int.reduceBEq, Int.reduceBNe, String.reduceBEq, Int.reduceEq, Int.reduceLT, Int.reduceLE, Int.reduceGE, Int.reduceGT, hf, hg2, hm2, hb2, hs2]
                    refine hk _ ?_
                    clear hk K'
                    refine x_any (r := 9) (rs := []) (by kernel_rfl) ?_
                    refine List.forall_mem_cons.2 ⟨?_, fun _ h => by cases h⟩
                    · refine x_op rfl rfl fun K' hk => ?_
                      simp only [go_sem, Int.reduceToNat, ↓reduceIte, reduceCtorEq, Nat.reduceEqDiff, Nat.reduceAdd, Nat.reduceMul, Nat.reduceLT, Nat.reduceLeDiff, Nat.reduceBEq, Int.reduceBEq, Int.reduceBNe, String.reduceBEq, Int.reduceEq, Int.reduceLT, Int.reduceLE, Int.reduceGE, Int.reduceGT, hf, hg2, hm2, hb2, hs2]
                      refine hk _ ?_
                      clear hk K'
                      refine x_end (by kernel_rfl) ?_
                      refine n_join [0, 1, 2, 3, 10, 11, 12, 13, 14, 16, 17, 18] [11, 12, 14, 15] ?_; rw [hJ]; simp only [go_sem, Int.reduceToNat, ↓reduceIte, reduceCtorEq, Nat.reduceEqDiff, Nat.reduceAdd, Nat.reduceMul, Nat.reduceLT, Nat.reduceLeDiff, Nat.reduceBEq, Int.reduceBEq, Int.reduceBNe, String.reduceBEq, Int.reduceEq, Int.reduceLT, Int.reduceLE, Int.reduceGE, Int.reduceGT, mk_keep, keepL, List.mem_cons, List.not_mem_nil, Nat.reduceEqDiff, Nat.zero_ne_one, Nat.one_ne_zero, reduceCtorEq, or_false, false_or, or_true, true_or, or_self, eq_self, ↓reduceIte]
                · refine x_op rfl rfl fun K' hk => ?_
                  simp only [go_sem, Int.reduceToNat, ↓reduceIte, reduceCtorEq, Nat.reduceEqDiff, Nat.reduceAdd, Nat.reduceMul, Nat.reduceLT, Nat.reduceLeDiff, Nat.reduceBEq, Int.reduceBEq, Int.reduceBNe, String.reduceBEq, Int.reduceEq, Int.reduceLT, Int.reduceLE, Int.reduceGE, Int.reduceGT, hf, hg2, hm2, hb2, hs2]
                  refine hk _ ?_
                  clear hk K'
                  refine x_any (r := 6) (rs := []) (by kernel_rfl) ?_
                  refine List.forall_mem_cons.2 ⟨?_, fun _ h => by cases h⟩
                  · refine x_op rfl rfl fun K' hk => ?_
                    simp only [go_sem, Int.reduceToNat, ↓reduceIte, reduceCtorEq, Nat.reduceEqDiff, Nat.reduceAdd, Nat.reduceMul, Nat.reduceLT, Nat.reduceLeDiff, Nat.reduceBEq, Int.reduceBEq, Int.reduceBNe, String.reduceBEq, Int.reduceEq, Int.reduceLT, Int.reduceLE, Int.reduceGE, Int.reduceGT, hf, hg2, hm2, hb2, hs2]
                    refine hk _ ?_
                    clear hk K'
                    refine x_any (r := 9) (rs := []) (by kernel_rfl) ?_
                    refine List.forall_mem_cons.2 ⟨?_, fun _ h => by cases h⟩
                    · refine x_op rfl rfl fun K' hk => ?_
                      simp only [go_sem, Int.reduceToNat, ↓reduceIte, reduceCtorEq, Nat.reduceEqDiff, Nat.reduceAdd, Nat.reduceMul, Nat.reduceLT, Nat.reduceLeDiff, Nat.reduceBEq, Int.reduceBEq, Int.reduceBNe, String.reduceBEq, Int.reduceEq, Int.reduceLT, Int.reduceLE, Int.reduceGE, Int.reduceGT, hf, hg2, hm2, hb2, hs2]
                      refine hk _ ?_
                      clear hk K'
                      refine x_end (by kernel_rfl) ?_
                      refine n_join [0, 1, 2, 3, 10, 11, 12, 13, 14, 16, 17, 18] [11, 12, 14, 15] ?_; rw [hJ]; simp only [go_sem, Int.reduceToNat, ↓reduceIte, reduceCtorEq, Nat.reduceEqDiff, Nat.reduceAdd, Nat.reduceMul, Nat.reduceLT, Nat.reduceLeDiff, Nat.reduceBEq, Int.reduceBEq, Int.reduceBNe, String.reduceBEq, Int.reduceEq, Int.reduceLT, Int.reduceLE, Int.reduceGE, Int.reduceGT, mk_keep, keepL, List.mem_cons, List.not_mem_nil, Nat.reduceEqDiff, Nat.zero_ne_one, Nat.one_ne_zero, reduceCtorEq, or_false, false_or, or_true, true_or, or_self, eq_self, ↓reduceIte]
            · refine x_op rfl rfl fun K' hk => ?_
              simp only [go_sem, Int.reduceToNat, ↓reduceIte, reduceCtorEq, Nat.reduceEqDiff, Nat.reduceAdd, Nat.reduceMul, Nat.reduceLT, Nat.reduceLeDiff, Nat.reduceBEq, Int.reduceBEq, Int.reduceBNe, String.reduceBEq, Int.reduceEq, Int.reduceLT, Int.reduceLE, Int.reduceGE, Int.reduceGT, hf, hg2, hm2, hb2, hs2]
              refine hk _ ?_
              clear hk K'
              refine x_any (r := 5) (rs := [8]) (by kernel_rfl) ?_
              refine List.forall_mem_cons.2 ⟨?_, List.forall_mem_cons.2 ⟨?_, fun _ h => by cases h⟩⟩
              · refine x_op rfl rfl fun K' hk => ?_
                simp only [go_sem, Int.reduceToNat, ↓reduceIte, reduceCtorEq, Nat.reduceEqDiff, Nat.reduceAdd, Nat.reduceMul, Nat.reduceLT, Nat.reduceLeDiff, Nat.reduceBEq, Int.reduceBEq, Int.reduceBNe, String.reduceBEq, Int.reduceEq, Int.reduceLT, Int.reduceLE, Int.reduceGE, Int.reduceGT, hf, hg2, hm2, hb2, hs2]
                refine hk _ ?_
                clear hk K'
                refine x_any (r := 6) (rs := [8]) (by kernel_rfl) ?_
                refine List.forall_mem_cons.2 ⟨?_, List.forall_mem_cons.2 ⟨?_, fun _ h => by cases h⟩⟩
                · refine x_op rfl rfl fun K' hk => ?_
                  simp only [go_sem, Int.reduceToNat, ↓reduceIte, reduceCtorEq, Nat.reduceEqDiff, Nat.reduceAdd, Nat.reduceMul, Nat.reduceLT, Nat.reduceLeDiff, Nat.reduceBEq, Int.reduceBEq, Int.reduceBNe, String.reduceBEq, Int.reduceEq, Int.reduceLT, Int.reduceLE, Int.reduceGE, Int.reduceGT, hf, hg2, hm2, hb2, hs2]
                  refine hk _ ?_
                  clear hk K'
                  refine x_any (r := 8) (rs := []) (by kernel_rfl) ?_
                  refine List.forall_mem_cons.2 ⟨?_, fun _ h => by cases h⟩
                  · refine x_op rfl rfl fun K' hk => ?_
                    simp only [go_sem, Int.reduceToNat, ↓reduceIte, reduceCtorEq, Nat.reduceEqDiff, Nat.reduceAdd, Nat.reduceMul, Nat.reduceLT, Nat.reduceLeDiff, Nat.reduceBEq, Int.reduceBEq, Int.reduceBNe, String.reduceBEq, Int.reduceEq, Int.reduceLT, Int.reduceLE, Int.reduceGE, Int.reduceGT, hf, hg2, hm2, hb2, hs2]
                    refine hk _ ?_
                    clear hk K'
                    refine x_any (r := 9) (rs := []) (by kernel_rfl) ?_
                    refine List.forall_mem_cons.2 ⟨?_, fun _ h => by cases h⟩
                    · refine x_op rfl rfl fun K' hk => ?_
                      simp only [go_sem, Int.reduceToNat, ↓reduceIte, reduceCtorEq, Nat.reduceEqDiff, Nat.reduceAdd, Nat.reduceMul, Nat.reduceLT, Nat.reduceLeDiff, Nat.reduceBEq, Int.reduceBEq, Int.reduceBNe, String.reduceBEq, Int.reduceEq, Int.reduceLT, Int.reduceLE, Int.reduceGE, Int.reduceGT, hf, hg2, hm2, hb2, hs2]
                      refine hk _ ?_
                      clear hk K'
                      refine x_end (by kernel_rfl) ?_
                      refine n_join [0, 1, 2, 3, 10, 11, 12, 13, 14, 16, 17, 18] [11, 12, 14, 15] ?_; rw [hJ]; simp only [go_sem, Int.reduceToNat, ↓reduceIte, reduceCtorEq, Nat.reduceEqDiff, Nat.reduceAdd, Nat.reduceMul, Nat.reduceLT, Nat.reduceLeDiff, Nat.reduceBEq, Int.reduceBEq, Int.reduceBNe, String.reduceBEq, Int.reduceEq, Int.reduceLT, Int.reduceLE, Int.reduceGE, Int.reduceGT, mk_keep, keepL, List.mem_cons, List.not_mem_nil, Nat.reduceEqDiff, Nat.zero_ne_one, Nat.one_ne_zero, reduceCtorEq, or_false, false_or, or_true, true_or, or_self, eq_self, ↓reduceIte]
                · refine x_op rfl rfl fun K' hk => ?_
                  simp only [go_sem, Int.reduceToNat, ↓reduceIte, reduceCtorEq, Nat.reduceEqDiff, Nat.reduceAdd, Nat.reduceMul, Nat.reduceLT, Nat.reduceLeDiff, Nat.reduceBEq, Int.reduceBEq, Int.reduceBNe, String.reduceBEq, Int.reduceEq, Int.reduceLT, Int.reduceLE, Int.reduceGE, Int.reduceGT, hf, hg2, hm2, hb2, hs2]
                  refine hk _ ?_
                  clear hk K'
                  refine x_any (r := 6) (rs := []) (by kernel_rfl) ?_
                  refine List.forall_mem_cons.2 ⟨?_, fun _ h => by cases h⟩
                  · refine x_op rfl rfl fun K' hk => ?_
                    simp only [go_sem, Int.reduceToNat, ↓reduceIte, reduceCtorEq, Nat.reduceEqDiff, Nat.reduceAdd, Nat.reduceMul, Nat.reduceLT, Nat.reduceLeDiff, Nat.reduceBEq, Int.reduceBEq, Int.reduceBNe, String.reduceBEq, Int.reduceEq, Int.reduceLT, Int.reduceLE, Int.reduceGE, Int.reduceGT, hf, hg2, hm2, hb2, hs2]
                    refine hk _ ?_
                    clear hk K'
                    refine x_any (r := 9) (rs := []) (by kernel_rfl) ?_
                    refine List.forall_mem_cons.2 ⟨?_, fun _ h => by cases h⟩
                    · refine x_op rfl rfl fun K' hk => ?_
                      simp only [go_sem, Int.reduceToNat, ↓reduceIte, reduceCtorEq, Nat.reduceEqDiff, Nat.reduceAdd, Nat.reduceMul, Nat.reduceLT, Nat.reduceLeDiff, Nat.reduceBEq, Int.reduceBEq, Int.reduceBNe, String.reduceBEq, Int.reduceEq, Int.reduceLT, Int.reduceLE, Int.reduceGE, Int.reduceGT, hf, hg2, hm2, hb2, hs2]
                      refine hk _ ?_
                      clear hk K'
                      refine x_end (by kernel_rfl) ?_
                      refine n_join [0, 1, 2, 3, 10, 11, 12, 13, 14, 16, 17, 18] [11, 12, 14, 15] ?_; rw [hJ]; simp only [go_sem, Int.reduceToNat, ↓reduceIte, reduceCtorEq, Nat.reduceEqDiff, Nat.reduceAdd, Nat.reduceMul, Nat.reduceLT, Nat.reduceLeDiff, Nat.reduceBEq, Int.reduceBEq, Int.reduceBNe, String.reduceBEq, Int.reduceEq, Int.reduceLT, Int.reduceLE, Int.reduceGE, Int.reduceGT, mk_keep, keepL, List.mem_cons, List.not_mem_nil, Nat.reduceEqDiff, Nat.zero_ne_one, Nat.one_ne_zero, reduceCtorEq, or_false, false_or, or_true, true_or, or_self, eq_self, ↓reduceIte]
              · refine x_op rfl rfl fun K' hk => ?_
                simp only [go_sem, Int.reduceToNat, ↓reduceIte, reduceCtorEq, Nat.reduceEqDiff, Nat.reduceAdd, Nat.reduceMul, Nat.reduceLT, Nat.reduceLeDiff, Nat.reduceBEq, Int.reduceBEq, Int.reduceBNe, String.reduceBEq, Int.reduceEq, Int.reduceLT, Int.reduceLE, Int.reduceGE, Int.reduceGT, hf, hg2, hm2, hb2, hs2]
                refine hk _ ?_
                clear hk K'
                refine x_any (r := 5) (rs := []) (by kernel_rfl) ?_
                refine List.forall_mem_cons.2 ⟨?_, fun _ h => by cases h⟩
                · refine x_op rfl rfl fun K' hk => ?_
                  simp only [go_sem, Int.reduceToNat, ↓reduceIte, reduceCtorEq, Nat.reduceEqDiff, Nat.reduceAdd, Nat.reduceMul, Nat.reduceLT, Nat.reduceLeDiff, Nat.reduceBEq, Int.reduceBEq, Int.reduceBNe, String.reduceBEq, Int.reduceEq, Int.reduceLT, Int.reduceLE, Int.reduceGE, Int.reduceGT, hf, hg2, hm2, hb2, hs2]
                  refine hk _ ?_
                  clear hk K'
                  refine x_any (r := 6) (rs := []) (by kernel_rfl) ?_
                  refine List.forall_mem_cons.2 ⟨?_, fun _ h => by cases h⟩
                  · refine x_op rfl rfl fun K' hk => ?_
                    simp only [go_sem, Int.reduceToNat, ↓reduceIte, reduceCtorEq, Nat.reduceEqDiff, Nat.reduceAdd, Nat.reduceMul, Nat.reduceLT, Nat.reduceLeDiff, Nat.reduceBEq, Int.reduceBEq, Int.reduceBNe, String.reduceBEq, Int.reduceEq, Int.reduceLT, Int.reduceLE, Int.reduceGE, Int.reduceGT, hf, hg2, hm2, hb2, hs2]
                    refine hk _ ?_
                    clear hk K'
                    refine x_any (r := 9) (rs := []) (by kernel_rfl) ?_
                    refine List.forall_mem_cons.2 ⟨?_, fun _ h => by cases h⟩
                    · refine x_op rfl rfl fun K' hk => ?_
                      simp only [go_sem, Int.reduceToNat, ↓reduceIte, reduceCtorEq, Nat.reduceEqDiff, Nat.reduceAdd, Nat.reduceMul, Nat.reduceLT, Nat.reduceLeDiff, Nat.reduceBEq, Int.reduceBEq, Int.reduceBNe, String.reduceBEq, Int.reduceEq, Int.reduceLT, Int.reduceLE, Int.reduceGE, Int.reduceGT, hf, hg2, hm2, hb2, hs2]
                      refine hk _ ?_
                      clear hk K'
                      refine x_end (by kernel_rfl) ?_
                      refine n_join [0, 1, 2, 3, 10, 11, 12, 13, 14, 16, 17, 18] [11, 12, 14, 15] ?_; rw [hJ]; simp only [go_sem, Int.reduceToNat, ↓reduceIte, reduceCtorEq, Nat.reduceEqDiff, Nat.reduceAdd, Nat.reduceMul, Nat.reduceLT, Nat.reduceLeDiff, Nat.reduceBEq, Int.reduceBEq, Int.reduceBNe, String.reduceBEq, Int.reduceEq, Int.reduceLT, Int.reduceLE, Int.reduceGE, Int.reduceGT, mk_keep, keepL, List.mem_cons, List.not_mem_nil, Nat.reduceEqDiff, Nat.zero_ne_one, Nat.one_ne_zero, reduceCtorEq, or_false, false_or, or_true, true_or, or_self, eq_self, ↓reduceIte]
            intro st hst
            rw [hJ] at hst
            subst hst
            clear hJ
            repeat' (first
             | with_reducible refine s_draw (id := 8) ?_
             | with_reducible refine s_draw (id := 9) ?_
             | ((with_reducible refine a_seg tOk [11, 12, 14, 15, 61, 62, 68, 69] 10 0 9 (by decide) (by kernel_rfl) (by simp [HeapIn, namers, namerDst, namerOp, namedOp, namedFn, ownLoad, Blk.has, hasRows, hasL, CV.has, hasRows_up, hasM_up, hasRows_append, g4, vrow, hasM_V, f3, q1, q2, q3, q4, r1, r2, r3, r4, r5, r6, hro1, hro2]; (try ((repeat' apply And.intro) <;> intros <;> omega))) fun kr hr => ?_); simp only [List.drop_succ_cons, List.drop_zero, List.take_succ_cons, List.take_zero, List.map_cons, List.map_nil, List.cons_append, List.nil_append, Nat.reduceSub])
             | ((with_reducible refine a_one 10 9 (by decide) (by kernel_rfl) fun kr hr => ?_); simp only [List.drop_succ_cons, List.drop_zero, List.take_succ_cons, List.take_zero, List.map_cons, List.map_nil, List.cons_append, List.nil_append, Nat.reduceSub])
             | with_reducible refine a_end 10 (by decide) ?_
             | ((with_reducible refine a_seg tOk [11, 12, 14, 15, 61, 62, 68, 69] 13 0 10 (by decide) (by kernel_rfl) (by simp [HeapIn, namers, namerDst, namerOp, namedOp, namedFn, ownLoad, Blk.has, hasRows, hasL, CV.has, hasRows_up, hasM_up, hasRows_append, g4, vrow, hasM_V, f3, q1, q2, q3, q4, r1, r2, r3, r4, r5, r6, hro1, hro2]; (try ((repeat' apply And.intro) <;> intros <;> omega))) fun kr hr => ?_); simp only [List.drop_succ_cons, List.drop_zero, List.take_succ_cons, List.take_zero, List.map_cons, List.map_nil, List.cons_append, List.nil_append, Nat.reduceSub])
             | ((with_reducible refine a_seg tOk [11, 12, 14, 15, 61, 62, 68, 69] 13 11 13 (by decide) (by kernel_rfl) (by simp [HeapIn, namers, namerDst, namerOp, namedOp, namedFn, ownLoad, Blk.has, hasRows, hasL, CV.has, hasRows_up, hasM_up, hasRows_append, g4, vrow, hasM_V, f3, q1, q2, q3, q4, r1, r2, r3, r4, r5, r6, hro1, hro2]; (try ((repeat' apply And.intro) <;> intros <;> omega))) fun kr hr => ?_); simp only [List.drop_succ_cons, List.drop_zero, List.take_succ_cons, List.take_zero, List.map_cons, List.map_nil, List.cons_append, List.nil_append, Nat.reduceSub])
             | ((with_reducible refine a_one 13 10 (by decide) (by kernel_rfl) fun kr hr => ?_); simp only [List.drop_succ_cons, List.drop_zero, List.take_succ_cons, List.take_zero, List.map_cons, List.map_nil, List.cons_append, List.nil_append, Nat.reduceSub])
             | with_reducible refine a_end 13 (by decide) ?_
             | (with_reducible refine hr _ ?_; clear hr kr)
             | (with_reducible first | refine s_seq ?_ | refine s_block ?_ | refine s_region fun kr hr => ?_)
             | (with_reducible refine s_text tOk [11, 12, 14, 15, 61, 62, 68, 69] (by kernel_rfl) (by simp [HeapIn, namers, namerDst, namerOp, namedOp, namedFn, ownLoad, Blk.has, hasRows, hasL, CV.has, hasRows_up, hasM_up, hasRows_append, g4, vrow, hasM_V, f3, q1, q2, q3, q4, r1, r2, r3, r4, r5, r6, hro1, hro2]; (try ((repeat' apply And.intro) <;> intros <;> omega))) fun kr hr => ?_)
             | (with_reducible first | refine s_op fun K' hk => ?_ | refine t_op fun K' hk => ?_ | (refine hk _ ?_; clear hk K') | (refine ht _ ?_; clear ht hf KT KF) | (refine hf _ ?_; clear ht hf KT KF) | ((first | refine s_nil ?_ | refine t_nil ?_); refine hr _ ?_; clear hr kr))
             | ((with_reducible refine n_seqK [0, 1, 2, 3, 4, 5, 6, 7, 8, 9, 10, 11, 12, 13, 14, 16, 17, 18, 19, 23, 25, 49, 58, 59] [11, 12, 14, 15, 61, 62, 68, 69] ?_); simp only [mk_keep, keepL, List.mem_cons, List.not_mem_nil, Nat.reduceEqDiff, Nat.zero_ne_one, Nat.one_ne_zero, reduceCtorEq, or_false, false_or, or_true, true_or, or_self, eq_self, ↓reduceIte])
             | (with_reducible first | refine s_cond fun KT KF ht hf => ?_ | refine s_skip ?_)
             | ((with_reducible refine s_long ?_); simp only [List.cons_append, List.nil_append])
             | (with_reducible first | refine s_exit ?_ | refine s_ret ?_ | refine e_seq ?_ | refine r_seq ?_ | refine n_block ?_ | refine e_block ?_ | refine r_block ?_ | refine e_loop ?_ | refine r_loop ?_ | refine e_round ?_ | refine r_round ?_ | refine s_round ?_ | refine f_block ?_ (by decide) | refine r_res ?_ | refine n_res ?_)
             | (simp only [hgb, go_sem, Int.reduceToNat, ↓reduceIte, reduceCtorEq, Nat.reduceEqDiff, Nat.reduceAdd, Nat.reduceMul, Nat.reduceLT, Nat.reduceLeDiff, Nat.reduceBEq, Int.reduceBEq, Int.reduceBNe, String.reduceBEq, Int.reduceEq, Int.reduceLT, Int.reduceLE, Int.reduceGE, Int.reduceGT, g4, vrow, hasM_V, f3, q1, q2, q3, q4, r1, r2, r3, r4, r5, r6, hro1, hro2]; clear hgb)
             | simp only [go_sem, Int.reduceToNat, ↓reduceIte, reduceCtorEq, Nat.reduceEqDiff, Nat.reduceAdd, Nat.reduceMul, Nat.reduceLT, Nat.reduceLeDiff, Nat.reduceBEq, Int.reduceBEq, Int.reduceBNe, String.reduceBEq, Int.reduceEq, Int.reduceLT, Int.reduceLE, Int.reduceGE, Int.reduceGT, g4, vrow, hasM_V, f3, q1, q2, q3, q4, r1, r2, r3, r4, r5, r6, hro1, hro2, hAll]
             | (refine ite_guard (fun hg => ?_) (fun hg => ?_) <;> (try simp only [Bool.not_eq_true, Bool.not_eq_false, Decidable.not_not] at hg) <;> (first | have hgb : (_ : Bool) = _ := hg | have hgb := ff hg | have hgb := tt hg))
             | (refine ⟨fun hc => ht _ ?_, fun hc => hf _ ?_⟩ <;> clear ht hf KT KF)
             | fail)
            refine n_loopG _ (gho_ren (a := 62) (b := 11) (by decide) (by decide)) ?_
            rw [mk_ren]
            refine n_loopG _ (gho_ren (a := 69) (b := 12) (by decide) (by decide)) ?_
            rw [mk_ren]
            refine n_loop (k + 1) [0, 1, 2, 3, 10, 11, 12, 16, 17, 18] [11, 12, 15] ⟨?_, hlt⟩ (by omega)
            simp only [go_sem, Int.reduceToNat, ↓reduceIte, reduceCtorEq, Nat.reduceEqDiff, Nat.reduceAdd, Nat.reduceMul, Nat.reduceLT, Nat.reduceLeDiff, Nat.reduceBEq, Int.reduceBEq, Int.reduceBNe, String.reduceBEq, Int.reduceEq, Int.reduceLT, Int.reduceLE, Int.reduceGE, Int.reduceGT, mk_keep, keepL, List.mem_cons, List.not_mem_nil, Nat.reduceEqDiff, Nat.zero_ne_one, Nat.one_ne_zero, reduceCtorEq, or_false, false_or, or_true, true_or, or_self, eq_self, ↓reduceIte, hst9, renS, Blk.ren, renRows, renL, CV.ren, renRows_up, ren_V, mapV, SV.ren, ins, sw]
        · have g3 := tt (show (k : Int) ≥ vs.length by omega)
          have hst := out (by unfold GS.step; rw [if_neg (fun h => c2 h.2.1)])
          repeat' (first
           | (with_reducible first | refine s_seq ?_ | refine s_block ?_ | refine s_region fun kr hr => ?_)
           | (with_reducible refine s_text tOk [11, 12, 14, 15, 61, 62, 68, 69, 1000, 1001, 1002, 1003] (by kernel_rfl) (by simp [HeapIn, namers, namerDst, namerOp, namedOp, namedFn, ownLoad, Blk.has, hasRows, hasL, CV.has, hasRows_up, hasM_up, hasRows_append, f1, f2, f3, g1, g2, g3, hrow, hbl1, hvl1]; (try ((repeat' apply And.intro) <;> intros <;> omega))) fun kr hr => ?_)
           | (with_reducible first | refine s_op fun K' hk => ?_ | refine t_op fun K' hk => ?_ | (refine hk _ ?_; clear hk K') | (refine ht _ ?_; clear ht hf KT KF) | (refine hf _ ?_; clear ht hf KT KF) | ((first | refine s_nil ?_ | refine t_nil ?_); refine hr _ ?_; clear hr kr))
           | ((with_reducible refine n_seqK [0, 1, 2, 3, 4, 5, 6, 7, 8, 9, 10, 11, 12, 13, 14, 16, 17, 18, 19, 23, 25, 49, 58, 59] [11, 12, 14, 15, 61, 62, 68, 69] ?_); simp only [mk_keep, keepL, List.mem_cons, List.not_mem_nil, Nat.reduceEqDiff, Nat.zero_ne_one, Nat.one_ne_zero, reduceCtorEq, or_false, false_or, or_true, true_or, or_self, eq_self, ↓reduceIte])
           | (with_reducible first | refine s_cond fun KT KF ht hf => ?_ | refine s_skip ?_)
           | ((with_reducible refine s_long ?_); simp only [List.cons_append, List.nil_append])
           | (with_reducible first | refine s_exit ?_ | refine s_ret ?_ | refine e_seq ?_ | refine r_seq ?_ | refine n_block ?_ | refine e_block ?_ | refine r_block ?_ | refine e_loop ?_ | refine r_loop ?_ | refine e_round ?_ | refine r_round ?_ | refine s_round ?_ | refine f_block ?_ (by decide) | refine r_res ?_ | refine n_res ?_)
           | (simp only [hgb, go_sem, Int.reduceToNat, ↓reduceIte, reduceCtorEq, Nat.reduceEqDiff, Nat.reduceAdd, Nat.reduceMul, Nat.reduceLT, Nat.reduceLeDiff, Nat.reduceBEq, Int.reduceBEq, Int.reduceBNe, String.reduceBEq, Int.reduceEq, Int.reduceLT, Int.reduceLE, Int.reduceGE, Int.reduceGT, f1, f2, f3, g1, g2, g3, hrow, hbl1, hvl1]; clear hgb)
           | simp only [go_sem, Int.reduceToNat, ↓reduceIte, reduceCtorEq, Nat.reduceEqDiff, Nat.reduceAdd, Nat.reduceMul, Nat.reduceLT, Nat.reduceLeDiff, Nat.reduceBEq, Int.reduceBEq, Int.reduceBNe, String.reduceBEq, Int.reduceEq, Int.reduceLT, Int.reduceLE, Int.reduceGE, Int.reduceGT, f1, f2, f3, g1, g2, g3, hrow, hbl1, hvl1, hAll]
           | (refine ite_guard (fun hg => ?_) (fun hg => ?_) <;> (try simp only [Bool.not_eq_true, Bool.not_eq_false, Decidable.not_not] at hg) <;> (first | have hgb : (_ : Bool) = _ := hg | have hgb := ff hg | have hgb := tt hg))
           | (refine ⟨fun hc => ht _ ?_, fun hc => hf _ ?_⟩ <;> clear ht hf KT KF)
           | fail)
          refine n_loop (k + 1) [0, 1, 2, 3, 10, 11, 12, 16, 17, 18] [11, 12, 15] ⟨?_, hlt⟩ (by omega)
          simp only [go_sem, Int.reduceToNat, ↓reduceIte, reduceCtorEq, Nat.reduceEqDiff, Nat.reduceAdd, Nat.reduceMul, Nat.reduceLT, Nat.reduceLeDiff, Nat.reduceBEq, Int.reduceBEq, Int.reduceBNe, String.reduceBEq, Int.reduceEq, Int.reduceLT, Int.reduceLE, Int.reduceGE, Int.reduceGT, mk_keep, keepL, List.mem_cons, List.not_mem_nil, Nat.reduceEqDiff, Nat.zero_ne_one, Nat.one_ne_zero, reduceCtorEq, or_false, false_or, or_true, true_or, or_self, eq_self, ↓reduceIte, hst]
    · have g1 := tt (show (k : Int) ≥ hs.length by omega)
      have d1 : hs.getD k false = false := by rw [List.getD_eq_getElem?_getD, List.getElem?_eq_none (by omega)]; rfl
      have hst := out (by unfold GS.step; rw [if_neg (by rw [d1]; simp)])
      repeat' (first
       | (with_reducible first | refine s_seq ?_ | refine s_block ?_ | refine s_region fun kr hr => ?_)
       | (with_reducible refine s_text tOk [11, 12, 14, 15, 61, 62, 68, 69, 1000, 1001, 1002, 1003] (by kernel_rfl) (by simp [HeapIn, namers, namerDst, namerOp, namedOp, namedFn, ownLoad, Blk.has, hasRows, hasL, CV.has, hasRows_up, hasM_up, hasRows_append, f1, f2, f3, g1, hrow, hbl1]; (try ((repeat' apply And.intro) <;> intros <;> omega))) fun kr hr => ?_)
       | (with_reducible first | refine s_op fun K' hk => ?_ | refine t_op fun K' hk => ?_ | (refine hk _ ?_; clear hk K') | (refine ht _ ?_; clear ht hf KT KF) | (refine hf _ ?_; clear ht hf KT KF) | ((first | refine s_nil ?_ | refine t_nil ?_); refine hr _ ?_; clear hr kr))
       | ((with_reducible refine n_seqK [0, 1, 2, 3, 4, 5, 6, 7, 8, 9, 10, 11, 12, 13, 14, 16, 17, 18, 19, 23, 25, 49, 58, 59] [11, 12, 14, 15, 61, 62, 68, 69] ?_); simp only [mk_keep, keepL, List.mem_cons, List.not_mem_nil, Nat.reduceEqDiff, Nat.zero_ne_one, Nat.one_ne_zero, reduceCtorEq, or_false, false_or, or_true, true_or, or_self, eq_self, ↓reduceIte])
       | (with_reducible first | refine s_cond fun KT KF ht hf => ?_ | refine s_skip ?_)
       | ((with_reducible refine s_long ?_); simp only [List.cons_append, List.nil_append])
       | (with_reducible first | refine s_exit ?_ | refine s_ret ?_ | refine e_seq ?_ | refine r_seq ?_ | refine n_block ?_ | refine e_block ?_ | refine r_block ?_ | refine e_loop ?_ | refine r_loop ?_ | refine e_round ?_ | refine r_round ?_ | refine s_round ?_ | refine f_block ?_ (by decide) | refine r_res ?_ | refine n_res ?_)
       | (simp only [hgb, go_sem, Int.reduceToNat, ↓reduceIte, reduceCtorEq, Nat.reduceEqDiff, Nat.reduceAdd, Nat.reduceMul, Nat.reduceLT, Nat.reduceLeDiff, Nat.reduceBEq, Int.reduceBEq, Int.reduceBNe, String.reduceBEq, Int.reduceEq, Int.reduceLT, Int.reduceLE, Int.reduceGE, Int.reduceGT, f1, f2, f3, g1, hrow, hbl1]; clear hgb)
       | simp only [go_sem, Int.reduceToNat, ↓reduceIte, reduceCtorEq, Nat.reduceEqDiff, Nat.reduceAdd, Nat.reduceMul, Nat.reduceLT, Nat.reduceLeDiff, Nat.reduceBEq, Int.reduceBEq, Int.reduceBNe, String.reduceBEq, Int.reduceEq, Int.reduceLT, Int.reduceLE, Int.reduceGE, Int.reduceGT, f1, f2, f3, g1, hrow, hbl1, hAll]
       | (refine ite_guard (fun hg => ?_) (fun hg => ?_) <;> (try simp only [Bool.not_eq_true, Bool.not_eq_false, Decidable.not_not] at hg) <;> (first | have hgb : (_ : Bool) = _ := hg | have hgb := ff hg | have hgb := tt hg))
       | (refine ⟨fun hc => ht _ ?_, fun hc => hf _ ?_⟩ <;> clear ht hf KT KF)
       | fail)
      refine n_loop (k + 1) [0, 1, 2, 3, 10, 11, 12, 16, 17, 18] [11, 12, 15] ⟨?_, hlt⟩ (by omega)
      simp only [go_sem, Int.reduceToNat, ↓reduceIte, reduceCtorEq, Nat.reduceEqDiff, Nat.reduceAdd, Nat.reduceMul, Nat.reduceLT, Nat.reduceLeDiff, Nat.reduceBEq, Int.reduceBEq, Int.reduceBNe, String.reduceBEq, Int.reduceEq, Int.reduceLT, Int.reduceLE, Int.reduceGE, Int.reduceGT, mk_keep, keepL, List.mem_cons, List.not_mem_nil, Nat.reduceEqDiff, Nat.zero_ne_one, Nat.one_ne_zero, reduceCtorEq, or_false, false_or, or_true, true_or, or_self, eq_self, ↓reduceIte, hst]
  · obtain rfl : k = l.length := by omega
    have f1 := nltI hlt
    generalize GS.go hs vs size l l.length = E
    have e1 : (hrows E.o).take E.o.length = hrows E.o := List.take_of_length_le (by rw [hrows_len]; omega)
    have e2 : (vrows E.f).take E.f.length = vrows E.f := List.take_of_length_le (by rw [vrows_len]; omega)
    have e3 : (hrows E.o).length = E.o.length := hrows_len _
    have e4 : (vrows E.f).length = E.f.length := vrows_len _
    repeat' (first
     | (with_reducible first | refine s_seq ?_ | refine s_block ?_ | refine s_region fun kr hr => ?_)
     | (with_reducible refine s_text tOk [11, 12, 14, 15, 61, 62, 68, 69, 1000, 1001, 1002, 1003] (by kernel_rfl) (by simp [HeapIn, namers, namerDst, namerOp, namedOp, namedFn, ownLoad, Blk.has, hasRows, hasL, CV.has, hasRows_up, hasM_up, hasRows_append, f1, e1, e2, e3, e4]; (try ((repeat' apply And.intro) <;> intros <;> omega))) fun kr hr => ?_)
     | (with_reducible first | refine s_op fun K' hk => ?_ | refine t_op fun K' hk => ?_ | (refine hk _ ?_; clear hk K') | (refine ht _ ?_; clear ht hf KT KF) | (refine hf _ ?_; clear ht hf KT KF) | ((first | refine s_nil ?_ | refine t_nil ?_); refine hr _ ?_; clear hr kr))
     | ((with_reducible refine n_seqK [0, 1, 2, 3, 4, 5, 6, 7, 8, 9, 10, 11, 12, 13, 14, 16, 17, 18, 19, 23, 25, 49, 58, 59] [11, 12, 14, 15, 61, 62, 68, 69] ?_); simp only [mk_keep, keepL, List.mem_cons, List.not_mem_nil, Nat.reduceEqDiff, Nat.zero_ne_one, Nat.one_ne_zero, reduceCtorEq, or_false, false_or, or_true, true_or, or_self, eq_self, ↓reduceIte])
     | (with_reducible first | refine s_cond fun KT KF ht hf => ?_ | refine s_skip ?_)
     | ((with_reducible refine s_long ?_); simp only [List.cons_append, List.nil_append])
     | (with_reducible first | refine s_exit ?_ | refine s_ret ?_ | refine e_seq ?_ | refine r_seq ?_ | refine n_block ?_ | refine e_block ?_ | refine r_block ?_ | refine e_loop ?_ | refine r_loop ?_ | refine e_round ?_ | refine r_round ?_ | refine s_round ?_ | refine f_block ?_ (by decide) | refine r_res ?_ | refine n_res ?_)
     | (simp only [hgb, go_sem, Int.reduceToNat, ↓reduceIte, reduceCtorEq, Nat.reduceEqDiff, Nat.reduceAdd, Nat.reduceMul, Nat.reduceLT, Nat.reduceLeDiff, Nat.reduceBEq, Int.reduceBEq, Int.reduceBNe, String.reduceBEq, Int.reduceEq, Int.reduceLT, Int.reduceLE, Int.reduceGE, Int.reduceGT, f1, e1, e2, e3, e4]; clear hgb)
     | simp only [go_sem, Int.reduceToNat, ↓reduceIte, reduceCtorEq, Nat.reduceEqDiff, Nat.reduceAdd, Nat.reduceMul, Nat.reduceLT, Nat.reduceLeDiff, Nat.reduceBEq, Int.reduceBEq, Int.reduceBNe, String.reduceBEq, Int.reduceEq, Int.reduceLT, Int.reduceLE, Int.reduceGE, Int.reduceGT, f1, e1, e2, e3, e4, hAll]
     | (refine ite_guard (fun hg => ?_) (fun hg => ?_) <;> (try simp only [Bool.not_eq_true, Bool.not_eq_false, Decidable.not_not] at hg) <;> (first | have hgb : (_ : Bool) = _ := hg | have hgb := ff hg | have hgb := tt hg))
     | (refine ⟨fun hc => ht _ ?_, fun hc => hf _ ?_⟩ <;> clear ht hf KT KF)
     | fail)
end Go.Proofs.Ytgmjgognpabmdaa.Fx
