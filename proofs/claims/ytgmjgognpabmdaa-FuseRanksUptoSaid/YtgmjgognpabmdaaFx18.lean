/- The evaluator's second make: a drawn region told part by part, a call with names standing alone between two parts. -/
import Derived.Test.YtgmjgognpabmdaaFx17
namespace Go.Proofs.Ytgmjgognpabmdaa.Fx
open Go Go.RowKit
set_option linter.unusedSimpArgs false
set_option linter.unusedVariables false
section
variable {P : Program} {E : Env} {T : TypeId → Option TI} {n : Nat} {K : St → Prop} {s s' s1 s2 : St} {all : Array Oper}
/-- What an operation waits for, and what these wait for. -/
def direct (o : Oper) : List Nat := o.after.toList.filterMap fun e => if Region.binds .any e then some e.on else none
def clos (all : Array Oper) : Nat → List Nat → List Nat
  | 0, S => S
  | k + 1, S => if S.contains k then clos all k ((match all[k]? with | some m => direct m | none => []) ++ S) else clos all k S
def waitsC (all : Array Oper) (i : Nat) (o : Oper) (j : Nat) : Bool := (clos all i (direct o)).contains j
/-- What is listed is listed with all that it waits for. -/
def Down (all : Array Oper) (listed : Array Bool) : Prop := ∀ m o, all[m]? = some o → listed.getD m false = true → ∀ e ∈ o.after, Region.binds .any e = true → listed.getD e.on false = true
theorem direct_mem {o : Oper} {j : Nat} : j ∈ direct o ↔ ∃ e ∈ o.after, Region.binds .any e = true ∧ e.on = j := by
  unfold direct
  rw [List.mem_filterMap]
  constructor
  · rintro ⟨e, he, h⟩
    split at h
    · rename_i hb; exact ⟨e, by simpa using he, hb, by simpa using h⟩
    · cases h
  · rintro ⟨e, he, hb, rfl⟩
    exact ⟨e, by simpa using he, by rw [if_pos hb]⟩
theorem clos_listed {listed : Array Bool} (hd : Down all listed) : ∀ (k : Nat) (S : List Nat), (∀ j ∈ S, listed.getD j false = true) → ∀ j ∈ clos all k S, listed.getD j false = true
  | 0, S, h, j, hj => h j hj
  | k + 1, S, h, j, hj => by
    simp only [clos] at hj
    split at hj
    · rename_i hk
      refine clos_listed hd k _ (fun i hi => ?_) j hj
      rcases List.mem_append.1 hi with hi | hi
      · split at hi
        · rename_i m hm
          obtain ⟨e, he, hb, rfl⟩ := direct_mem.1 hi
          exact hd k m hm (h k (List.contains_iff_mem.1 hk)) e he hb
        · cases hi
      · exact h i hi
    · exact clos_listed hd k S h j hj
theorem waits_listed {listed : Array Bool} (hd : Down all listed) {i j : Nat} {o : Oper} (hr : ∀ e ∈ o.after, Region.binds .any e = true → listed.getD e.on false = true) (hw : waitsC all i o j = true) : listed.getD j false = true := by
  unfold waitsC at hw
  refine clos_listed hd i _ (fun k hk => ?_) j (List.contains_iff_mem.1 hw)
  obtain ⟨e, he, hb, rfl⟩ := direct_mem.1 hk
  exact hr e he hb

/-- The operations from m up to m2 may change places as far as they do not wait for each other; those behind wait for all of them. -/
def segOk (all : Array Oper) (na : Nat → List Nat) (A : List Nat) (m m2 : Nat) : Bool :=
  decide (m ≤ m2) && decide (m2 ≤ all.size) &&
  ((List.range (m2 - m)).all fun i0 => match all[m + i0]? with
    | none => true
    | some o => (o.after.all fun e => !Region.binds .any e || decide (e.on < m + i0)) && (match o.dst with
        | none => true
        | some d => (!carries o || (tmpsOf o).all fun u => (na u).all fun nm => (na d).contains nm) && (!loads o || (tmpsOf o).all fun u => (na u).isEmpty || A.all fun nm => (na d).contains nm) && (!namerOp o || ((na d).contains d && A.contains d))) &&
      (let S := clos all (m + i0) (direct o)
       (List.range i0).all fun j0 => match all[m + j0]? with
        | none => true
        | some p => (S.contains (m + j0) || pairB all na p o) && (!namerOp o || o.dst != p.dst) && (!namerOp p || o.dst != p.dst))) &&
  (match all[m2]? with
    | none => true
    | some b => (let S := clos all m2 (direct b); (List.range (m2 - m)).all fun j0 => S.contains (m + j0)) &&
      (List.range (all.size - (m2 + 1))).all fun k0 => match all[m2 + 1 + k0]? with
        | none => true
        | some o => waitsC all (m2 + 1 + k0) o m2)
/-- An operation that stands alone: it waits for nothing to come, and all behind wait for it. -/
def oneOk (all : Array Oper) (m : Nat) : Bool :=
  (match all[m]? with | none => false | some o => o.after.all fun e => !Region.binds .any e || decide (e.on < m)) &&
  (List.range (all.size - (m + 1))).all fun k0 => match all[m + 1 + k0]? with
    | none => true
    | some o => waitsC all (m + 1 + k0) o m

structure SegOk (all : Array Oper) (na : Nat → List Nat) (A : List Nat) (m m2 : Nat) : Prop where
  le : m ≤ m2
  sz : m2 ≤ all.size
  carry : ∀ (i : Nat) (o : Oper), m ≤ i → i < m2 → all[i]? = some o → ∀ d, o.dst = some d → carries o = true → ∀ u ∈ tmpsOf o, ∀ nm ∈ na u, nm ∈ na d
  load : ∀ (i : Nat) (o : Oper), m ≤ i → i < m2 → all[i]? = some o → ∀ d, o.dst = some d → loads o = true → ∀ u ∈ tmpsOf o, na u ≠ [] → ∀ nm ∈ A, nm ∈ na d
  name : ∀ (i : Nat) (o : Oper), m ≤ i → i < m2 → all[i]? = some o → ∀ d, o.dst = some d → namerOp o = true → d ∈ na d ∧ d ∈ A
  back : ∀ (i : Nat) (o : Oper), m ≤ i → i < m2 → all[i]? = some o → ∀ e ∈ o.after, Region.binds .any e = true → e.on < i
  pair : ∀ (i j : Nat) (o p : Oper), m ≤ j → j < i → i < m2 → all[i]? = some o → all[j]? = some p → waitsC all i o j = true ∨ Pair all na p o
  ne : ∀ (i j : Nat) (o p : Oper), m ≤ i → i < m2 → m ≤ j → j < m2 → j ≠ i → all[i]? = some o → all[j]? = some p → namerOp o = true → o.dst ≠ p.dst
  tail : ∀ (k : Nat) (o : Oper), m2 ≤ k → all[k]? = some o → ∀ listed, Down all listed → (∀ e ∈ o.after, Region.binds .any e = true → listed.getD e.on false = true) → ∀ j, m ≤ j → j < m2 → listed.getD j false = true

theorem seg_of {na : Nat → List Nat} {A : List Nat} {m m2 : Nat} (hb : segOk all na A m m2 = true) : SegOk all na A m m2 := by
  unfold segOk at hb
  simp only [Bool.and_eq_true, decide_eq_true_eq, List.all_eq_true, List.mem_range] at hb
  obtain ⟨⟨⟨hle, hsz⟩, hb⟩, htl⟩ := hb
  have key : ∀ i o, m ≤ i → i < m2 → all[i]? = some o → (∀ e ∈ o.after, Region.binds .any e = true → e.on < i) ∧ (∀ d, o.dst = some d → (carries o = true → ∀ u ∈ tmpsOf o, ∀ nm ∈ na u, nm ∈ na d) ∧ (loads o = true → ∀ u ∈ tmpsOf o, na u ≠ [] → ∀ nm ∈ A, nm ∈ na d) ∧ (namerOp o = true → d ∈ na d ∧ d ∈ A)) ∧
      ∀ j p, m ≤ j → j < i → all[j]? = some p → (waitsC all i o j || pairB all na p o) = true ∧ (namerOp o = true → o.dst ≠ p.dst) ∧ (namerOp p = true → o.dst ≠ p.dst) := by
    intro i o h1 h2 ho
    have := hb (i - m) (by omega)
    rw [show m + (i - m) = i by omega, ho] at this
    simp only [Bool.and_eq_true, List.all_eq_true, List.mem_range] at this
    obtain ⟨⟨h3, h0⟩, h4⟩ := this
    refine ⟨fun e he hbi => ?_, fun d hd => ?_, fun j p hmj hj hp => ?_⟩
    · have := (Array.all_eq_true'.1 h3) e he
      rw [hbi] at this
      simpa using this
    · rw [hd] at h0
      simp only [Bool.and_eq_true] at h0
      obtain ⟨⟨h3, h4⟩, h5⟩ := h0
      refine ⟨fun hca u hu nm hnm => ?_, fun hlo u hu hne nm hnm => ?_, fun hn => ?_⟩
      · rw [hca] at h3
        simp only [Bool.not_true, Bool.false_or, List.all_eq_true] at h3
        exact List.contains_iff_mem.1 (h3 u hu nm hnm)
      · rw [hlo] at h4
        simp only [Bool.not_true, Bool.false_or, List.all_eq_true, Bool.or_eq_true] at h4
        rcases h4 u hu with h6 | h6
        · exact absurd (List.isEmpty_iff.1 h6) hne
        · exact List.contains_iff_mem.1 (h6 nm hnm)
      · rw [hn] at h5
        simp only [Bool.not_true, Bool.false_or, Bool.and_eq_true] at h5
        exact ⟨List.contains_iff_mem.1 h5.1, List.contains_iff_mem.1 h5.2⟩
    · have := h4 (j - m) (by omega)
      rw [show m + (j - m) = j by omega, hp] at this
      simp only [Bool.and_eq_true] at this
      obtain ⟨⟨h3, h4⟩, h5⟩ := this
      refine ⟨h3, fun hn => ?_, fun hn => ?_⟩
      · rw [hn] at h4; simpa using h4
      · rw [hn] at h5; simpa using h5
  refine ⟨hle, hsz, fun i o a b ho d hd => ((key i o a b ho).2.1 d hd).1, fun i o a b ho d hd => ((key i o a b ho).2.1 d hd).2.1, fun i o a b ho d hd => ((key i o a b ho).2.1 d hd).2.2, fun i o a b ho => (key i o a b ho).1, fun i j o p a hj b ho hp => ?_, fun i j o p a b c d hne ho hp hn => ?_, fun k o hk ho listed hd hr j hmj hj => ?_⟩
  · have := ((key i o (by omega) b ho).2.2 j p a hj hp).1
    simp only [Bool.or_eq_true] at this
    rcases this with h1 | h1
    · exact .inl h1
    · exact .inr (pair_of h1)
  · rcases Nat.lt_or_ge j i with h1 | h1
    · exact ((key i o a b ho).2.2 j p c h1 hp).2.1 hn
    · exact fun e => ((key j p c d hp).2.2 i o a (by omega) ho).2.2 hn e.symm
  · have hks : k < all.size := (Array.getElem?_eq_some_iff.1 ho).1
    have hm2 : all[m2]? = some all[m2] := Array.getElem?_eq_getElem (by omega)
    rw [hm2] at htl
    simp only [Bool.and_eq_true, List.all_eq_true, List.mem_range] at htl
    obtain ⟨h1, h2⟩ := htl
    have hwj : waitsC all m2 all[m2] j = true := by
      have := h1 (j - m) (by omega)
      rw [show m + (j - m) = j by omega] at this
      exact this
    by_cases e : k = m2
    · subst e
      rw [hm2] at ho
      obtain rfl := Option.some.inj ho
      exact waits_listed hd hr hwj
    · have := h2 (k - (m2 + 1)) (by omega)
      rw [show m2 + 1 + (k - (m2 + 1)) = k by omega, ho] at this
      have hl2 := waits_listed hd hr this
      exact waits_listed hd (fun e he hbi => hd m2 _ hm2 hl2 e he hbi) hwj
theorem inv_stepS (hT : TOk P T) {na : Nat → List Nat} {A : List Nat} {m m2 : Nat} (hc : SegOk all na A m m2) {i : Nat} {o : Oper} (ho : all[i]? = some o) {l : List Nat} (hir : m ≤ i ∧ i < m2) (hlr : ∀ k ∈ l, m ≤ k ∧ k < m2) (hi : i ∉ l) (hv : Inv all (i :: l) s) (hv2 : Inv2 na A s) {e : Ef} (h1 : gE E T all o (· = e) s) (h2 : runE n o.dst (· = s1) s e) : Inv all l s1 ∧ Inv2 na A s1 := by
  have sh := gshape hT h1
  obtain ⟨_, rfl⟩ := (runE_set sh (fun d hd hn => hv i (by simp) o ho hn d hd)).1 h2
  refine ⟨fun k hk o' ho' hn d hd hl => ?_, ⟨fun t nm hr => ?_, fun nm hl => ?_⟩⟩
  · have hne : k ≠ i := fun e => hi (by rw [← e]; exact hk)
    rcases leads_set sh hl with h | ⟨_, h⟩
    · exact hv k (by simp [hk]) o' ho' hn d hd h
    · exact hc.ne k i o' o (hlr k hk).1 (hlr k hk).2 hir.1 hir.2 (Ne.symm hne) ho' ho hn (by rw [hd, h])
  · simp only [setS] at hr
    cases hsup : e.sup o.dst with
    | none => rw [hsup] at hr; exact hv2.slot t nm hr
    | some p =>
      rw [hsup] at hr
      simp only at hr
      split at hr
      · rename_i ht
        have hd := sup_of hsup
        rw [ht]
        cases e with
        | put sv =>
          rw [hd] at hsup
          simp only [Ef.sup, Option.map_some, Option.some.injEq] at hsup
          rw [← hsup] at hr
          rcases sh.val sv rfl nm hr with ⟨q1, u, q2, q3⟩ | ⟨q1, ⟨u, q2, k, q3⟩, q4⟩
          · exact hc.carry i o hir.1 hir.2 ho p.1 hd q1 u q2 nm (hv2.slot u nm q3)
          · exact hc.load i o hir.1 hir.2 ho p.1 hd q1 u q2 (fun e => by have := hv2.slot u k q3; rw [e] at this; cases this) nm (hv2.all nm (.inr q4))
        | name blk sv =>
          rw [hd] at hsup
          simp only [Ef.sup, Option.map_some, Option.some.injEq] at hsup
          rw [← hsup] at hr
          obtain ⟨q1, q2, _⟩ := sh.name blk sv rfl
          rw [q2 p.1 nm hr]
          exact (hc.name i o hir.1 hir.2 ho p.1 hd q1).1
        | give k blk sv =>
          rw [hd] at hsup
          simp only [Ef.sup, Option.map_some, Option.some.injEq] at hsup
          rw [← hsup] at hr
          obtain ⟨q1, q2, _⟩ := sh.give k blk sv rfl
          rw [q2 p.1 nm hr]
          exact (hc.name i o hir.1 hir.2 ho p.1 hd q1).1
        | upd k blk => cases hsup
      · exact hv2.slot t nm hr
  · rcases leads_set sh hl with h | ⟨h, h'⟩
    · exact hv2.all nm h
    · exact (hc.name i o hir.1 hir.2 ho nm h' h).2

theorem bubbleS (hT : TOk P T) {na : Nat → List Nat} {A : List Nat} {m m2 : Nat} (hc : SegOk all na A m m2) {i : Nat} {o : Oper} (ho : all[i]? = some o) (hir : m ≤ i ∧ i < m2) {l2 : List Nat} : ∀ (l1 : List Nat) (s : St), (∀ k ∈ l1 ++ i :: l2, m ≤ k ∧ k < m2) → (l1 ++ i :: l2).Nodup → (∀ j ∈ l1, j < i ∧ waitsC all i o j = false ∧ j < all.size) → Inv all (l1 ++ i :: l2) s → Inv2 na A s →
    wpLT E T n all (l1 ++ i :: l2) K s → wpLT E T n all (i :: (l1 ++ l2)) K s
  | [], s, _, _, _, _, _, hk => hk
  | j :: l1, s, hlr, hnd, hl, hv, hv2, hk => by
    obtain ⟨hji, hjw, hjs⟩ := hl j (by simp)
    have hp : all[j]? = some all[j] := Array.getElem?_eq_getElem hjs
    simp only [List.cons_append, wpLT, hp] at hk
    obtain ⟨e1, s1, h1, r1, hk1⟩ := stepO_ex hk
    have hnd' := List.nodup_cons.1 (show (j :: (l1 ++ i :: l2)).Nodup from hnd)
    obtain ⟨hv1, hv21⟩ := inv_stepS hT hc hp (hlr j (by simp)) (fun k hk => hlr k (List.mem_cons_of_mem _ hk)) hnd'.1 hv hv2 h1 r1
    have h3 := bubbleS hT hc ho hir l1 s1 (fun k hk => hlr k (List.mem_cons_of_mem _ hk)) hnd'.2 (fun k hk9 => hl k (List.mem_cons_of_mem _ hk9)) hv1 hv21 hk1
    simp only [wpLT, ho] at h3
    obtain ⟨e2, s2, h2, r2, hk2⟩ := stepO_ex h3
    rcases hc.pair i j o _ (hlr j (by simp)).1 hji hir.2 ho hp with h6 | h6
    · rw [hjw] at h6; cases h6
    · obtain ⟨s1', q1, q2, q3, q4⟩ := swap hT h6 hv2 (fun d hd hn => hv j (by simp) _ hp hn d hd) (fun d hd hn => hv i (by simp) o ho hn d hd) h1 r1 h2 r2
      simp only [List.cons_append, wpLT, ho, hp]
      exact stepO_in q1 q2 (stepO_in q3 q4 hk2)

/-- The first m are listed. -/
def firstA (sz m : Nat) : Array Bool := Array.ofFn fun i : Fin sz => decide (i.val < m)
theorem firstA_size (sz m : Nat) : (firstA sz m).size = sz := by simp [firstA]
theorem firstA_get {sz m i : Nat} (b : Bool) (h : i < sz) : (firstA sz m).getD i b = decide (i < m) := by
  rw [Array.getD_eq_getD_getElem?, Array.getElem?_eq_getElem (by rw [firstA_size]; exact h)]
  simp [firstA]
theorem firstA_zero (sz : Nat) : Array.replicate sz false = firstA sz 0 := by
  apply Array.ext
  · simp [firstA]
  · intro i h1 h2; simp [firstA]
theorem firstA_set {sz m : Nat} : (firstA sz m).setIfInBounds m true = firstA sz (m + 1) := by
  apply Array.ext
  · simp [firstA]
  · intro i h1 h2
    simp only [firstA_size] at h2
    rw [Array.getElem_setIfInBounds (by rw [firstA_size]; exact h2)]
    split
    · rename_i e; subst e; simp [firstA]
    · rename_i e; simp only [firstA, Array.getElem_ofFn, decide_eq_decide]; omega
theorem ready_iff {listed : Array Bool} (i : Nat) : i ∈ Region.ready .any all listed ↔ i < all.size ∧ listed.getD i true = false ∧ ∀ o, all[i]? = some o → ∀ e ∈ o.after, Region.binds .any e = true → listed.getD e.on false = true := by
  unfold Region.ready
  rw [List.mem_filter, List.mem_range]
  constructor
  · rintro ⟨h1, h2⟩
    simp only [Bool.and_eq_true, Bool.not_eq_true'] at h2
    refine ⟨h1, h2.1, fun o ho e he hbi => ?_⟩
    have h3 := h2.2
    rw [ho] at h3
    simp only [Option.map_some, Option.getD_some] at h3
    have := (Array.all_eq_true'.1 h3) e he
    rw [hbi] at this
    simpa using this
  · rintro ⟨h1, h2, h3⟩
    refine ⟨h1, ?_⟩
    simp only [Bool.and_eq_true, Bool.not_eq_true']
    refine ⟨h2, ?_⟩
    rw [Array.getElem?_eq_getElem h1]
    simp only [Option.map_some, Option.getD_some]
    show (all[i].after.all (fun e => !Region.binds .any e || listed.getD e.on false)) = true
    rw [Array.all_eq_true']
    intro e he
    cases hbi : Region.binds .any e with
    | false => rfl
    | true => simpa using h3 _ (Array.getElem?_eq_getElem h1) e he hbi
theorem down_set {listed : Array Bool} (hd : Down all listed) {i : Nat} (hi : i < listed.size) (hr : ∀ o, all[i]? = some o → ∀ e ∈ o.after, Region.binds .any e = true → listed.getD e.on false = true) : Down all (listed.setIfInBounds i true) := by
  have hset : ∀ k, (listed.setIfInBounds i true).getD k false = true ↔ k = i ∨ listed.getD k false = true := by
    intro k
    by_cases hki : k = i
    · subst hki
      rw [Array.getD_eq_getD_getElem?, Array.getElem?_setIfInBounds_self_of_lt hi]
      simp
    · rw [Array.getD_eq_getD_getElem?, Array.getElem?_setIfInBounds_ne (Ne.symm hki), ← Array.getD_eq_getD_getElem?]
      simp [hki]
  intro m o' ho' hlm e he hbi
  rw [hset]
  rcases (hset m).1 hlm with h9 | h9
  · subst h9; exact .inr (hr o' ho' e he hbi)
  · exact .inr (hd m o' ho' h9 e he hbi)
theorem down_first (m : Nat) (hm : m ≤ all.size) (hb : ∀ i o, i < m → all[i]? = some o → ∀ e ∈ o.after, Region.binds .any e = true → e.on < m) : Down all (firstA all.size m) := by
  intro i o ho hl e he hbi
  have hi : i < all.size := (Array.getElem?_eq_some_iff.1 ho).1
  rw [firstA_get _ hi] at hl
  have := hb i o (of_decide_eq_true hl) ho e he hbi
  rw [firstA_get _ (by omega)]
  exact decide_eq_true this
/-- What is still asked where the first m are done. -/
def AnyAt (E : Env) (T : TypeId → Option TI) (n : Nat) (all : Array Oper) (m : Nat) (K : St → Prop) (s : St) : Prop := (∀ i o, i < m → all[i]? = some o → ∀ e ∈ o.after, Region.binds .any e = true → e.on < m) → wpAnyL E T n all (all.size - m) (firstA all.size m) K s
theorem any_seg (hT : TOk P T) {na : Nat → List Nat} {A : List Nat} {m m2 : Nat} (hc : SegOk all na A m m2) {K : St → Prop} : ∀ (r : List Nat) (listed : Array Bool) (s : St), listed.size = all.size → r.Pairwise (· < ·) → (∀ i ∈ r, m ≤ i ∧ i < m2) → (∀ i, i < all.size → (listed.getD i true = false ↔ i ∈ r ∨ m2 ≤ i)) → Down all listed →
    Inv all r s → Inv2 na A s → wpLT E T n all r (fun s => wpAnyL E T n all (all.size - m2) (firstA all.size m2) K s) s → wpAnyL E T n all (r.length + (all.size - m2)) listed K s := by
  intro r
  induction hlen : r.length generalizing r with
  | zero =>
    intro listed s hsz hs hr hm hd hv hv2 hk
    obtain rfl := List.length_eq_zero_iff.1 hlen
    have : listed = firstA all.size m2 := by
      apply Array.ext
      · rw [hsz, firstA_size]
      · intro i h1 h2
        have h3 := hm i (by omega)
        rw [Array.getD_eq_getD_getElem?, Array.getElem?_eq_getElem h1] at h3
        simp only [Option.getD_some, List.not_mem_nil, false_or] at h3
        simp only [firstA, Array.getElem_ofFn]
        cases hl : listed[i] with
        | true => rw [hl] at h3; symm; rw [decide_eq_true_eq]; simp at h3; omega
        | false => rw [hl] at h3; symm; rw [decide_eq_false_iff_not]; simp at h3; omega
    rw [this, Nat.zero_add]
    exact hk
  | succ f ih =>
    intro listed s hsz hs hr hm hd hv hv2 hk
    have hls : ∀ i, i < all.size → listed.getD i true = false → listed.getD i false = true → False := by
      intro i hi h1 h2
      rw [Array.getD_eq_getD_getElem?, Array.getElem?_eq_getElem (by omega)] at h1 h2
      simp only [Option.getD_some] at h1 h2
      rw [h1] at h2; cases h2
    rw [Nat.add_right_comm]
    refine ⟨fun hnil => ?_, fun i hi => ?_⟩
    · exfalso
      cases r with
      | nil => cases hlen
      | cons i0 rest =>
        have hi0 := hr i0 (by simp)
        have hz := hc.sz
        have : i0 ∈ Region.ready .any all listed := by
          rw [ready_iff]
          refine ⟨by omega, (hm i0 (by omega)).2 (.inl (by simp)), fun o ho e he hbi => ?_⟩
          have hlt := hc.back i0 o hi0.1 hi0.2 ho e he hbi
          have hnot : ¬ (e.on ∈ i0 :: rest ∨ m2 ≤ e.on) := by
            rintro (hin | hge)
            · rcases List.mem_cons.1 hin with h1 | h1
              · omega
              · have := (List.pairwise_cons.1 hs).1 _ h1; omega
            · omega
          have hgt : listed.getD e.on true = true := by
            cases h9 : listed.getD e.on true with
            | true => rfl
            | false => exact absurd ((hm _ (by omega)).1 h9) hnot
          rw [Array.getD_eq_getD_getElem?, Array.getElem?_eq_getElem (by omega)] at hgt ⊢
          exact hgt
        rw [hnil] at this; cases this
    · obtain ⟨hi1, hi2, hi3⟩ := (ready_iff i).1 hi
      have ho : all[i]? = some all[i] := Array.getElem?_eq_getElem hi1
      have hz := hc.sz
      rcases (hm i hi1).1 hi2 with hi4 | hi4
      case inr =>
        exfalso
        cases r with
        | nil => cases hlen
        | cons i0 rest =>
          have hi0 := hr i0 (by simp)
          have h1 := hc.tail i all[i] hi4 ho listed hd (hi3 _ ho) i0 hi0.1 hi0.2
          exact hls i0 (by omega) ((hm i0 (by omega)).2 (.inl (by simp))) h1
      obtain ⟨l1, l2, rfl⟩ := List.append_of_mem hi4
      have hir := hr i hi4
      have hnd : (l1 ++ i :: l2).Nodup := hs.imp (fun h9 => Nat.ne_of_lt h9)
      have hpre : ∀ j ∈ l1, j < i ∧ waitsC all i all[i] j = false ∧ j < all.size := by
        intro j hj
        have hji : j < i := (List.pairwise_append.1 hs).2.2 j hj i (by simp)
        refine ⟨hji, ?_, by omega⟩
        cases hw : waitsC all i all[i] j with
        | false => rfl
        | true =>
          have := waits_listed hd (hi3 _ ho) hw
          exact (hls j (by omega) ((hm j (by omega)).2 (.inl (by simp [hj]))) this).elim
      have h1 := bubbleS hT hc ho hir l1 s hr hnd hpre hv hv2 hk
      simp only [wpLT, ho] at h1
      obtain ⟨e, s1, h2, r2, h3⟩ := stepO_ex h1
      have hni : i ∉ l1 ++ l2 := by
        intro h9
        have h10 : (i :: (l1 ++ l2)).Nodup := (List.perm_middle.nodup_iff).1 hnd
        exact (List.nodup_cons.1 h10).1 h9
      have hsub : ∀ k ∈ l1 ++ l2, k ∈ l1 ++ i :: l2 := fun k hk => by
        rcases List.mem_append.1 hk with h | h <;> simp [h]
      obtain ⟨hv1, hv21⟩ := inv_stepS hT hc ho hir (fun k hk => hr k (hsub k hk)) hni (fun k hk9 => hv k (by
        rcases List.mem_cons.1 hk9 with h9 | h9
        · simp [h9]
        · exact hsub k h9)) hv2 h2 r2
      have hgo : wpAnyL E T n all (f + (all.size - m2)) (listed.setIfInBounds i true) K s1 := by
        refine ih (l1 ++ l2) ?_ _ s1 (by simp [hsz]) ?_ (fun k hk => hr k (hsub k hk)) ?_ (down_set hd (by omega) hi3) hv1 hv21 h3
        · simp only [List.length_append, List.length_cons] at hlen ⊢; omega
        · exact hs.sublist (List.Sublist.append (List.Sublist.refl l1) (List.sublist_cons_self i l2))
        · intro k hks
          have hm9 := hm k hks
          by_cases hki : k = i
          · subst hki
            rw [Array.getD_eq_getD_getElem?, Array.getElem?_setIfInBounds_self_of_lt (by omega)]
            constructor
            · intro h9; cases h9
            · rintro (h9 | h9)
              · exact absurd h9 hni
              · omega
          · rw [Array.getD_eq_getD_getElem?, Array.getElem?_setIfInBounds_ne (Ne.symm hki), ← Array.getD_eq_getD_getElem?, hm9]
            simp [hki]
      have hst : stepO E T n all all[i] (wpAnyL E T n all (f + (all.size - m2)) (listed.setIfInBounds i true) K) s := stepO_in h2 r2 hgo
      refine ⟨s, Gho.refl n s, ?_⟩
      unfold wpI
      rw [ho]
      simp only
      unfold stepO gE at hst
      split at hst
      · rename_i c hgc
        rw [hgc]
        simp only
        split at hst
        · rename_i ht; rw [if_pos ht]; exact .inl hst
        · rename_i ht; rw [if_neg ht]; exact hst
      · exact hst.elim
/-- One operation alone. -/
theorem any_one {m : Nat} (hb : oneOk all m = true) {o : Oper} (ho : all[m]? = some o) {K : St → Prop} {st1 : St} (hg : Gho n s st1) (hw : wpI E T n all m (AnyAt E T n all (m + 1) K) st1) : AnyAt E T n all m K s := by
  intro hback
  have hms : m < all.size := (Array.getElem?_eq_some_iff.1 ho).1
  unfold oneOk at hb
  rw [ho] at hb
  simp only [Bool.and_eq_true, List.all_eq_true, List.mem_range] at hb
  obtain ⟨hb1, hb2⟩ := hb
  have hmb : ∀ e ∈ o.after, Region.binds .any e = true → e.on < m := fun e he hbi => by
    have := (Array.all_eq_true'.1 hb1) e he
    rw [hbi] at this
    simpa using this
  have hd := down_first (all := all) m (by omega) hback
  have hback1 : ∀ i o, i < m + 1 → all[i]? = some o → ∀ e ∈ o.after, Region.binds .any e = true → e.on < m + 1 := by
    intro i o' hi ho' e he hbi
    by_cases h : i = m
    · subst h; rw [ho] at ho'; obtain rfl := Option.some.inj ho'; have := hmb e he hbi; omega
    · have := hback i o' (by omega) ho' e he hbi; omega
  rw [show all.size - m = (all.size - (m + 1)) + 1 by omega]
  refine ⟨fun hnil => ?_, fun i hi => ?_⟩
  · exfalso
    have : m ∈ Region.ready .any all (firstA all.size m) := by
      rw [ready_iff]
      refine ⟨hms, by rw [firstA_get _ hms]; simp, fun o' ho' e he hbi => ?_⟩
      rw [ho] at ho'
      obtain rfl := Option.some.inj ho'
      have := hmb e he hbi
      rw [firstA_get _ (by omega)]
      exact decide_eq_true this
    rw [hnil] at this; cases this
  · obtain ⟨hi1, hi2, hi3⟩ := (ready_iff i).1 hi
    rw [firstA_get _ hi1, decide_eq_false_iff_not] at hi2
    by_cases h : i = m
    · subst h
      refine ⟨st1, hg, ?_⟩
      refine wpI_mono2 (fun s' h => ?_) hw
      rw [firstA_set]
      exact h hback1
    · exfalso
      have hoi : all[i]? = some all[i] := Array.getElem?_eq_getElem hi1
      have := hb2 (i - (m + 1)) (by omega)
      rw [show m + 1 + (i - (m + 1)) = i by omega, hoi] at this
      have hl := waits_listed hd (hi3 _ hoi) this
      rw [firstA_get _ hms] at hl
      simp at hl
theorem any_end {m : Nat} (hm : all.size = m) (hk : K s) : AnyAt E T n all m K s := by
  intro _
  subst hm
  rw [Nat.sub_self]
  refine ⟨?_, hk⟩
  unfold Region.ready
  rw [List.filter_eq_nil_iff]
  intro i hi
  rw [firstA_get _ (List.mem_range.1 hi)]
  simp [List.mem_range.1 hi]
/-- Operations in the order of the text, up to a place. -/
theorem LS_of_T {Q : St → Prop} : ∀ (l : List Oper) (k : Nat) {s : St}, (all.toList.drop k).take l.length = l → wpT E T n ((all.toList.take k).map (·.dst)) l Q s → wpLT E T n all (List.range' k l.length) Q s
  | [], k, s, _, hw => hw
  | o :: l, k, s, hl, hw => by
    have ho : all[k]? = some o := by
      have : ((all.toList.drop k).take (o :: l).length)[0]? = some o := by rw [hl]; rfl
      rw [List.getElem?_take, if_pos (by simp), List.getElem?_drop] at this
      simpa using this
    have hl2 : (all.toList.drop (k + 1)).take l.length = l := by
      have h1 : ((all.toList.drop k).take (l.length + 1)).drop 1 = l := by
        have : (all.toList.drop k).take (l.length + 1) = o :: l := hl
        rw [this]; rfl
      rw [List.drop_take, List.drop_drop] at h1
      simpa [Nat.add_comm] using h1
    have ht2 : (all.toList.take (k + 1)).map (·.dst) = (all.toList.take k).map (·.dst) ++ [o.dst] := by
      rw [List.take_add_one, List.map_append]
      have : all.toList[k]? = some o := by simpa using ho
      rw [this]; rfl
    rw [List.length_cons, List.range'_succ]
    simp only [wpT] at hw
    simp only [wpLT, ho]
    have hnext : ∀ s', wpT E T n ((all.toList.take (k + 1)).map (·.dst)) l Q s' → wpLT E T n all (List.range' (k + 1) l.length) Q s' := fun s' hh => LS_of_T l (k + 1) hl2 hh
    split at hw
    · rename_i c hc
      rw [← ht2] at hw
      unfold stepO gE
      rw [guardD_eq hc]
      simp only
      split at hw
      · rename_i ht; rw [if_pos ht]; exact wpE_mono (fun e he => runE_mono hnext he) hw
      · rename_i ht; rw [if_neg ht]; exact putK_mono2 hnext hw
    · exact hw.elim

variable {Q : Exit → St → Prop} {Q0 : St → Prop}
theorem s_draw {id : Nat} {ops : Array Oper} {s : St} (hx : AnyAt E T n ops 0 (Q .normal) s) : wpCode E T n (.region id ops true) Q s := by
  show wpAnyL E T n ops ops.size (Array.replicate ops.size false) (Q .normal) s
  rw [firstA_zero]
  exact hx fun i o hi => absurd hi (Nat.not_lt_zero i)
/-- A part of a drawn region may be told in the order of its text. -/
def segTextOk (A : List Nat) (m m2 : Nat) (l : List Oper) (ls : List (Nat × SV)) : Bool :=
  segOk (List.toArray l) (naGet (naAdd A ((l.drop m).take (m2 - m)) (naInit ls))) A m m2 && ((namers (List.toArray ((l.drop m).take (m2 - m)))).all fun d => ls.all fun p => !p.2.names.contains d) && ls.all fun p => p.2.names.all fun nm => A.contains nm
theorem a_seg (hT : TOk P T) (A : List Nat) (sz m m2 : Nat) {l : List Oper} {ls : List (Nat × SV)} {hs : List (Nat × Blk)} (hsz : (l.length == sz) = true) (hc : segTextOk A m m2 l ls = true) (hh : HeapIn A (namers (List.toArray ((l.drop m).take (m2 - m)))) hs)
    (hx : ∀ K : St → Prop, (∀ st, AnyAt E T n (List.toArray l) m2 Q0 st → K st) → wpT E T n ((l.take m).map (·.dst)) ((l.drop m).take (m2 - m)) K (mk ls hs)) : AnyAt E T n (List.toArray l) m Q0 (mk ls hs) := by
  unfold segTextOk at hc
  simp only [Bool.and_eq_true, List.all_eq_true, Bool.not_eq_true'] at hc
  obtain ⟨⟨h1, h2⟩, h3⟩ := hc
  have hS := seg_of h1
  have hle := hS.le
  have hszl : m2 ≤ l.length := by simpa using hS.sz
  intro hback
  have hlen : ((l.drop m).take (m2 - m)).length = m2 - m := by rw [List.length_take, List.length_drop]; omega
  have hr' : ∀ i ∈ List.range' m (m2 - m), m ≤ i ∧ i < m2 := fun i hi => by rw [List.mem_range'_1] at hi; omega
  have hback2 : ∀ i o, i < m2 → (List.toArray l)[i]? = some o → ∀ e ∈ o.after, Region.binds .any e = true → e.on < m2 := by
    intro i o hi ho e he hbi
    rcases Nat.lt_or_ge i m with h | h
    · have := hback i o h ho e he hbi; omega
    · have := hS.back i o h hi ho e he hbi; omega
  have hk := LS_of_T (all := List.toArray l) (Q := fun s => wpAnyL E T n (List.toArray l) ((List.toArray l).size - m2) (firstA (List.toArray l).size m2) Q0 s) ((l.drop m).take (m2 - m)) m (by rw [hlen]) (hx _ (fun _ h => h hback2))
  rw [hlen] at hk
  have hmsz : m ≤ (List.toArray l).size := by
    have : (List.toArray l).size = l.length := by simp
    omega
  have key := any_seg hT hS (K := Q0) (List.range' m (m2 - m)) (firstA (List.toArray l).size m) (mk ls hs) (firstA_size _ _) (List.pairwise_lt_range' (step := 1)) hr' (fun i hi => by
    rw [firstA_get _ hi, decide_eq_false_iff_not, List.mem_range'_1]; omega) (down_first m hmsz hback) ?_ ⟨fun t nm hr => naAdd_ok A _ _ t nm (naInit_ok ls t nm hr), fun nm hl => ?_⟩ hk
  · rw [List.length_range'] at key
    have : m2 - m + ((List.toArray l).size - m2) = (List.toArray l).size - m := by simp; omega
    rw [this] at key
    exact key
  · intro k hk o ho hn d hd hl
    have hkr := hr' k hk
    have hdm : d ∈ namers (List.toArray ((l.drop m).take (m2 - m))) := by
      refine List.mem_filterMap.2 ⟨o, ?_, by unfold namerDst; rw [if_pos hn, hd]⟩
      have h9 : ((l.drop m).take (m2 - m))[k - m]? = some o := by
        rw [List.getElem?_take, if_pos (by omega), List.getElem?_drop, show m + (k - m) = k by omega]
        simpa using ho
      exact List.mem_of_getElem? h9
    rcases hl with ⟨t, ht⟩ | ⟨k', b, hb, hn'⟩
    · obtain ⟨p, hp, hpn⟩ := ofL_mem (show (ofL ls t).has d = true from ht)
      have := h2 d hdm p hp
      rw [List.contains_iff_mem.2 (SV.names_ok hpn)] at this
      cases this
    · rw [(hh.mem (show hL hs k' = some b from hb)).2 d hdm] at hn'
      cases hn'
  · rcases hl with ⟨t, ht⟩ | ⟨k', b, hb, hn'⟩
    · obtain ⟨p, hp, hpn⟩ := ofL_mem (show (ofL ls t).has nm = true from ht)
      exact List.contains_iff_mem.1 (h3 p hp nm (SV.names_ok hpn))
    · exact (hh.mem (show hL hs k' = some b from hb)).1 nm hn'
/-- One operation, alone, with all that a call may do. -/
theorem a_one (sz m : Nat) {l : List Oper} {s : St} (hsz : (l.length == sz) = true) (hb : oneOk (List.toArray l) m = true)
    (hx : ∀ K : St → Prop, (∀ st, AnyAt E T n (List.toArray l) (m + 1) Q0 st → K st) → wpS E T n ((l.take m).map (·.dst)) ((l.drop m).take 1) K s) : AnyAt E T n (List.toArray l) m Q0 s := by
  obtain ⟨o, ho⟩ : ∃ o, l[m]? = some o := by
    have hb' := hb
    unfold oneOk at hb'
    simp only [Bool.and_eq_true] at hb'
    cases e : l[m]? with
    | some o => exact ⟨o, rfl⟩
    | none =>
      have : (List.toArray l)[m]? = none := by simpa using e
      rw [this] at hb'
      cases hb'.1
  have hao : (List.toArray l)[m]? = some o := by simpa using ho
  have hone : (l.drop m).take 1 = [o] := by
    have hlt := (List.getElem?_eq_some_iff.1 ho).1
    rw [List.drop_eq_getElem_cons hlt, List.take_succ_cons, List.take_zero]
    have := List.getElem?_eq_getElem hlt
    rw [ho] at this
    rw [Option.some.inj this]
  rw [hone] at hx
  obtain ⟨st1, hg, h⟩ := hx _ (fun _ h => h)
  refine any_one hb hao hg ?_
  unfold wpI
  rw [hao]
  simp only
  split at h
  · rename_i c hc
    have hgd : guardOf (List.toArray l) st1 o = some c := guardD_eq (k := m) (by simpa using hc)
    rw [hgd]
    simp only
    split at h
    · rename_i ht; rw [if_pos ht]; exact h
    · rename_i ht; rw [if_neg ht]; exact h
  · exact h.elim
theorem a_end (sz : Nat) {l : List Oper} {s : St} (hsz : (l.length == sz) = true) (hk : Q0 s) : AnyAt E T n (List.toArray l) sz Q0 s := any_end (by simpa using hsz) hk
end
end Go.Proofs.Ytgmjgognpabmdaa.Fx
