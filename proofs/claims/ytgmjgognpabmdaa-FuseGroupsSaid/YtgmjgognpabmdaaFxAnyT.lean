/- A drawn region: a part that all the rest waits for; and all orders of a few operations. -/
import Derived.Test.YtgmjgognpabmdaaFxMap
namespace Go.Proofs.Ytgmjgognpabmdaa.Fx
open Go Go.RowKit
set_option linter.unusedSimpArgs false
set_option linter.unusedVariables false
section
variable {P : Program} {E : Env} {T : TypeId → Option TI} {n : Nat} {K : St → Prop} {s s' s1 s2 : St} {all : Array Oper}
def segOk2 (all : Array Oper) (na : Nat → List Nat) (A : List Nat) (m m2 : Nat) : Bool :=
  decide (m ≤ m2) && decide (m2 ≤ all.size) &&
  ((List.range (m2 - m)).all fun i0 => match all[m + i0]? with
    | none => true
    | some o => (o.after.all fun e => !Region.binds .any e || decide (e.on < m + i0)) && (match o.dst with
        | none => true
        | some d => (!carries o || (tmpsOf o).all fun u => (na u).all fun nm => (na d).contains nm) && (!loads o || (tmpsOf o).all fun u => (na u).isEmpty || A.all fun nm => (na d).contains nm) && (!namerOp o || ((na d).contains d && A.contains d))) &&
      (let S := clos all (m + i0) (direct o)
       (List.range i0).all fun j0 => match all[m + j0]? with
        | none => true
        | some p => (S.contains (m + j0) || pairB all na p o) && (!namerOp o || o.dst != p.dst) && (!namerOp p || o.dst != p.dst))) &&
  (List.range (all.size - m2)).all fun k0 => match all[m2 + k0]? with
    | none => true
    | some o => (let S := clos all (m2 + k0) (direct o); (List.range (m2 - m)).all fun j0 => S.contains (m + j0))
theorem seg_of2 {na : Nat → List Nat} {A : List Nat} {m m2 : Nat} (hb : segOk2 all na A m m2 = true) : SegOk all na A m m2 := by
  unfold segOk2 at hb
  simp only [Bool.and_eq_true, decide_eq_true_eq, List.all_eq_true, List.mem_range] at hb
  obtain ⟨⟨⟨hle, hsz⟩, hb⟩, htl⟩ := hb
  have key : ∀ i o, m ≤ i → i < m2 → all[i]? = some o → (∀ e ∈ o.after, Region.binds .any e = true → e.on < i) ∧ (∀ d, o.dst = some d → (carries o = true → ∀ u ∈ tmpsOf o, ∀ nm ∈ na u, nm ∈ na d) ∧ (loads o = true → ∀ u ∈ tmpsOf o, na u ≠ [] → ∀ nm ∈ A, nm ∈ na d) ∧ (namerOp o = true → d ∈ na d ∧ d ∈ A)) ∧
      ∀ j p, m ≤ j → j < i → all[j]? = some p → (waitsC all i o j || pairB all na p o) = true ∧ (namerOp o = true → o.dst ≠ p.dst) ∧ (namerOp p = true → o.dst ≠ p.dst) := by
    intro i o h1 h2 ho
    have := hb (i - m) (by omega)
    rw [show m + (i - m) = i by omega, ho] at this
    simp only [Bool.and_eq_true, List.all_eq_true, List.mem_range] at this
    obtain ⟨⟨h3, h0⟩, h4⟩ := this
    refine ⟨fun e he hbi => ?_, fun d hd => ?_, fun j p hmj hj hp => ?_⟩
    · have := (Array.all_eq_true'.1 h3) e he
      rw [hbi] at this
      simpa using this
    · rw [hd] at h0
      simp only [Bool.and_eq_true] at h0
      obtain ⟨⟨h3, h4⟩, h5⟩ := h0
      refine ⟨fun hca u hu nm hnm => ?_, fun hlo u hu hne nm hnm => ?_, fun hn => ?_⟩
      · rw [hca] at h3
        simp only [Bool.not_true, Bool.false_or, List.all_eq_true] at h3
        exact List.contains_iff_mem.1 (h3 u hu nm hnm)
      · rw [hlo] at h4
        simp only [Bool.not_true, Bool.false_or, List.all_eq_true, Bool.or_eq_true] at h4
        rcases h4 u hu with h6 | h6
        · exact absurd (List.isEmpty_iff.1 h6) hne
        · exact List.contains_iff_mem.1 (h6 nm hnm)
      · rw [hn] at h5
        simp only [Bool.not_true, Bool.false_or, Bool.and_eq_true] at h5
        exact ⟨List.contains_iff_mem.1 h5.1, List.contains_iff_mem.1 h5.2⟩
    · have := h4 (j - m) (by omega)
      rw [show m + (j - m) = j by omega, hp] at this
      simp only [Bool.and_eq_true] at this
      obtain ⟨⟨h3, h4⟩, h5⟩ := this
      refine ⟨h3, fun hn => ?_, fun hn => ?_⟩
      · rw [hn] at h4; simpa using h4
      · rw [hn] at h5; simpa using h5
  refine ⟨hle, hsz, fun i o a b ho d hd => ((key i o a b ho).2.1 d hd).1, fun i o a b ho d hd => ((key i o a b ho).2.1 d hd).2.1, fun i o a b ho d hd => ((key i o a b ho).2.1 d hd).2.2, fun i o a b ho => (key i o a b ho).1, fun i j o p a hj b ho hp => ?_, fun i j o p a b c d hne ho hp hn => ?_, fun k o hk ho listed hd hr j hmj hj => ?_⟩
  · have := ((key i o (by omega) b ho).2.2 j p a hj hp).1
    simp only [Bool.or_eq_true] at this
    rcases this with h1 | h1
    · exact .inl h1
    · exact .inr (pair_of h1)
  · rcases Nat.lt_or_ge j i with h1 | h1
    · exact ((key i o a b ho).2.2 j p c h1 hp).2.1 hn
    · exact fun e => ((key j p c d hp).2.2 i o a (by omega) ho).2.2 hn e.symm
  · have hks : k < all.size := (Array.getElem?_eq_some_iff.1 ho).1
    have := htl (k - m2) (by omega)
    rw [show m2 + (k - m2) = k by omega, ho] at this
    simp only [List.all_eq_true, List.mem_range] at this
    have hwj : waitsC all k o j = true := by
      have := this (j - m) (by omega)
      rw [show m + (j - m) = j by omega] at this
      exact this
    exact waits_listed hd hr hwj
variable {Q : Exit → St → Prop} {Q0 : St → Prop}
def segTextOk2 (A : List Nat) (m m2 : Nat) (l : List Oper) (ls : List (Nat × SV)) : Bool :=
  segOk2 (List.toArray l) (naGet (naAdd A ((l.drop m).take (m2 - m)) (naInit ls))) A m m2 && ((namers (List.toArray ((l.drop m).take (m2 - m)))).all fun d => ls.all fun p => !p.2.names.contains d) && ls.all fun p => p.2.names.all fun nm => A.contains nm
theorem a_seg2 (hT : TOk P T) (A : List Nat) (sz m m2 : Nat) {l : List Oper} {ls : List (Nat × SV)} {hs : List (Nat × Blk)} (hsz : (l.length == sz) = true) (hc : segTextOk2 A m m2 l ls = true) (hh : HeapIn A (namers (List.toArray ((l.drop m).take (m2 - m)))) hs)
    (hx : ∀ K : St → Prop, (∀ st, AnyAt E T n (List.toArray l) m2 Q0 st → K st) → wpT E T n ((l.take m).map (·.dst)) ((l.drop m).take (m2 - m)) K (mk ls hs)) : AnyAt E T n (List.toArray l) m Q0 (mk ls hs) := by
  unfold segTextOk2 at hc
  simp only [Bool.and_eq_true, List.all_eq_true, Bool.not_eq_true'] at hc
  obtain ⟨⟨h1, h2⟩, h3⟩ := hc
  have hS := seg_of2 h1
  have hle := hS.le
  have hszl : m2 ≤ l.length := by simpa using hS.sz
  intro hback
  have hlen : ((l.drop m).take (m2 - m)).length = m2 - m := by rw [List.length_take, List.length_drop]; omega
  have hr' : ∀ i ∈ List.range' m (m2 - m), m ≤ i ∧ i < m2 := fun i hi => by rw [List.mem_range'_1] at hi; omega
  have hback2 : ∀ i o, i < m2 → (List.toArray l)[i]? = some o → ∀ e ∈ o.after, Region.binds .any e = true → e.on < m2 := by
    intro i o hi ho e he hbi
    rcases Nat.lt_or_ge i m with h | h
    · have := hback i o h ho e he hbi; omega
    · have := hS.back i o h hi ho e he hbi; omega
  have hk := LS_of_T (all := List.toArray l) (Q := fun s => wpAnyL E T n (List.toArray l) ((List.toArray l).size - m2) (firstA (List.toArray l).size m2) Q0 s) ((l.drop m).take (m2 - m)) m (by rw [hlen]) (hx _ (fun _ h => h hback2))
  rw [hlen] at hk
  have hmsz : m ≤ (List.toArray l).size := by
    have : (List.toArray l).size = l.length := by simp
    omega
  have key := any_seg hT hS (K := Q0) (List.range' m (m2 - m)) (firstA (List.toArray l).size m) (mk ls hs) (firstA_size _ _) (List.pairwise_lt_range' (step := 1)) hr' (fun i hi => by
    rw [firstA_get _ hi, decide_eq_false_iff_not, List.mem_range'_1]; omega) (down_first m hmsz hback) ?_ ⟨fun t nm hr => naAdd_ok A _ _ t nm (naInit_ok ls t nm hr), fun nm hl => ?_⟩ hk
  · rw [List.length_range'] at key
    have : m2 - m + ((List.toArray l).size - m2) = (List.toArray l).size - m := by simp; omega
    rw [this] at key
    exact key
  · intro k hk o ho hn d hd hl
    have hkr := hr' k hk
    have hdm : d ∈ namers (List.toArray ((l.drop m).take (m2 - m))) := by
      refine List.mem_filterMap.2 ⟨o, ?_, by unfold namerDst; rw [if_pos hn, hd]⟩
      have h9 : ((l.drop m).take (m2 - m))[k - m]? = some o := by
        rw [List.getElem?_take, if_pos (by omega), List.getElem?_drop, show m + (k - m) = k by omega]
        simpa using ho
      exact List.mem_of_getElem? h9
    rcases hl with ⟨t, ht⟩ | ⟨k', b, hb, hn'⟩
    · obtain ⟨p, hp, hpn⟩ := ofL_mem (show (ofL ls t).has d = true from ht)
      have := h2 d hdm p hp
      rw [List.contains_iff_mem.2 (SV.names_ok hpn)] at this
      cases this
    · rw [(hh.mem (show hL hs k' = some b from hb)).2 d hdm] at hn'
      cases hn'
  · rcases hl with ⟨t, ht⟩ | ⟨k', b, hb, hn'⟩
    · obtain ⟨p, hp, hpn⟩ := ofL_mem (show (ofL ls t).has nm = true from ht)
      exact List.contains_iff_mem.1 (h3 p hp nm (SV.names_ok hpn))
    · exact (hh.mem (show hL hs k' = some b from hb)).1 nm hn'
/-- All orders of what is left. -/
theorem a_tree (sz m f : Nat) {l : List Oper} (hsz : (l.length == sz) = true) (hf : sz = m + f) (hx : wpAnyL E T n (List.toArray l) f (firstA sz m) Q0 s) : AnyAt E T n (List.toArray l) m Q0 s := by
  intro _
  have e : (List.toArray l).size = sz := by simpa using hsz
  rw [e, show sz - m = f by omega]
  exact hx
theorem x_any {l : List Oper} {listed : Array Bool} {f r : Nat} {rs : List Nat} (hr : Region.ready .any (List.toArray l) listed = r :: rs) (hx : ∀ i ∈ r :: rs, wpI E T n (List.toArray l) i (wpAnyL E T n (List.toArray l) f (listed.setIfInBounds i true) K) s) : wpAnyL E T n (List.toArray l) (f + 1) listed K s := by
  refine ⟨fun h => ?_, fun i hi => ⟨s, Gho.refl n s, hx i (by rw [← hr]; exact hi)⟩⟩
  rw [hr] at h; cases h
theorem x_end {l : List Oper} {listed : Array Bool} (hr : Region.ready .any (List.toArray l) listed = []) (hk : K s) : wpAnyL E T n (List.toArray l) 0 listed K s := ⟨hr, hk⟩
theorem x_op {l : List Oper} {i : Nat} {o : Oper} (ho : l[i]? = some o) (hg : o.guard = none) (hx : ∀ K' : St → Prop, (∀ st, K st → K' st) → wpOp E T n o K' s) : wpI E T n (List.toArray l) i K s := by
  unfold wpI
  have : (List.toArray l)[i]? = some o := by simpa using ho
  rw [this]
  simp only [guardOf, hg, if_true]
  exact hx K fun _ h => h
end
end Go.Proofs.Ytgmjgognpabmdaa.Fx
