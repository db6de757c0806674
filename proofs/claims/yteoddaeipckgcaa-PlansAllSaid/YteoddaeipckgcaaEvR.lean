import Derived.Test.YteoddaeipckgcaaEvQ
namespace Go.Proofs.Yteoddaeipckgcaa.Ev
open Go Go.RowKit
set_option linter.unusedSimpArgs false
set_option linter.unusedVariables false
section
variable {E : Env} {T : TypeId → Option TI} {h : Hint} {K : St → Prop} {s s' s1 s2 : St} {all : Array Oper}

def guardSlot (all : Array Oper) (o : Oper) : List Nat :=
  match o.guard with
  | none => []
  | some (j, _) => match (all[j]?).bind (·.dst) with
    | some d => [d]
    | none => []

def looks (all : Array Oper) (o : Oper) : List Nat := tmpsOf o ++ guardSlot all o

theorem guard_congr {o : Oper} (hs : ∀ t ∈ guardSlot all o, s'.slots t = s.slots t) : guardOf all s' o = guardOf all s o := by
  unfold guardSlot at hs
  unfold guardOf
  split
  · rfl
  · rename_i j want hg
    rw [hg] at hs
    simp only at hs
    split
    · rename_i d hd
      rw [hd] at hs
      rw [hs d (by simp)]
    · rfl

def stepO (E : Env) (T : TypeId → Option TI) (h : Hint) (all : Array Oper) (o : Oper) (K : St → Prop) (st : St) : Prop :=
  match guardOf all st o with
  | some c => if c = true then wpOp E T h o K st else putK h.n o.dst (.tup []) K st
  | none => False

theorem stepO_mono {o : Oper} {K' : St → Prop} (hi : ∀ s, K s → K' s) (hk : stepO E T h all o K s) : stepO E T h all o K' s := by
  unfold stepO at hk ⊢
  split at hk
  · rename_i c hc
    split at hk
    · rename_i ht; rw [if_pos ht]; exact wpOp_mono' hi hk
    · rename_i ht; rw [if_neg ht]; exact putK_mono hi hk
  · exact hk.elim

theorem stepO_det {o : Oper} (hk : stepO E T h all o K s) : ∃ s', stepO E T h all o (· = s') s ∧ K s' := by
  unfold stepO at hk ⊢
  split at hk
  · rename_i c hc
    split at hk
    · rename_i ht; simp only [if_pos ht]; exact wpOp_det hk
    · rename_i ht; simp only [if_neg ht]; exact putK_det hk
  · exact hk.elim

theorem frameG {X : Oper} {d : Nat} {v : SV} (hd : d ∉ looks all X) (hx : X.dst ≠ some d) (hv : namerOp X = true → ∀ d', X.dst = some d' → v.refs d' = false ∧ (s.slots d).refs d' = false) :
    stepO E T h all X K (s.put d v) ↔ stepO E T h all X (fun x => K (x.put d v)) s := by
  have hg : guardOf all (s.put d v) X = guardOf all s X := guard_congr (fun t ht => slots_put_ne (fun e => hd (by subst e; exact List.mem_append_right _ ht)) v)
  unfold stepO
  rw [hg]
  split
  · split
    · exact frame (fun hm => hd (List.mem_append_left _ hm)) hx hv
    · cases hxd : X.dst with
      | none => exact Iff.rfl
      | some d' => simp only [putK]; rw [put_comm (fun e => hx (by rw [hxd, e]))]
  · exact Iff.rfl

theorem effG {X : Oper} (hk : stepO E T h all X (· = s1) s) : Eff h X s s1 := by
  unfold stepO at hk
  split at hk
  · split at hk
    · exact eff_of hk
    · exact eff_putK (fun nm hr => by cases hr) hk
  · exact hk.elim

def valG (E : Env) (T : TypeId → Option TI) (all : Array Oper) (s : St) (o : Oper) (v : SV) : Prop :=
  (guardOf all s o = some true ∧ valR E T s o v) ∨ (guardOf all s o = some false ∧ v = .tup [])

theorem reader_fwdG {o : Oper} (hr : readerOp h o = true) {d : Nat} (hd : o.dst = some d) (hk : stepO E T h all o K s) : ∃ v, valG E T all s o v ∧ d < h.n ∧ K (s.put d v) := by
  unfold stepO at hk
  split at hk
  · rename_i c hc
    split at hk
    · rename_i ht
      obtain ⟨v, h1, h2, h3⟩ := reader_fwd hr hd hk
      exact ⟨v, .inl ⟨by rw [hc, ht], h1⟩, h2, h3⟩
    · rename_i ht
      rw [hd] at hk
      simp only [putK] at hk
      split at hk
      · rename_i hn; exact ⟨_, .inr ⟨by rw [hc]; simp only [Bool.not_eq_true] at ht; rw [ht], rfl⟩, hn, hk⟩
      · exact hk.elim
  · exact hk.elim

theorem reader_bwdG {o : Oper} (hr : readerOp h o = true) {d : Nat} (hd : o.dst = some d) {v : SV} (hv : valG E T all s o v) (hn : d < h.n) (hk : K (s.put d v)) : stepO E T h all o K s := by
  unfold stepO
  rcases hv with ⟨h1, h2⟩ | ⟨h1, rfl⟩
  · rw [h1]; exact reader_bwd hr hd h2 hn hk
  · rw [h1, hd]; simp only [putK, if_pos hn]; exact hk

theorem valG_congr {o : Oper} (hs : ∀ t ∈ looks all o, s'.slots t = s.slots t) (hh : NameOk o s s' (contentOp o)) {v : SV} (hv : valG E T all s o v) : valG E T all s' o v := by
  have hg : guardOf all s' o = guardOf all s o := guard_congr (fun t ht => hs t (List.mem_append_right _ ht))
  unfold valG
  rw [hg]
  exact hv.imp (fun h1 => ⟨h1.1, valR_congr (fun t ht => hs t (List.mem_append_left _ ht)) hh h1.2⟩) id

theorem valG_refs {o : Oper} {v : SV} (hv : valG E T all s o v) {nm : Nat} (hn : ∀ t, (s.slots t).refs nm = false) : v.refs nm = false := by
  rcases hv with ⟨_, h2⟩ | ⟨_, rfl⟩
  · cases hr : v.refs nm with
    | false => rfl
    | true =>
      obtain ⟨t, _, ht⟩ := valR_refs h2 hr
      rw [hn t] at ht; cases ht
  · rfl

/-- A reader and another operation may change places. -/
structure Free (h : Hint) (all : Array Oper) (a X : Oper) (d : Nat) : Prop where
  reader : readerOp h a = true
  dst : a.dst = some d
  look : d ∉ looks all X
  ne : X.dst ≠ some d
  look' : ∀ d', X.dst = some d' → d' ∉ looks all a
  drop : dropOp h X = true → ∀ t ∈ tmpsOf X, t ∉ looks all a

/-- What the one writes is not what the other reads. -/
def Far (h : Hint) (a X : Oper) (s : St) : Prop := contentOp a = true → writerOp h X = true → ∀ nm, (∃ t ∈ tmpsOf a, (s.slots t).refs nm = true) → ∀ u ∈ tmpsOf X, (s.slots u).refs nm = false

theorem swap1 {a X : Oper} {d : Nat} (hf : Free h all a X d) (hfar : Far h a X s) (hinv : namerOp X = true → ∀ d', X.dst = some d' → ∀ t, (s.slots t).refs d' = false)
    (h1 : stepO E T h all a (· = s1) s) (h2 : stepO E T h all X (· = s2) s1) : ∃ s1', stepO E T h all X (· = s1') s ∧ stepO E T h all a (· = s2) s1' := by
  obtain ⟨v, hv, hn, rfl⟩ := reader_fwdG hf.reader hf.dst h1
  rw [frameG hf.look hf.ne (fun hnm d' hd' => ⟨valG_refs hv (hinv hnm d' hd'), hinv hnm d' hd' d⟩)] at h2
  obtain ⟨s1', h3, h4⟩ := stepO_det h2
  have he := effG h3
  refine ⟨s1', h3, reader_bwdG hf.reader hf.dst (valG_congr (fun t ht => ?_) (fun nm hx => ?_) hv) hn h4⟩
  · exact he.slots t (fun e => hf.look' t e ht) (fun hnm d' hd' => hinv hnm d' hd' t) (fun hdr hm => hf.drop hdr t hm ht)
  · obtain ⟨t, hm, ht⟩ := hx
    have hne : namerOp X = true → X.dst ≠ some nm := fun hnm e => by rw [hinv hnm nm e t] at ht; cases ht
    rcases he.heap nm hne with h5 | ⟨h5, h6⟩
    · exact .inl h5
    · cases hc : contentOp a with
      | false => exact .inr ⟨rfl, h6⟩
      | true => exact .inl (he.far nm hne (hfar hc h5 nm ⟨t, hm, ht⟩))

theorem swap2 {a X : Oper} {d : Nat} (hf : Free h all a X d) (hfar : Far h a X s) (hinv : namerOp X = true → ∀ d', X.dst = some d' → ∀ t, (s.slots t).refs d' = false)
    (h1 : stepO E T h all X (· = s1) s) (h2 : stepO E T h all a (· = s2) s1) : ∃ s1', stepO E T h all a (· = s1') s ∧ stepO E T h all X (· = s2) s1' := by
  have he := effG h1
  obtain ⟨v, hv, hn, h3⟩ := reader_fwdG hf.reader hf.dst h2
  have hsl : ∀ t ∈ looks all a, s1.slots t = s.slots t := fun t ht => he.slots t (fun e => hf.look' t e ht) (fun hnm d' hd' => hinv hnm d' hd' t) (fun hdr hm => hf.drop hdr t hm ht)
  have hv' : valG E T all s a v := valG_congr (fun t ht => (hsl t ht).symm) (fun nm hx => by
    obtain ⟨t, hm, ht⟩ := hx
    rw [hsl t (List.mem_append_left _ hm)] at ht
    have hne : namerOp X = true → X.dst ≠ some nm := fun hnm e => by rw [hinv hnm nm e t] at ht; cases ht
    rcases he.heap nm hne with h5 | ⟨h5, b, b', h6, h7, h8⟩
    · exact .inl h5.symm
    · cases hc : contentOp a with
      | false => exact .inr ⟨rfl, b', b, h7, h6, h8.symm⟩
      | true => exact .inl (he.far nm hne (hfar hc h5 nm ⟨t, hm, ht⟩)).symm) hv
  refine ⟨s.put d v, reader_bwdG hf.reader hf.dst hv' hn rfl, ?_⟩
  rw [frameG hf.look hf.ne (fun hnm d' hd' => ⟨valG_refs hv' (hinv hnm d' hd'), hinv hnm d' hd' d⟩)]
  exact stepO_mono (fun x hx => by rw [hx]; exact h3) h1

def freeB (h : Hint) (all : Array Oper) (na : Nat → List Nat) (a X : Oper) : Bool :=
  match a.dst with
  | none => false
  | some d => readerOp h a && !(looks all X).contains d && X.dst != some d && (match X.dst with | some d' => !(looks all a).contains d' | none => true) &&
    (!dropOp h X || (tmpsOf X).all fun t => !(looks all a).contains t) && (!(contentOp a && writerOp h X) || (tmpsOf a).all fun t => (tmpsOf X).all fun u => (na t).all fun nm => !(na u).contains nm)

/-- Where each slot may lead. -/
def Inv2 (na : Nat → List Nat) (s : St) : Prop := ∀ t nm, (s.slots t).refs nm = true → nm ∈ na t

structure Free2 (h : Hint) (all : Array Oper) (na : Nat → List Nat) (a X : Oper) (d : Nat) : Prop where
  free : Free h all a X d
  far : ∀ s : St, Inv2 na s → Far h a X s

theorem free_of {na : Nat → List Nat} {a X : Oper} (hb : freeB h all na a X = true) : ∃ d, Free2 h all na a X d := by
  unfold freeB at hb
  split at hb
  · cases hb
  · rename_i d hd
    simp only [Bool.and_eq_true] at hb
    obtain ⟨⟨⟨⟨⟨h1, h2⟩, h3⟩, h4⟩, h5⟩, h6⟩ := hb
    refine ⟨d, ⟨h1, hd, ?_, by simpa using h3, fun d' hd' => ?_, fun hdr t ht => ?_⟩, fun s hs hc hw nm hx u hu => ?_⟩
    · simpa using h2
    · rw [hd'] at h4; simpa using h4
    · rw [hdr] at h5
      simp only [Bool.not_true, Bool.false_or, List.all_eq_true] at h5
      simpa using h5 t ht
    · rw [hc, hw] at h6
      simp only [Bool.and_self, Bool.not_true, Bool.false_or, List.all_eq_true] at h6
      obtain ⟨t, ht, htr⟩ := hx
      have := h6 t ht u hu nm (hs t nm htr)
      cases hr : (s.slots u).refs nm with
      | false => rfl
      | true => rw [List.contains_iff_mem.2 (hs u nm hr)] at this; cases this

/-- The second waits for the first. -/
def waits (o : Oper) (j : Nat) : Bool := o.after.any fun e => Region.binds .any e && e.on == j

def namerDst (o : Oper) : Option Nat := if namerOp o then o.dst else none

/-- In any order that the region's bonds allow, the operations come to the same. -/
def commOk (h : Hint) (all : Array Oper) (na : Nat → List Nat) : Bool :=
  (List.range all.size).all fun i => match all[i]? with
    | none => true
    | some o => (o.after.all fun e => !Region.binds .any e || decide (e.on < i)) && (match o.dst with | none => true | some d => (!carries o || (tmpsOf o).all fun u => (na u).all fun nm => (na d).contains nm) && (!namerOp o || (na d).contains d)) &&
      (List.range i).all fun j => match all[j]? with
        | none => true
        | some p => (waits o j || freeB h all na p o || freeB h all na o p) && (!namerOp o || o.dst != p.dst) && (!namerOp p || o.dst != p.dst)

structure CommOk (h : Hint) (all : Array Oper) (na : Nat → List Nat) : Prop where
  name : ∀ (i : Nat) (o : Oper), all[i]? = some o → ∀ d, o.dst = some d → (carries o = true → ∀ u ∈ tmpsOf o, ∀ nm ∈ na u, nm ∈ na d) ∧ (namerOp o = true → d ∈ na d)
  back : ∀ (i : Nat) (o : Oper), all[i]? = some o → ∀ e ∈ o.after, Region.binds .any e = true → e.on < i
  pair : ∀ (i j : Nat) (o p : Oper), j < i → all[i]? = some o → all[j]? = some p → waits o j = true ∨ (∃ d, Free2 h all na p o d) ∨ (∃ d, Free2 h all na o p d)
  ne : ∀ (i j : Nat) (o p : Oper), j ≠ i → all[i]? = some o → all[j]? = some p → namerOp o = true → o.dst ≠ p.dst

theorem comm_of {na : Nat → List Nat} (hb : commOk h all na = true) : CommOk h all na := by
  have hlt : ∀ i o, all[i]? = some o → i < all.size := fun i o ho => by
    rcases Nat.lt_or_ge i all.size with h1 | h1
    · exact h1
    · rw [Array.getElem?_eq_none h1] at ho; cases ho
  unfold commOk at hb
  simp only [List.all_eq_true, List.mem_range] at hb
  have key : ∀ i o, all[i]? = some o → (∀ d, o.dst = some d → (carries o = true → ∀ u ∈ tmpsOf o, ∀ nm ∈ na u, nm ∈ na d) ∧ (namerOp o = true → d ∈ na d)) ∧ (∀ e ∈ o.after, Region.binds .any e = true → e.on < i) ∧ ∀ j p, j < i → all[j]? = some p → (waits o j || freeB h all na p o || freeB h all na o p) = true ∧ (namerOp o = true → o.dst ≠ p.dst) ∧ (namerOp p = true → o.dst ≠ p.dst) := by
    intro i o ho
    have := hb i (hlt i o ho)
    rw [ho] at this
    simp only [Bool.and_eq_true] at this
    obtain ⟨⟨h1, h0⟩, h2⟩ := this
    refine ⟨fun d hd => ?_, fun e he hbi => ?_, fun j p hj hp => ?_⟩
    · rw [hd] at h0
      simp only [Bool.and_eq_true] at h0
      obtain ⟨h3, h4⟩ := h0
      refine ⟨fun hca u hu nm hnm => ?_, fun hn => ?_⟩
      · rw [hca] at h3
        simp only [Bool.not_true, Bool.false_or, List.all_eq_true] at h3
        exact List.contains_iff_mem.1 (h3 u hu nm hnm)
      · rw [hn] at h4
        simp only [Bool.not_true, Bool.false_or] at h4
        exact List.contains_iff_mem.1 h4
    · have := (Array.all_eq_true'.1 h1) e he
      rw [hbi] at this
      simpa using this
    · simp only [List.all_eq_true, List.mem_range] at h2
      have := h2 j hj
      rw [hp] at this
      simp only [Bool.and_eq_true] at this
      obtain ⟨⟨h3, h4⟩, h5⟩ := this
      refine ⟨h3, fun hn => ?_, fun hn => ?_⟩
      · rw [hn] at h4; simpa using h4
      · rw [hn] at h5; simpa using h5
  refine ⟨fun i o ho => (key i o ho).1, fun i o ho => (key i o ho).2.1, fun i j o p hj ho hp => ?_, fun i j o p hne ho hp hn => ?_⟩
  · have := ((key i o ho).2.2 j p hj hp).1
    simp only [Bool.or_eq_true] at this
    rcases this with (h1 | h1) | h1
    · exact .inl h1
    · exact .inr (.inl (free_of h1))
    · exact .inr (.inr (free_of h1))
  · rcases Nat.lt_or_ge j i with h1 | h1
    · exact ((key i o ho).2.2 j p h1 hp).2.1 hn
    · exact fun e => ((key j p hp).2.2 i o (by omega) ho).2.2 hn e.symm

/-- No slot leads to a name that is still to be given. -/
def Inv (all : Array Oper) (l : List Nat) (s : St) : Prop := ∀ k ∈ l, ∀ o, all[k]? = some o → namerOp o = true → ∀ d, o.dst = some d → ∀ t, (s.slots t).refs d = false

theorem wpI_eq {i : Nat} {o : Oper} (ho : all[i]? = some o) : wpI E T h all i K s = stepO E T h all o K s := by
  unfold wpI stepO; simp only [ho]; rfl

theorem inv_step {na : Nat → List Nat} (hc : CommOk h all na) {i : Nat} {l : List Nat} (hi : i ∉ l) (hv : Inv all l s) (hk : wpI E T h all i (· = s1) s) : Inv all l s1 := by
  cases ho : all[i]? with
  | none => unfold wpI at hk; rw [ho] at hk; rw [← show s = s1 from hk]; exact hv
  | some o =>
    rw [wpI_eq ho] at hk
    have he := effG hk
    intro k hkl o' ho' hn d hd
    have hne : k ≠ i := fun e => hi (by rw [← e]; exact hkl)
    exact he.refs d (fun _ e => hc.ne k i o' o (Ne.symm hne) ho' ho hn (by rw [hd, e])) (hv k hkl o' ho' hn d hd)

theorem inv2_step {na : Nat → List Nat} (hc : CommOk h all na) {i : Nat} (hv : Inv2 na s) (hk : wpI E T h all i (· = s1) s) : Inv2 na s1 := by
  cases ho : all[i]? with
  | none => unfold wpI at hk; rw [ho] at hk; rw [← show s = s1 from hk]; exact hv
  | some o =>
    rw [wpI_eq ho] at hk
    intro t nm hr
    rcases (effG hk).src t nm hr with h1 | ⟨h1, ⟨h2, u, h3, h4⟩ | ⟨h2, h3⟩⟩
    · exact hv t nm h1
    · exact (hc.name i o ho t h1).1 h2 u h3 nm (hv u nm h4)
    · subst h3; exact (hc.name i o ho nm h1).2 h2

theorem bubble {na : Nat → List Nat} (hc : CommOk h all na) {i : Nat} {o : Oper} (ho : all[i]? = some o) {l2 : List Nat} : ∀ (l1 : List Nat) (s : St), (l1 ++ i :: l2).Nodup → (∀ j ∈ l1, j < i ∧ waits o j = false ∧ j < all.size) → Inv all (l1 ++ i :: l2) s → Inv2 na s →
    wpL E T h all (l1 ++ i :: l2) K s → wpL E T h all (i :: (l1 ++ l2)) K s
  | [], s, _, _, _, _, hk => hk
  | j :: l1, s, hnd, hl, hv, hv2, hk => by
    obtain ⟨hji, hjw, hjs⟩ := hl j (by simp)
    have hp : all[j]? = some all[j] := Array.getElem?_eq_getElem hjs
    simp only [List.cons_append, wpL] at hk
    obtain ⟨s1, h1, h2⟩ := wpI_det hk
    have hnd' := List.nodup_cons.1 (show (j :: (l1 ++ i :: l2)).Nodup from hnd)
    have hv1 : Inv all (l1 ++ i :: l2) s1 := inv_step hc hnd'.1 (fun k hk9 => hv k (by simp only [List.cons_append]; exact List.mem_cons_of_mem _ hk9)) h1
    have h3 := bubble hc ho l1 s1 hnd'.2 (fun k hk9 => hl k (List.mem_cons_of_mem _ hk9)) hv1 (inv2_step hc hv2 h1) h2
    simp only [wpL] at h3
    obtain ⟨s2, h4, h5⟩ := wpI_det h3
    rw [wpI_eq hp] at h1
    rw [wpI_eq ho] at h4
    have : ∃ s1', stepO E T h all o (· = s1') s ∧ stepO E T h all all[j] (· = s2) s1' := by
      rcases hc.pair i j o _ hji ho hp with h6 | ⟨d, h6⟩ | ⟨d, h6⟩
      · rw [hjw] at h6; cases h6
      · exact swap1 h6.free (h6.far s hv2) (fun hn d' hd' => hv i (by simp) o ho hn d' hd') h1 h4
      · exact swap2 h6.free (h6.far s hv2) (fun hn d' hd' => hv j (by simp) _ hp hn d' hd') h1 h4
    obtain ⟨s1', h7, h8⟩ := this
    simp only [List.cons_append, wpL]
    rw [wpI_eq ho]
    refine stepO_mono (fun x hx => ?_) h7
    rw [hx, wpI_eq hp]
    exact stepO_mono (fun y hy => by rw [hy]; exact h5) h8

theorem any_of_rest {na : Nat → List Nat} (hc : CommOk h all na) : ∀ (f : Nat) (rest : List Nat) (listed : Array Bool) (s : St), rest.length = f → listed.size = all.size → rest.Pairwise (· < ·) → (∀ i, i < all.size → (listed.getD i true = false ↔ i ∈ rest)) → (∀ i ∈ rest, i < all.size) →
    Inv all rest s → Inv2 na s → wpL E T h all rest K s → wpAnyL E T h all f listed K s
  | 0, rest, listed, s, hl, hsz, hs, hm, hb, hv, hv2, hk => by
    obtain rfl : rest = [] := List.length_eq_zero_iff.1 hl
    refine ⟨?_, hk⟩
    unfold Region.ready
    rw [List.filter_eq_nil_iff]
    intro i hi
    have hi' := List.mem_range.1 hi
    have : listed.getD i true = true := by
      cases h9 : listed.getD i true with
      | true => rfl
      | false => exact absurd ((hm i hi').1 h9) (by simp)
    rw [this]; simp
  | f + 1, rest, listed, s, hl, hsz, hs, hm, hb, hv, hv2, hk => by
    have hready : ∀ i, i ∈ Region.ready .any all listed ↔ i < all.size ∧ i ∈ rest ∧ ∀ o, all[i]? = some o → ∀ e ∈ o.after, Region.binds .any e = true → listed.getD e.on false = true := by
      intro i
      unfold Region.ready
      rw [List.mem_filter, List.mem_range]
      constructor
      · rintro ⟨h1, h2⟩
        simp only [Bool.and_eq_true, Bool.not_eq_true'] at h2
        refine ⟨h1, (hm i h1).1 h2.1, fun o ho e he hbi => ?_⟩
        have h3 := h2.2
        rw [ho] at h3
        simp only [Option.map_some, Option.getD_some] at h3
        have := (Array.all_eq_true'.1 h3) e he
        rw [hbi] at this
        simpa using this
      · rintro ⟨h1, h2, h3⟩
        refine ⟨h1, ?_⟩
        simp only [Bool.and_eq_true, Bool.not_eq_true']
        refine ⟨(hm i h1).2 h2, ?_⟩
        rw [Array.getElem?_eq_getElem h1]
        simp only [Option.map_some, Option.getD_some]
        show (all[i].after.all (fun e => !Region.binds .any e || listed.getD e.on false)) = true
        rw [Array.all_eq_true']
        intro e he
        cases hbi : Region.binds .any e with
        | false => rfl
        | true => simpa using h3 _ (Array.getElem?_eq_getElem h1) e he hbi
    refine ⟨fun hnil => ?_, fun i hi => ?_⟩
    · exfalso
      cases rest with
      | nil => cases hl
      | cons i0 rest =>
        have : i0 ∈ Region.ready .any all listed := by
          rw [hready]
          refine ⟨hb i0 (by simp), by simp, fun o ho e he hbi => ?_⟩
          have hlt := hc.back i0 o ho e he hbi
          have hes : e.on < all.size := Nat.lt_trans hlt (hb i0 (by simp))
          have hnot : e.on ∉ i0 :: rest := by
            intro hin
            rcases List.mem_cons.1 hin with h1 | h1
            · omega
            · have := (List.pairwise_cons.1 hs).1 _ h1; omega
          have hgt : listed.getD e.on true = true := by
            cases h9 : listed.getD e.on true with
            | true => rfl
            | false => exact absurd ((hm _ hes).1 h9) hnot
          rw [Array.getD_eq_getD_getElem?, Array.getElem?_eq_getElem (by omega)] at hgt ⊢
          exact hgt
        rw [hnil] at this; cases this
    · obtain ⟨hi1, hi2, hi3⟩ := (hready i).1 hi
      obtain ⟨l1, l2, rfl⟩ := List.append_of_mem hi2
      have ho : all[i]? = some all[i] := Array.getElem?_eq_getElem hi1
      have hnd : (l1 ++ i :: l2).Nodup := hs.imp (fun h9 => Nat.ne_of_lt h9)
      have hpre : ∀ j ∈ l1, j < i ∧ waits all[i] j = false ∧ j < all.size := by
        intro j hj
        have hji : j < i := (List.pairwise_append.1 hs).2.2 j hj i (by simp)
        have hjs : j < all.size := hb j (by simp [hj])
        refine ⟨hji, ?_, hjs⟩
        cases hw : waits all[i] j with
        | false => rfl
        | true =>
          unfold waits at hw
          obtain ⟨e, he, h9⟩ := Array.any_eq_true'.1 hw
          simp only [Bool.and_eq_true, beq_iff_eq] at h9
          have h10 := hi3 _ ho e he h9.1
          rw [h9.2] at h10
          have h11 := (hm j hjs).2 (by simp [hj])
          rw [Array.getD_eq_getD_getElem?, Array.getElem?_eq_getElem (by omega)] at h10 h11
          simp only [Option.getD_some] at h10 h11
          rw [h10] at h11; cases h11
      have h1 := bubble hc ho l1 s hnd hpre hv hv2 hk
      simp only [wpL] at h1
      obtain ⟨s1, h2, h3⟩ := wpI_det h1
      have hni : i ∉ l1 ++ l2 := by
        intro h9
        have h10 : (i :: (l1 ++ l2)).Nodup := (List.perm_middle.nodup_iff).1 hnd
        exact (List.nodup_cons.1 h10).1 h9
      have hv1 : Inv all (l1 ++ l2) s1 := inv_step hc hni (fun k hk9 => hv k (by rcases List.mem_append.1 hk9 with h9 | h9 <;> simp [h9])) h2
      refine wpI_mono (fun x hx => ?_) h2
      rw [hx]
      refine any_of_rest hc f (l1 ++ l2) _ s1 ?_ (by simp [hsz]) ?_ ?_ ?_ hv1 (inv2_step hc hv2 h2) h3
      · simp only [List.length_append, List.length_cons] at hl ⊢; omega
      · exact hs.sublist (List.Sublist.append (List.Sublist.refl l1) (List.sublist_cons_self i l2))
      · intro k hks
        have hm9 := hm k hks
        by_cases hki : k = i
        · subst hki
          rw [Array.getD_eq_getD_getElem?, Array.getElem?_setIfInBounds_self_of_lt (by omega)]
          constructor
          · intro h9; cases h9
          · intro h9; exact absurd h9 hni
        · rw [Array.getD_eq_getD_getElem?, Array.getElem?_setIfInBounds_ne (Ne.symm hki), ← Array.getD_eq_getD_getElem?, hm9]
          simp [hki]
      · intro k hk9
        exact hb k (by rcases List.mem_append.1 hk9 with h9 | h9 <;> simp [h9])

theorem L_of_S : ∀ (l : List Oper) (k : Nat) {s : St}, all.toList.drop k = l → wpS E T h ((all.toList.take k).map (·.dst)) l K s → wpL E T h all (List.range' k l.length) K s
  | [], k, s, _, hw => hw
  | o :: l, k, s, hl, hw => by
    have hk : k < all.toList.length := by
      rcases Nat.lt_or_ge k all.toList.length with h | h
      · exact h
      · rw [List.drop_of_length_le h] at hl; cases hl
    have ho : all[k]? = some o := by
      have : (all.toList.drop k)[0]? = some o := by rw [hl]; rfl
      rw [List.getElem?_drop] at this
      simpa using this
    have hl2 : all.toList.drop (k + 1) = l := by rw [← List.drop_drop, hl]; rfl
    have ht2 : (all.toList.take (k + 1)).map (·.dst) = (all.toList.take k).map (·.dst) ++ [o.dst] := by
      rw [List.take_add_one, List.map_append]
      have : all.toList[k]? = some o := by simpa using ho
      rw [this]; rfl
    rw [List.length_cons, List.range'_succ]
    simp only [wpS] at hw
    simp only [wpL]
    split at hw
    · rename_i c hc
      rw [← ht2] at hw
      have hnext : ∀ s', wpS E T h ((all.toList.take (k + 1)).map (·.dst)) l K s' → wpL E T h all (List.range' (k + 1) l.length) K s' := fun s' hh => L_of_S l (k + 1) hl2 hh
      unfold wpI
      rw [ho]
      simp only
      rw [guardD_eq hc]
      simp only
      split at hw
      · rename_i ht; rw [if_pos ht]; exact wpOp_mono' hnext hw
      · rename_i ht; rw [if_neg ht]; exact putK_mono hnext hw
    · exact hw.elim

/-- A drawn region, in the order of its text. -/
theorem any_of_text {na : Nat → List Nat} (hb : commOk h all na = true) (hv : Inv all (List.range all.size) s) (hv2 : Inv2 na s) (hw : wpS E T h [] all.toList K s) : wpAnyL E T h all all.size (Array.replicate all.size false) K s := by
  have h1 := L_of_S all.toList 0 (all := all) (by simp) hw
  rw [show all.toList.length = all.size by simp, ← List.range_eq_range'] at h1
  refine any_of_rest (comm_of hb) all.size (List.range all.size) _ s (by simp) (by simp) List.pairwise_lt_range (fun i hi => ?_) (fun i hi => List.mem_range.1 hi) hv hv2 h1
  rw [Array.getD_eq_getD_getElem?, Array.getElem?_replicate, if_pos hi]
  simp [hi]

def namers (all : Array Oper) : List Nat := all.toList.filterMap namerDst

theorem inv_of (hv : ∀ d ∈ namers all, ∀ t, (s.slots t).refs d = false) : Inv all (List.range all.size) s := by
  intro k _ o ho hn d hd
  refine hv d (List.mem_filterMap.2 ⟨o, ?_, by unfold namerDst; rw [if_pos hn, hd]⟩)
  have : all.toList[k]? = some o := by simpa using ho
  exact List.mem_of_getElem? this
end
end Go.Proofs.Yteoddaeipckgcaa.Ev
