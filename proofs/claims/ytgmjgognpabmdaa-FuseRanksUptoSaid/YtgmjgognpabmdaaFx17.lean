/- The evaluator's second make: a drawn region, in the order of its text. -/
import Derived.Test.YtgmjgognpabmdaaFx16
namespace Go.Proofs.Ytgmjgognpabmdaa.Fx
open Go Go.RowKit
set_option linter.unusedSimpArgs false
set_option linter.unusedVariables false
section
variable {P : Program} {E : Env} {T : TypeId → Option TI} {n : Nat} {K : St → Prop} {s s' s1 s2 : St} {all : Array Oper}

def stepO (E : Env) (T : TypeId → Option TI) (n : Nat) (all : Array Oper) (o : Oper) (K : St → Prop) (st : St) : Prop := gE E T all o (runE n o.dst K st) st

theorem runE_iff {dst : Option Nat} {e : Ef} : runE n dst K s e ↔ ∃ s', runE n dst (· = s') s e ∧ K s' := by
  constructor
  · intro h
    cases e with
    | put sv =>
      cases dst with
      | none => exact ⟨s, rfl, h⟩
      | some d =>
        simp only [runE, putK] at h ⊢
        by_cases hd : d < n
        · rw [if_pos hd] at h; exact ⟨_, by rw [if_pos hd], h⟩
        · rw [if_neg hd] at h; exact h.elim
    | name blk sv =>
      cases dst with
      | none => exact h.elim
      | some d =>
        simp only [runE, nameK] at h ⊢
        by_cases hd : d < n
        · rw [if_pos hd] at h; exact ⟨_, by rw [if_pos hd]; exact ⟨h.1, h.2.1, rfl⟩, h.2.2⟩
        · rw [if_neg hd] at h; exact h.elim
    | give nm blk sv =>
      cases dst with
      | none => exact h.elim
      | some d =>
        simp only [runE, giveK] at h ⊢
        by_cases hd : d < n
        · rw [if_pos hd] at h; exact ⟨_, by rw [if_pos hd]; exact ⟨h.1, h.2.1, rfl⟩, h.2.2⟩
        · rw [if_neg hd] at h; exact h.elim
    | upd nm blk => exact ⟨_, ⟨h.1, rfl⟩, h.2⟩
  · rintro ⟨s', h1, h2⟩
    exact runE_mono (fun x hx => by rw [hx]; exact h2) h1

theorem stepO_ex {o : Oper} (h : stepO E T n all o K s) : ∃ e s1, gE E T all o (· = e) s ∧ runE n o.dst (· = s1) s e ∧ K s1 := by
  obtain ⟨e, h1, h2⟩ := gE_iff.1 h
  obtain ⟨s1, h3, h4⟩ := runE_iff.1 h2
  exact ⟨e, s1, h1, h3, h4⟩
theorem stepO_in {o : Oper} {e : Ef} {s1 : St} (h1 : gE E T all o (· = e) s) (h2 : runE n o.dst (· = s1) s e) (h3 : K s1) : stepO E T n all o K s :=
  gE_iff.2 ⟨e, h1, runE_iff.2 ⟨s1, h2, h3⟩⟩
theorem stepO_mono {o : Oper} {K' : St → Prop} (hi : ∀ s, K s → K' s) (h : stepO E T n all o K s) : stepO E T n all o K' s := by
  obtain ⟨e, s1, h1, h2, h3⟩ := stepO_ex h
  exact stepO_in h1 h2 (hi s1 h3)

/-- Where each slot may lead, and where anything may. -/
structure Inv2 (na : Nat → List Nat) (A : List Nat) (s : St) : Prop where
  slot : ∀ t nm, (s.slots t).has nm = true → nm ∈ na t
  all : ∀ nm, Leads s nm → nm ∈ A

/-- Two operations that may change places. -/
structure Pair (all : Array Oper) (na : Nat → List Nat) (o1 o2 : Oper) : Prop where
  d12 : ∀ d, o1.dst = some d → d ∉ looks all o2
  d21 : ∀ d, o2.dst = some d → d ∉ looks all o1
  ne : ∀ d, o1.dst = some d → o2.dst ≠ some d
  far : (writerOp o1 = true ∨ writerOp o2 = true) → ∀ t ∈ hotOf o1, ∀ u ∈ hotOf o2, ∀ nm ∈ na t, nm ∉ na u

theorem Pair.symm {na : Nat → List Nat} {o1 o2 : Oper} (h : Pair all na o1 o2) : Pair all na o2 o1 :=
  ⟨h.d21, h.d12, fun d h1 h2 => h.ne d h2 h1, fun hw t ht u hu nm hn hn' => h.far hw.symm u hu t ht nm hn' hn⟩

theorem setS_slots {u : Option (Nat × SV)} {h : Nat → Option (Option Blk)} {t : Nat} (hd : ∀ p, u = some p → p.1 ≠ t) : (setS s u h).slots t = s.slots t := by
  simp only [setS]
  cases u with
  | none => rfl
  | some p => simp only; rw [if_neg (fun e => hd p rfl e.symm)]

theorem setS_heap {u : Option (Nat × SV)} {h : Nat → Option (Option Blk)} {k : Nat} (hk : h k = none) : (setS s u h).heap k = s.heap k := by
  simp only [setS, hk]

theorem setS_comm {u1 u2 : Option (Nat × SV)} {h1 h2 : Nat → Option (Option Blk)} (hu : ∀ p q, u1 = some p → u2 = some q → p.1 ≠ q.1) (hh : ∀ k v w, h1 k = some v → h2 k = some w → False) : setS (setS s u1 h1) u2 h2 = setS (setS s u2 h2) u1 h1 := by
  simp only [setS, St.mk.injEq]
  refine ⟨?_, ?_⟩
  · cases u1 with
    | none => cases u2 <;> rfl
    | some p =>
      cases u2 with
      | none => rfl
      | some q =>
        funext t
        simp only
        have := hu p q rfl rfl
        by_cases e1 : t = p.1
        · rw [if_neg (fun e2 => this (e1.symm.trans e2)), if_pos e1, if_pos e1]
        · rw [if_neg e1, if_neg e1]
  · funext k
    cases e1 : h1 k with
    | none => cases h2 k <;> rfl
    | some v =>
      cases e2 : h2 k with
      | none => rfl
      | some w => exact (hh k v w e1 e2).elim

/-- What a step looks at is the same behind another that may change places with it. -/
theorem agree_set {na : Nat → List Nat} {A : List Nat} {o1 o2 : Oper} (hp : Pair all na o1 o2) (hv : Inv2 na A s) {e1 : Ef} (hs : Shape o1 s e1) (hno : ∀ d, o1.dst = some d → namerOp o1 = true → ¬ Leads s d) (R : Ef → Prop) :
    gE E T all o2 R s ↔ gE E T all o2 R (setS s (e1.sup o1.dst) (e1.hup o1.dst)) := by
  have hsl : ∀ t ∈ looks all o2, (setS s (e1.sup o1.dst) (e1.hup o1.dst)).slots t = s.slots t := fun t ht => setS_slots fun p hp' e => hp.d12 p.1 (sup_of hp') (e ▸ ht)
  have ag : Agree o2 s (setS s (e1.sup o1.dst) (e1.hup o1.dst)) := by
    refine ⟨fun t ht => hsl t (List.mem_append_left _ ht), fun nm ⟨t, ht, hn⟩ => setS_heap ?_⟩
    cases hh : e1.hup o1.dst nm with
    | none => rfl
    | some v =>
      exfalso
      rcases hup_of hs hh with ⟨h1, h2⟩ | ⟨h1, u, hu, hun⟩
      · exact hno nm h1 h2 (.inl ⟨t, hn⟩)
      · exact hp.far (.inl h1) u hu t ht nm (hv.slot u nm hun) (hv.slot t nm hn)
  have g : ∀ t ∈ guardSlot all o2, (setS s (e1.sup o1.dst) (e1.hup o1.dst)).slots t = s.slots t := fun t ht => hsl t (List.mem_append_right _ ht)
  exact ⟨gE_eq ag g, gE_eq ag.symm fun t ht => (g t ht).symm⟩

theorem swap (hT : TOk P T) {na : Nat → List Nat} {A : List Nat} {o1 o2 : Oper} (hp : Pair all na o1 o2) (hv : Inv2 na A s) (hno1 : ∀ d, o1.dst = some d → namerOp o1 = true → ¬ Leads s d) (hno2 : ∀ d, o2.dst = some d → namerOp o2 = true → ¬ Leads s d)
    {e1 e2 : Ef} (h1 : gE E T all o1 (· = e1) s) (r1 : runE n o1.dst (· = s1) s e1) (h2 : gE E T all o2 (· = e2) s1) (r2 : runE n o2.dst (· = s2) s1 e2) :
    ∃ s1', gE E T all o2 (· = e2) s ∧ runE n o2.dst (· = s1') s e2 ∧ gE E T all o1 (· = e1) s1' ∧ runE n o1.dst (· = s2) s1' e1 := by
  have sh1 := gshape hT h1
  obtain ⟨f1, rfl⟩ := (runE_set sh1 hno1).1 r1
  have h2' : gE E T all o2 (· = e2) s := (agree_set hp hv sh1 hno1 _).2 h2
  have sh2 := gshape hT h2'
  have sh2' := gshape hT h2
  have hno2' : ∀ d, o2.dst = some d → namerOp o2 = true → ¬ Leads (setS s (e1.sup o1.dst) (e1.hup o1.dst)) d := fun d hd hn hl => by
    rcases leads_set sh1 hl with h | ⟨_, h⟩
    · exact hno2 d hd hn h
    · exact hp.ne d h hd
  obtain ⟨f2, rfl⟩ := (runE_set sh2' hno2').1 r2
  refine ⟨setS s (e2.sup o2.dst) (e2.hup o2.dst), h2', (runE_set sh2 hno2).2 ⟨f2, rfl⟩, ?_⟩
  have h1' : gE E T all o1 (· = e1) (setS s (e2.sup o2.dst) (e2.hup o2.dst)) := (agree_set hp.symm hv sh2 hno2 _).1 h1
  have sh1' := gshape hT h1'
  have hno1' : ∀ d, o1.dst = some d → namerOp o1 = true → ¬ Leads (setS s (e2.sup o2.dst) (e2.hup o2.dst)) d := fun d hd hn hl => by
    rcases leads_set sh2 hl with h | ⟨_, h⟩
    · exact hno1 d hd hn h
    · exact hp.ne d hd h
  refine ⟨h1', (runE_set sh1' hno1').2 ⟨f1, ?_⟩⟩
  refine setS_comm (fun p q hp' hq' e => ?_) (fun k v w hk hk' => ?_)
  · exact hp.ne q.1 (sup_of hq') (by rw [← e]; exact sup_of hp')
  · rcases hup_of sh2 hk with ⟨q1, q2⟩ | ⟨q1, u, q2, q3⟩
    · rcases hup_of sh1 hk' with ⟨p1, p2⟩ | ⟨p1, u', p2, p3⟩
      · exact hp.ne k p1 q1
      · exact hno2 k q1 q2 (.inl ⟨u', p3⟩)
    · rcases hup_of sh1 hk' with ⟨p1, p2⟩ | ⟨p1, u', p2, p3⟩
      · exact hno1 k p1 p2 (.inl ⟨u, q3⟩)
      · exact hp.far (.inl p1) u' p2 u q2 k (hv.slot u' k p3) (hv.slot u k q3)

/-- The second waits for the first. -/
def waits1 (o : Oper) (j : Nat) : Bool := o.after.any fun e => Region.binds .any e && e.on == j
/-- The same, or for one that waits for it. -/
def waits (all : Array Oper) (o : Oper) (j : Nat) : Bool := waits1 o j || o.after.any fun e => Region.binds .any e && (match all[e.on]? with | some m => waits1 m j | none => false)

def pairB (all : Array Oper) (na : Nat → List Nat) (o1 o2 : Oper) : Bool :=
  (match o1.dst with | some d => !(looks all o2).contains d && o2.dst != some d | none => true) && (match o2.dst with | some d => !(looks all o1).contains d | none => true) &&
    (!(writerOp o1 || writerOp o2) || (hotOf o1).all fun t => (hotOf o2).all fun u => (na t).all fun nm => !(na u).contains nm)

theorem pair_of {na : Nat → List Nat} {o1 o2 : Oper} (h : pairB all na o1 o2 = true) : Pair all na o1 o2 := by
  unfold pairB at h
  simp only [Bool.and_eq_true] at h
  obtain ⟨⟨h1, h2⟩, h3⟩ := h
  refine ⟨fun d hd => ?_, fun d hd => ?_, fun d hd => ?_, fun hw => ?_⟩
  · rw [hd] at h1; simp only [Bool.and_eq_true] at h1; simpa using h1.1
  · rw [hd] at h2; simpa using h2
  · rw [hd] at h1; simp only [Bool.and_eq_true] at h1; simpa using h1.2
  · have hwb : (writerOp o1 || writerOp o2) = true := by simpa [Bool.or_eq_true] using hw
    rw [hwb] at h3
    simp only [Bool.not_true, Bool.false_or, List.all_eq_true] at h3
    intro t ht u hu nm hn hn'
    have := h3 t ht u hu nm hn
    rw [List.contains_iff_mem.2 hn'] at this
    cases this

def commOk (all : Array Oper) (na : Nat → List Nat) (A : List Nat) : Bool :=
  (List.range all.size).all fun i => match all[i]? with
    | none => true
    | some o => (o.after.all fun e => !Region.binds .any e || decide (e.on < i)) && (match o.dst with
        | none => true
        | some d => (!carries o || (tmpsOf o).all fun u => (na u).all fun nm => (na d).contains nm) && (!loads o || (tmpsOf o).all fun u => (na u).isEmpty || A.all fun nm => (na d).contains nm) && (!namerOp o || ((na d).contains d && A.contains d))) &&
      (List.range i).all fun j => match all[j]? with
        | none => true
        | some p => (waits all o j || pairB all na p o) && (!namerOp o || o.dst != p.dst) && (!namerOp p || o.dst != p.dst)

structure CommOk (all : Array Oper) (na : Nat → List Nat) (A : List Nat) : Prop where
  carry : ∀ (i : Nat) (o : Oper), all[i]? = some o → ∀ d, o.dst = some d → carries o = true → ∀ u ∈ tmpsOf o, ∀ nm ∈ na u, nm ∈ na d
  load : ∀ (i : Nat) (o : Oper), all[i]? = some o → ∀ d, o.dst = some d → loads o = true → ∀ u ∈ tmpsOf o, na u ≠ [] → ∀ nm ∈ A, nm ∈ na d
  name : ∀ (i : Nat) (o : Oper), all[i]? = some o → ∀ d, o.dst = some d → namerOp o = true → d ∈ na d ∧ d ∈ A
  back : ∀ (i : Nat) (o : Oper), all[i]? = some o → ∀ e ∈ o.after, Region.binds .any e = true → e.on < i
  pair : ∀ (i j : Nat) (o p : Oper), j < i → all[i]? = some o → all[j]? = some p → waits all o j = true ∨ Pair all na p o
  ne : ∀ (i j : Nat) (o p : Oper), j ≠ i → all[i]? = some o → all[j]? = some p → namerOp o = true → o.dst ≠ p.dst

theorem comm_of {na : Nat → List Nat} {A : List Nat} (hb : commOk all na A = true) : CommOk all na A := by
  have hlt : ∀ i o, all[i]? = some o → i < all.size := fun i o ho => by
    rcases Nat.lt_or_ge i all.size with h1 | h1
    · exact h1
    · rw [Array.getElem?_eq_none h1] at ho; cases ho
  unfold commOk at hb
  simp only [List.all_eq_true, List.mem_range] at hb
  have key : ∀ i o, all[i]? = some o → (∀ e ∈ o.after, Region.binds .any e = true → e.on < i) ∧ (∀ d, o.dst = some d → (carries o = true → ∀ u ∈ tmpsOf o, ∀ nm ∈ na u, nm ∈ na d) ∧ (loads o = true → ∀ u ∈ tmpsOf o, na u ≠ [] → ∀ nm ∈ A, nm ∈ na d) ∧ (namerOp o = true → d ∈ na d ∧ d ∈ A)) ∧
      ∀ j p, j < i → all[j]? = some p → (waits all o j || pairB all na p o) = true ∧ (namerOp o = true → o.dst ≠ p.dst) ∧ (namerOp p = true → o.dst ≠ p.dst) := by
    intro i o ho
    have := hb i (hlt i o ho)
    rw [ho] at this
    simp only [Bool.and_eq_true] at this
    obtain ⟨⟨h1, h0⟩, h2⟩ := this
    refine ⟨fun e he hbi => ?_, fun d hd => ?_, fun j p hj hp => ?_⟩
    · have := (Array.all_eq_true'.1 h1) e he
      rw [hbi] at this
      simpa using this
    · rw [hd] at h0
      simp only [Bool.and_eq_true] at h0
      obtain ⟨⟨h3, h4⟩, h5⟩ := h0
      refine ⟨fun hca u hu nm hnm => ?_, fun hlo u hu hne nm hnm => ?_, fun hn => ?_⟩
      · rw [hca] at h3
        simp only [Bool.not_true, Bool.false_or, List.all_eq_true] at h3
        exact List.contains_iff_mem.1 (h3 u hu nm hnm)
      · rw [hlo] at h4
        simp only [Bool.not_true, Bool.false_or, List.all_eq_true, Bool.or_eq_true] at h4
        rcases h4 u hu with h6 | h6
        · exact absurd (List.isEmpty_iff.1 h6) hne
        · exact List.contains_iff_mem.1 (h6 nm hnm)
      · rw [hn] at h5
        simp only [Bool.not_true, Bool.false_or, Bool.and_eq_true] at h5
        exact ⟨List.contains_iff_mem.1 h5.1, List.contains_iff_mem.1 h5.2⟩
    · simp only [List.all_eq_true, List.mem_range] at h2
      have := h2 j hj
      rw [hp] at this
      simp only [Bool.and_eq_true] at this
      obtain ⟨⟨h3, h4⟩, h5⟩ := this
      refine ⟨h3, fun hn => ?_, fun hn => ?_⟩
      · rw [hn] at h4; simpa using h4
      · rw [hn] at h5; simpa using h5
  refine ⟨fun i o ho d hd => ((key i o ho).2.1 d hd).1, fun i o ho d hd => ((key i o ho).2.1 d hd).2.1, fun i o ho d hd => ((key i o ho).2.1 d hd).2.2, fun i o ho => (key i o ho).1, fun i j o p hj ho hp => ?_, fun i j o p hne ho hp hn => ?_⟩
  · have := ((key i o ho).2.2 j p hj hp).1
    simp only [Bool.or_eq_true] at this
    rcases this with h1 | h1
    · exact .inl h1
    · exact .inr (pair_of h1)
  · rcases Nat.lt_or_ge j i with h1 | h1
    · exact ((key i o ho).2.2 j p h1 hp).2.1 hn
    · exact fun e => ((key j p hp).2.2 i o (by omega) ho).2.2 hn e.symm

/-- Nothing leads to a name that is still to be given. -/
def Inv (all : Array Oper) (l : List Nat) (s : St) : Prop := ∀ k ∈ l, ∀ o, all[k]? = some o → namerOp o = true → ∀ d, o.dst = some d → ¬ Leads s d

def wpLT (E : Env) (T : TypeId → Option TI) (n : Nat) (all : Array Oper) : List Nat → (St → Prop) → St → Prop
  | [], K, st => K st
  | i :: l, K, st => match all[i]? with
    | none => wpLT E T n all l K st
    | some o => stepO E T n all o (wpLT E T n all l K) st

theorem inv_step (hT : TOk P T) {na : Nat → List Nat} {A : List Nat} (hc : CommOk all na A) {i : Nat} {o : Oper} (ho : all[i]? = some o) {l : List Nat} (hi : i ∉ l) (hv : Inv all (i :: l) s) (hv2 : Inv2 na A s) {e : Ef} (h1 : gE E T all o (· = e) s) (h2 : runE n o.dst (· = s1) s e) : Inv all l s1 ∧ Inv2 na A s1 := by
  have sh := gshape hT h1
  obtain ⟨_, rfl⟩ := (runE_set sh (fun d hd hn => hv i (by simp) o ho hn d hd)).1 h2
  refine ⟨fun k hk o' ho' hn d hd hl => ?_, ⟨fun t nm hr => ?_, fun nm hl => ?_⟩⟩
  · have hne : k ≠ i := fun e => hi (by rw [← e]; exact hk)
    rcases leads_set sh hl with h | ⟨_, h⟩
    · exact hv k (by simp [hk]) o' ho' hn d hd h
    · exact hc.ne k i o' o (Ne.symm hne) ho' ho hn (by rw [hd, h])
  · simp only [setS] at hr
    cases hsup : e.sup o.dst with
    | none => rw [hsup] at hr; exact hv2.slot t nm hr
    | some p =>
      rw [hsup] at hr
      simp only at hr
      split at hr
      · rename_i ht
        have hd := sup_of hsup
        rw [ht]
        cases e with
        | put sv =>
          rw [hd] at hsup
          simp only [Ef.sup, Option.map_some, Option.some.injEq] at hsup
          rw [← hsup] at hr
          rcases sh.val sv rfl nm hr with ⟨q1, u, q2, q3⟩ | ⟨q1, ⟨u, q2, k, q3⟩, q4⟩
          · exact hc.carry i o ho p.1 hd q1 u q2 nm (hv2.slot u nm q3)
          · exact hc.load i o ho p.1 hd q1 u q2 (fun e => by have := hv2.slot u k q3; rw [e] at this; cases this) nm (hv2.all nm (.inr q4))
        | name blk sv =>
          rw [hd] at hsup
          simp only [Ef.sup, Option.map_some, Option.some.injEq] at hsup
          rw [← hsup] at hr
          obtain ⟨q1, q2, _⟩ := sh.name blk sv rfl
          rw [q2 p.1 nm hr]
          exact (hc.name i o ho p.1 hd q1).1
        | give k blk sv =>
          rw [hd] at hsup
          simp only [Ef.sup, Option.map_some, Option.some.injEq] at hsup
          rw [← hsup] at hr
          obtain ⟨q1, q2, _⟩ := sh.give k blk sv rfl
          rw [q2 p.1 nm hr]
          exact (hc.name i o ho p.1 hd q1).1
        | upd k blk => cases hsup
      · exact hv2.slot t nm hr
  · rcases leads_set sh hl with h | ⟨h, h'⟩
    · exact hv2.all nm h
    · exact (hc.name i o ho nm h' h).2

theorem bubble (hT : TOk P T) {na : Nat → List Nat} {A : List Nat} (hc : CommOk all na A) {i : Nat} {o : Oper} (ho : all[i]? = some o) {l2 : List Nat} : ∀ (l1 : List Nat) (s : St), (l1 ++ i :: l2).Nodup → (∀ j ∈ l1, j < i ∧ waits all o j = false ∧ j < all.size) → Inv all (l1 ++ i :: l2) s → Inv2 na A s →
    wpLT E T n all (l1 ++ i :: l2) K s → wpLT E T n all (i :: (l1 ++ l2)) K s
  | [], s, _, _, _, _, hk => hk
  | j :: l1, s, hnd, hl, hv, hv2, hk => by
    obtain ⟨hji, hjw, hjs⟩ := hl j (by simp)
    have hp : all[j]? = some all[j] := Array.getElem?_eq_getElem hjs
    simp only [List.cons_append, wpLT, hp] at hk
    obtain ⟨e1, s1, h1, r1, hk1⟩ := stepO_ex hk
    have hnd' := List.nodup_cons.1 (show (j :: (l1 ++ i :: l2)).Nodup from hnd)
    obtain ⟨hv1, hv21⟩ := inv_step hT hc hp hnd'.1 hv hv2 h1 r1
    have h3 := bubble hT hc ho l1 s1 hnd'.2 (fun k hk9 => hl k (List.mem_cons_of_mem _ hk9)) hv1 hv21 hk1
    simp only [wpLT, ho] at h3
    obtain ⟨e2, s2, h2, r2, hk2⟩ := stepO_ex h3
    rcases hc.pair i j o _ hji ho hp with h6 | h6
    · rw [hjw] at h6; cases h6
    · obtain ⟨s1', q1, q2, q3, q4⟩ := swap hT h6 hv2 (fun d hd hn => hv j (by simp) _ hp hn d hd) (fun d hd hn => hv i (by simp) o ho hn d hd) h1 r1 h2 r2
      simp only [List.cons_append, wpLT, ho, hp]
      exact stepO_in q1 q2 (stepO_in q3 q4 hk2)

theorem any_of_rest (hT : TOk P T) {na : Nat → List Nat} {A : List Nat} (hc : CommOk all na A) : ∀ (f : Nat) (rest : List Nat) (listed : Array Bool) (s : St), rest.length = f → listed.size = all.size → rest.Pairwise (· < ·) → (∀ i, i < all.size → (listed.getD i true = false ↔ i ∈ rest)) → (∀ i ∈ rest, i < all.size) → (∀ m o, all[m]? = some o → listed.getD m false = true → ∀ e ∈ o.after, Region.binds .any e = true → listed.getD e.on false = true) →
    Inv all rest s → Inv2 na A s → wpLT E T n all rest K s → wpAnyL E T n all f listed K s
  | 0, rest, listed, s, hl, hsz, hs, hm, hb, hcl, hv, hv2, hk => by
    obtain rfl : rest = [] := List.length_eq_zero_iff.1 hl
    refine ⟨?_, hk⟩
    unfold Region.ready
    rw [List.filter_eq_nil_iff]
    intro i hi
    have hi' := List.mem_range.1 hi
    have : listed.getD i true = true := by
      cases h9 : listed.getD i true with
      | true => rfl
      | false => exact absurd ((hm i hi').1 h9) (by simp)
    rw [this]; simp
  | f + 1, rest, listed, s, hl, hsz, hs, hm, hb, hcl, hv, hv2, hk => by
    have hready : ∀ i, i ∈ Region.ready .any all listed ↔ i < all.size ∧ i ∈ rest ∧ ∀ o, all[i]? = some o → ∀ e ∈ o.after, Region.binds .any e = true → listed.getD e.on false = true := by
      intro i
      unfold Region.ready
      rw [List.mem_filter, List.mem_range]
      constructor
      · rintro ⟨h1, h2⟩
        simp only [Bool.and_eq_true, Bool.not_eq_true'] at h2
        refine ⟨h1, (hm i h1).1 h2.1, fun o ho e he hbi => ?_⟩
        have h3 := h2.2
        rw [ho] at h3
        simp only [Option.map_some, Option.getD_some] at h3
        have := (Array.all_eq_true'.1 h3) e he
        rw [hbi] at this
        simpa using this
      · rintro ⟨h1, h2, h3⟩
        refine ⟨h1, ?_⟩
        simp only [Bool.and_eq_true, Bool.not_eq_true']
        refine ⟨(hm i h1).2 h2, ?_⟩
        rw [Array.getElem?_eq_getElem h1]
        simp only [Option.map_some, Option.getD_some]
        show (all[i].after.all (fun e => !Region.binds .any e || listed.getD e.on false)) = true
        rw [Array.all_eq_true']
        intro e he
        cases hbi : Region.binds .any e with
        | false => rfl
        | true => simpa using h3 _ (Array.getElem?_eq_getElem h1) e he hbi
    refine ⟨fun hnil => ?_, fun i hi => ?_⟩
    · exfalso
      cases rest with
      | nil => cases hl
      | cons i0 rest =>
        have : i0 ∈ Region.ready .any all listed := by
          rw [hready]
          refine ⟨hb i0 (by simp), by simp, fun o ho e he hbi => ?_⟩
          have hlt := hc.back i0 o ho e he hbi
          have hes : e.on < all.size := Nat.lt_trans hlt (hb i0 (by simp))
          have hnot : e.on ∉ i0 :: rest := by
            intro hin
            rcases List.mem_cons.1 hin with h1 | h1
            · omega
            · have := (List.pairwise_cons.1 hs).1 _ h1; omega
          have hgt : listed.getD e.on true = true := by
            cases h9 : listed.getD e.on true with
            | true => rfl
            | false => exact absurd ((hm _ hes).1 h9) hnot
          rw [Array.getD_eq_getD_getElem?, Array.getElem?_eq_getElem (by omega)] at hgt ⊢
          exact hgt
        rw [hnil] at this; cases this
    · obtain ⟨hi1, hi2, hi3⟩ := (hready i).1 hi
      obtain ⟨l1, l2, rfl⟩ := List.append_of_mem hi2
      have ho : all[i]? = some all[i] := Array.getElem?_eq_getElem hi1
      have hnd : (l1 ++ i :: l2).Nodup := hs.imp (fun h9 => Nat.ne_of_lt h9)
      have hpre : ∀ j ∈ l1, j < i ∧ waits all all[i] j = false ∧ j < all.size := by
        intro j hj
        have hji : j < i := (List.pairwise_append.1 hs).2.2 j hj i (by simp)
        have hjs : j < all.size := hb j (by simp [hj])
        have hjn : listed.getD j false = true → False := by
          intro h10
          have h11 := (hm j hjs).2 (by simp [hj])
          rw [Array.getD_eq_getD_getElem?, Array.getElem?_eq_getElem (by omega)] at h10 h11
          simp only [Option.getD_some] at h10 h11
          rw [h10] at h11; cases h11
        have hw1 : ∀ (m : Oper), (∀ e ∈ m.after, Region.binds .any e = true → listed.getD e.on false = true) → waits1 m j = false := by
          intro m hm9
          cases hw : waits1 m j with
          | false => rfl
          | true =>
            unfold waits1 at hw
            obtain ⟨e, he, h9⟩ := Array.any_eq_true'.1 hw
            simp only [Bool.and_eq_true, beq_iff_eq] at h9
            have h10 := hm9 e he h9.1
            rw [h9.2] at h10
            exact (hjn h10).elim
        refine ⟨hji, ?_, hjs⟩
        unfold waits
        rw [hw1 all[i] (fun e he hbi => hi3 _ ho e he hbi), Bool.false_or]
        cases hw : (all[i].after.any fun e => Region.binds .any e && (match all[e.on]? with | some m => waits1 m j | none => false)) with
        | false => rfl
        | true =>
          obtain ⟨e, he, h9⟩ := Array.any_eq_true'.1 hw
          simp only [Bool.and_eq_true] at h9
          obtain ⟨h9, h10⟩ := h9
          have h11 := hi3 _ ho e he h9
          split at h10
          · rename_i m hm9
            rw [hw1 m (fun e' he' hbi => hcl e.on m hm9 h11 e' he' hbi)] at h10
            cases h10
          · cases h10
      have h1 := bubble hT hc ho l1 s hnd hpre hv hv2 hk
      simp only [wpLT, ho] at h1
      obtain ⟨e, s1, h2, r2, h3⟩ := stepO_ex h1
      have hni : i ∉ l1 ++ l2 := by
        intro h9
        have h10 : (i :: (l1 ++ l2)).Nodup := (List.perm_middle.nodup_iff).1 hnd
        exact (List.nodup_cons.1 h10).1 h9
      obtain ⟨hv1, hv21⟩ := inv_step hT hc ho hni (fun k hk9 => hv k (by
        rcases List.mem_cons.1 hk9 with h9 | h9
        · simp [h9]
        · rcases List.mem_append.1 h9 with h9 | h9 <;> simp [h9])) hv2 h2 r2
      have hgo : wpAnyL E T n all f (listed.setIfInBounds i true) K s1 := by
        refine any_of_rest hT hc f (l1 ++ l2) _ s1 ?_ (by simp [hsz]) ?_ ?_ ?_ ?_ hv1 hv21 h3
        · simp only [List.length_append, List.length_cons] at hl ⊢; omega
        · exact hs.sublist (List.Sublist.append (List.Sublist.refl l1) (List.sublist_cons_self i l2))
        · intro k hks
          have hm9 := hm k hks
          by_cases hki : k = i
          · subst hki
            rw [Array.getD_eq_getD_getElem?, Array.getElem?_setIfInBounds_self_of_lt (by omega)]
            constructor
            · intro h9; cases h9
            · intro h9; exact absurd h9 hni
          · rw [Array.getD_eq_getD_getElem?, Array.getElem?_setIfInBounds_ne (Ne.symm hki), ← Array.getD_eq_getD_getElem?, hm9]
            simp [hki]
        · intro k hk9
          exact hb k (by rcases List.mem_append.1 hk9 with h9 | h9 <;> simp [h9])
        · intro m o' ho' hlm e he hbi
          have hset : ∀ k, (listed.setIfInBounds i true).getD k false = true ↔ k = i ∨ listed.getD k false = true := by
            intro k
            by_cases hki : k = i
            · subst hki
              rw [Array.getD_eq_getD_getElem?, Array.getElem?_setIfInBounds_self_of_lt (by omega)]
              simp
            · rw [Array.getD_eq_getD_getElem?, Array.getElem?_setIfInBounds_ne (Ne.symm hki), ← Array.getD_eq_getD_getElem?]
              simp [hki]
          rw [hset]
          rcases (hset m).1 hlm with h9 | h9
          · subst h9
            rw [ho] at ho'
            obtain rfl := Option.some.inj ho'
            exact .inr (hi3 _ ho e he hbi)
          · exact .inr (hcl m o' ho' h9 e he hbi)
      have hst : stepO E T n all all[i] (wpAnyL E T n all f (listed.setIfInBounds i true) K) s := stepO_in h2 r2 hgo
      refine ⟨s, Gho.refl n s, ?_⟩
      unfold wpI
      rw [ho]
      simp only
      unfold stepO gE at hst
      split at hst
      · rename_i c hgc
        rw [hgc]
        simp only
        split at hst
        · rename_i ht; rw [if_pos ht]; exact .inl hst
        · rename_i ht; rw [if_neg ht]; exact hst
      · exact hst.elim

/-- A region's operations in the order of the text, with no word of names that a call gives. -/
def wpT (E : Env) (T : TypeId → Option TI) (n : Nat) : List (Option Nat) → List Oper → (St → Prop) → St → Prop
  | _, [], K, st => K st
  | ds, o :: l, K, st => match guardD ds st o with
    | some c => if c = true then wpO E T n o (wpT E T n (ds ++ [o.dst]) l K) st else putK n o.dst (.tup []) (wpT E T n (ds ++ [o.dst]) l K) st
    | none => False

theorem L_of_T : ∀ (l : List Oper) (k : Nat) {s : St}, all.toList.drop k = l → wpT E T n ((all.toList.take k).map (·.dst)) l K s → wpLT E T n all (List.range' k l.length) K s
  | [], k, s, _, hw => hw
  | o :: l, k, s, hl, hw => by
    have hk : k < all.toList.length := by
      rcases Nat.lt_or_ge k all.toList.length with h | h
      · exact h
      · rw [List.drop_of_length_le h] at hl; cases hl
    have ho : all[k]? = some o := by
      have : (all.toList.drop k)[0]? = some o := by rw [hl]; rfl
      rw [List.getElem?_drop] at this
      simpa using this
    have hl2 : all.toList.drop (k + 1) = l := by rw [← List.drop_drop, hl]; rfl
    have ht2 : (all.toList.take (k + 1)).map (·.dst) = (all.toList.take k).map (·.dst) ++ [o.dst] := by
      rw [List.take_add_one, List.map_append]
      have : all.toList[k]? = some o := by simpa using ho
      rw [this]; rfl
    rw [List.length_cons, List.range'_succ]
    simp only [wpT] at hw
    simp only [wpLT, ho]
    have hnext : ∀ s', wpT E T n ((all.toList.take (k + 1)).map (·.dst)) l K s' → wpLT E T n all (List.range' (k + 1) l.length) K s' := fun s' hh => L_of_T l (k + 1) hl2 hh
    split at hw
    · rename_i c hc
      rw [← ht2] at hw
      unfold stepO gE
      rw [guardD_eq hc]
      simp only
      split at hw
      · rename_i ht; rw [if_pos ht]; exact wpE_mono (fun e he => runE_mono hnext he) hw
      · rename_i ht; rw [if_neg ht]; exact putK_mono2 hnext hw
    · exact hw.elim

theorem any_of_text (hT : TOk P T) {na : Nat → List Nat} {A : List Nat} (hb : commOk all na A = true) (hv : Inv all (List.range all.size) s) (hv2 : Inv2 na A s) (hw : wpT E T n [] all.toList K s) : wpAnyL E T n all all.size (Array.replicate all.size false) K s := by
  have h1 := L_of_T all.toList 0 (all := all) (by simp) hw
  rw [show all.toList.length = all.size by simp, ← List.range_eq_range'] at h1
  refine any_of_rest hT (comm_of hb) all.size (List.range all.size) _ s (by simp) (by simp) List.pairwise_lt_range (fun i hi => ?_) (fun i hi => List.mem_range.1 hi) (fun m o _ h => by
    rw [Array.getD_eq_getD_getElem?, Array.getElem?_replicate] at h
    split at h <;> cases h) hv hv2 h1
  rw [Array.getD_eq_getD_getElem?, Array.getElem?_replicate, if_pos hi]
  simp [hi]

def namerDst (o : Oper) : Option Nat := if namerOp o then o.dst else none
def namers (all : Array Oper) : List Nat := all.toList.filterMap namerDst

/-! ### where slots lead, as a table -/
mutual
def CV.names : CV → List Nat
  | .t _ => []
  | .own _ rows => namesRows rows
  | .mr k _ _ => [k]
  | .mp k _ _ => [k]
  | .mm k => [k]
  | .fnc _ a b => namesL a ++ namesL b
  | .ifc _ _ cs => namesL cs
  | .dead => []
def namesL : List CV → List Nat
  | [] => []
  | c :: r => c.names ++ namesL r
def namesRows : List (List CV) → List Nat
  | [] => []
  | r :: rs => namesL r ++ namesRows rs
end

def AV.names : AV → List Nat
  | .v x => x.names
  | .agg cs => namesL cs
def namesA : List AV → List Nat
  | [] => []
  | c :: r => c.names ++ namesA r
def SV.names : SV → List Nat
  | .undef => []
  | .c v => v.names
  | .agg cs => namesL cs
  | .tup vs => namesA vs
  | .fp _ => []

mutual
theorem CV.names_ok (nm : Nat) : ∀ (c : CV), c.has nm = true → nm ∈ c.names
  | .t _, h => by cases h
  | .own _ rows, h => namesRows_ok nm rows h
  | .mr k _ _, h => by simp only [CV.has, beq_iff_eq] at h; simp [CV.names, h]
  | .mp k _ _, h => by simp only [CV.has, beq_iff_eq] at h; simp [CV.names, h]
  | .mm k, h => by simp only [CV.has, beq_iff_eq] at h; simp [CV.names, h]
  | .fnc _ a b, h => by
    simp only [CV.has, Bool.or_eq_true] at h
    simp only [CV.names, List.mem_append]
    exact h.imp (namesL_ok nm a) (namesL_ok nm b)
  | .ifc _ _ cs, h => namesL_ok nm cs h
  | .dead, h => by cases h
theorem namesL_ok (nm : Nat) : ∀ (l : List CV), hasL nm l = true → nm ∈ namesL l
  | [], h => by cases h
  | c :: r, h => by
    simp only [hasL, Bool.or_eq_true] at h
    simp only [namesL, List.mem_append]
    exact h.imp (CV.names_ok nm c) (namesL_ok nm r)
theorem namesRows_ok (nm : Nat) : ∀ (l : List (List CV)), hasRows nm l = true → nm ∈ namesRows l
  | [], h => by cases h
  | c :: r, h => by
    simp only [hasRows, Bool.or_eq_true] at h
    simp only [namesRows, List.mem_append]
    exact h.imp (namesL_ok nm c) (namesRows_ok nm r)
end
theorem AV.names_ok (nm : Nat) (v : AV) (h : v.has nm = true) : nm ∈ v.names := by
  cases v with
  | v x => exact CV.names_ok nm x h
  | agg cs => exact namesL_ok nm cs h
theorem namesA_ok (nm : Nat) : ∀ (l : List AV), hasA nm l = true → nm ∈ namesA l
  | [], h => by cases h
  | c :: r, h => by
    simp only [hasA, Bool.or_eq_true] at h
    simp only [namesA, List.mem_append]
    exact h.imp (AV.names_ok nm c) (namesA_ok nm r)
theorem SV.names_ok {nm : Nat} {v : SV} (h : v.has nm = true) : nm ∈ v.names := by
  cases v with
  | undef => cases h
  | c v => exact CV.names_ok nm v h
  | agg cs => exact namesL_ok nm cs h
  | tup vs => exact namesA_ok nm vs h
  | fp _ => cases h

def naGet : List (Nat × List Nat) → Nat → List Nat
  | [], _ => []
  | (k, l) :: r, t => if t = k then l ++ naGet r t else naGet r t

def naInit : List (Nat × SV) → List (Nat × List Nat)
  | [] => []
  | (k, v) :: r => (k, v.names) :: naInit r

theorem naInit_ok : ∀ (l : List (Nat × SV)) (t nm : Nat), (ofL l t).has nm = true → nm ∈ naGet (naInit l) t
  | [], t, nm, h => by cases h
  | (k, v) :: r, t, nm, h => by
    simp only [ofL] at h
    simp only [naInit, naGet]
    split at h
    · rename_i e; rw [if_pos e]; exact List.mem_append_left _ (SV.names_ok h)
    · rename_i e; rw [if_neg e]; exact naInit_ok r t nm h

def naAdd (A : List Nat) : List Oper → List (Nat × List Nat) → List (Nat × List Nat)
  | [], na => na
  | o :: l, na => naAdd A l (match o.dst with
    | none => na
    | some d => (d, (if namerOp o then [d] else []) ++ (if carries o then (tmpsOf o).flatMap (naGet na) else []) ++ (if loads o then (if (tmpsOf o).all (fun u => (naGet na u).isEmpty) then [] else A) else [])) :: na)

theorem naAdd_ok (A : List Nat) : ∀ (l : List Oper) (na : List (Nat × List Nat)) (t nm : Nat), nm ∈ naGet na t → nm ∈ naGet (naAdd A l na) t
  | [], na, t, nm, h => h
  | o :: l, na, t, nm, h => by
    simp only [naAdd]
    refine naAdd_ok A l _ t nm ?_
    split
    · exact h
    · simp only [naGet]
      split
      · exact List.mem_append_right _ h
      · exact h

/-- A drawn region may be told in the order of its text. -/
def textOk (A : List Nat) (l : List Oper) (ls : List (Nat × SV)) : Bool :=
  commOk (List.toArray l) (naGet (naAdd A l (naInit ls))) A && ((namers (List.toArray l)).all fun d => ls.all fun p => !p.2.names.contains d) && ls.all fun p => p.2.names.all fun nm => A.contains nm

/-- Where the names' blocks lead. -/
def HeapIn (A ds : List Nat) : List (Nat × Blk) → Prop
  | [] => True
  | p :: r => ((∀ nm, p.2.has nm = true → nm ∈ A) ∧ ∀ d ∈ ds, p.2.has d = false) ∧ HeapIn A ds r

theorem HeapIn.mem {A ds : List Nat} : ∀ {hs : List (Nat × Blk)}, HeapIn A ds hs → ∀ {k : Nat} {b : Blk}, hL hs k = some b → (∀ nm, b.has nm = true → nm ∈ A) ∧ ∀ d ∈ ds, b.has d = false
  | (k0, v) :: r, h, k, b, hb => by
    simp only [hL] at hb
    split at hb
    · obtain rfl := Option.some.inj hb; exact h.1
    · exact HeapIn.mem h.2 hb

theorem ofL_mem : ∀ {l : List (Nat × SV)} {t nm : Nat}, (ofL l t).has nm = true → ∃ p ∈ l, p.2.has nm = true
  | (k, v) :: r, t, nm, h => by
    simp only [ofL] at h
    split at h
    · exact ⟨(k, v), by simp, h⟩
    · obtain ⟨p, h1, h2⟩ := ofL_mem h; exact ⟨p, by simp [h1], h2⟩

variable {Q : Exit → St → Prop}
/-- A drawn region, in the order of its text. -/
theorem s_text (hT : TOk P T) (A : List Nat) {id : Nat} {l : List Oper} {ls : List (Nat × SV)} {hs : List (Nat × Blk)} (hc : textOk A l ls = true) (hh : HeapIn A (namers (List.toArray l)) hs) (hx : ∀ K : St → Prop, (∀ st, Q .normal st → K st) → wpT E T n [] l K (mk ls hs)) : wpCode E T n (.region id (List.toArray l) true) Q (mk ls hs) := by
  unfold textOk at hc
  simp only [Bool.and_eq_true, List.all_eq_true, Bool.not_eq_true'] at hc
  obtain ⟨⟨h1, h2⟩, h3⟩ := hc
  show wpAnyL E T n _ _ _ _ _
  refine any_of_text hT h1 (fun k _ o ho hn d hd hl => ?_) ⟨fun t nm hr => naAdd_ok A l _ t nm (naInit_ok ls t nm hr), fun nm hl => ?_⟩ (hx _ (fun _ h => h))
  · have hdm : d ∈ namers (List.toArray l) := by
      refine List.mem_filterMap.2 ⟨o, ?_, by unfold namerDst; rw [if_pos hn, hd]⟩
      have : (List.toArray l).toList[k]? = some o := by simpa using ho
      exact List.mem_of_getElem? this
    rcases hl with ⟨t, ht⟩ | ⟨k', b, hb, hn'⟩
    · obtain ⟨p, hp, hpn⟩ := ofL_mem (show (ofL ls t).has d = true from ht)
      have := h2 d hdm p hp
      rw [List.contains_iff_mem.2 (SV.names_ok hpn)] at this
      cases this
    · rw [(hh.mem (show hL hs k' = some b from hb)).2 d hdm] at hn'
      cases hn'
  · rcases hl with ⟨t, ht⟩ | ⟨k', b, hb, hn'⟩
    · obtain ⟨p, hp, hpn⟩ := ofL_mem (show (ofL ls t).has nm = true from ht)
      exact List.contains_iff_mem.1 (h3 p hp nm (SV.names_ok hpn))
    · exact (hh.mem (show hL hs k' = some b from hb)).1 nm hn'

theorem t_nil {ds : List (Option Nat)} (hk : K s) : wpT E T n ds [] K s := hk
theorem t_op {ds : List (Option Nat)} {o : Oper} {l : List Oper}
    (hx : ∀ K' : St → Prop, (∀ st, wpT E T n (ds ++ [o.dst]) l K st → K' st) → match guardD ds s o with | some c => if c = true then wpO E T n o K' s else putK n o.dst (.tup []) K' s | none => False) : wpT E T n ds (o :: l) K s := hx _ (fun _ h => h)
end
end Go.Proofs.Ytgmjgognpabmdaa.Fx
