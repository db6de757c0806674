/- What fusion by places comes to: sums that know no order. -/
import Derived.Test.YtgmjgognpabmdaaFxRank
namespace Go.Proofs.Ytgmjgognpabmdaa.Fx
open Go Go.RowKit
set_option linter.unusedSimpArgs false
set_option linter.unusedVariables false
theorem perm_of_mem {α : Type} : ∀ {a b : List α}, a.Nodup → b.Nodup → (∀ x, x ∈ a ↔ x ∈ b) → a.Perm b
  | [], b, _, _, h => by
    cases b with
    | nil => exact List.Perm.refl _
    | cons y b => exact absurd ((h y).2 (by simp)) (by simp)
  | x :: a, b, ha, hb, h => by
    obtain ⟨s, t, rfl⟩ := List.append_of_mem ((h x).1 (by simp))
    rw [List.nodup_cons] at ha
    have hb' := (List.perm_middle (a := x) (l₁ := s) (l₂ := t)).nodup_iff.1 hb
    rw [List.nodup_cons] at hb'
    refine ((perm_of_mem ha.2 hb'.2 fun y => ?_).cons x).trans List.perm_middle.symm
    have := h y
    simp only [List.mem_cons, List.mem_append] at this ⊢
    constructor
    · intro hy
      rcases this.1 (.inr hy) with h1 | h1 | h1
      · exact .inl h1
      · subst h1; exact absurd hy ha.1
      · exact .inr h1
    · intro hy
      rcases this.2 (by rcases hy with h1 | h1; exact .inl h1; exact .inr (.inr h1)) with h1 | h1
      · subst h1; exact absurd (by simpa using hy) hb'.1
      · exact h1
theorem mem_hits {m : IM} (hn : (m.map (·.1)).Nodup) (i v : Int) : (i, v) ∈ hits m ↔ mget m i = some v := by
  induction m with
  | nil => simp [hits, mget, pfind]
  | cons x m ih =>
    rw [List.map_cons, List.nodup_cons] at hn
    have ih' := ih hn.2
    rw [mget_cons]
    simp only [hits, List.map_cons, List.mem_cons] at ih' ⊢
    by_cases h : i = x.1
    · rw [if_pos h]
      constructor
      · rintro (h1 | h1)
        · rw [(Prod.mk.inj h1).2]
        · have : i ∈ m.map (·.1) := by
            obtain ⟨y, hy, he⟩ := List.mem_map.1 h1
            exact List.mem_map.2 ⟨y, hy, (Prod.mk.inj he).1⟩
          exact absurd (h ▸ this) hn.1
      · intro h1
        left
        rw [← Option.some.inj h1, h]
    · rw [if_neg h, ← ih']
      constructor
      · rintro (h1 | h1)
        · exact absurd (Prod.mk.inj h1).1 h
        · exact h1
      · exact .inr
theorem nodup_map {α β : Type} {f : α → β} : ∀ {l : List α}, (l.map f).Nodup → l.Nodup
  | [], _ => List.nodup_nil
  | x :: l, h => by
    rw [List.map_cons, List.nodup_cons] at h
    rw [List.nodup_cons]
    exact ⟨fun hx => h.1 (List.mem_map.2 ⟨x, hx, rfl⟩), nodup_map h.2⟩
theorem hits_nodup {m : IM} (hn : (m.map (·.1)).Nodup) : (hits m).Nodup := by
  have : (hits m).map (·.1) = m.map (·.1) := by simp [hits]
  rw [← this] at hn
  exact nodup_map hn
theorem hits_eq {m m' : IM} (h : (m.map (·.1)).Nodup) (h' : (m'.map (·.1)).Nodup) (he : ∀ i, mget m i = mget m' i) : (hits m).Perm (hits m') :=
  perm_of_mem (hits_nodup h) (hits_nodup h') fun x => by
    obtain ⟨i, v⟩ := x
    rw [mem_hits h, mem_hits h', he]
/-- What a ranking adds to an id's sum. -/
def ctr (l : List Ht) (i : Int) : Option Nat := (l.findIdx? fun z => z.1 == i).map fun p => 1048576 / (61 + p)
theorem ctr_snoc (l : List Ht) (z : Ht) (i : Int) : ctr (l ++ [z]) i = match ctr l i with
    | some q => some q
    | none => if z.1 = i then some (1048576 / (61 + l.length)) else none := by
  unfold ctr
  rw [List.findIdx?_append]
  cases h : l.findIdx? fun z => z.1 == i with
  | some p => simp
  | none =>
    by_cases hz : z.1 = i <;> simp [hz]
theorem ctr_some {l : List Ht} {i : Int} : (ctr l i).isSome = true ↔ ∃ z ∈ l, z.1 = i := by
  unfold ctr
  rw [Option.isSome_map, List.findIdx?_isSome, List.any_eq_true]
  simp
theorem wrap_add (a b : Int) : IntKind.wrap .i64 (IntKind.wrap .i64 a + b) = IntKind.wrap .i64 (a + b) := by
  simp only [IntKind.wrap_i64]; omega
def addO (a : Option Int) (q : Option Nat) : Option Int :=
  match q with
  | some q => some (IntKind.wrap .i64 (a.getD 0 + q))
  | none => a
theorem go_laws (s : ES) (hs : s.sm = []) (l : List Ht) : ∀ k, k ≤ l.length → (∀ i, mval false (s.go l k).sm i = (ctr (l.take k) i).isSome) ∧ ∀ i, mget (s.go l k).mm i = addO (mget s.mm i) (ctr (l.take k) i)
  | 0, _ => by
    refine ⟨fun i => ?_, fun i => ?_⟩
    · rw [ES.go, hs]; simp [mval, pfind, ctr]
    · rw [ES.go]; simp [ctr, addO]
  | k + 1, hk => by
    obtain ⟨h1, h2⟩ := go_laws s hs l k (by omega)
    have hz : l.getD k (0, 0) = l[k] := by rw [List.getD_eq_getElem?_getD, get_of_lt (by omega)]; rfl
    have hlen : (l.take k).length = k := by rw [List.length_take]; omega
    rw [List.take_succ_eq_append_getElem (by omega), ES.go, hz]
    generalize l[k] = z
    generalize s.go l k = t at *
    unfold ES.step
    have h1z := h1 z.1
    by_cases hv : mval false t.sm z.1 = true
    · rw [if_pos hv]
      rw [hv] at h1z
      have key : ∀ i, ctr (l.take k ++ [z]) i = ctr (l.take k) i := fun i => by
        rw [ctr_snoc]
        cases hc : ctr (l.take k) i with
        | some q => rfl
        | none =>
          simp only
          rw [if_neg]
          intro e
          rw [← e] at hc
          rw [hc] at h1z; cases h1z
      exact ⟨fun i => by rw [key]; exact h1 i, fun i => by rw [key]; exact h2 i⟩
    · rw [if_neg hv]
      rw [Bool.not_eq_true] at hv
      rw [hv] at h1z
      have hcz : ctr (l.take k) z.1 = none := by
        cases hc : ctr (l.take k) z.1 with
        | none => rfl
        | some q => rw [hc] at h1z; cases h1z
      refine ⟨fun i => ?_, fun i => ?_⟩
      · rw [mval_get, mget_mset, ctr_snoc]
        by_cases hi : i = z.1
        · subst hi; rw [if_pos rfl, hcz]; simp
        · rw [if_neg hi, ← mval_get, h1 i]
          cases hc : ctr (l.take k) i with
          | some q => rfl
          | none => simp only; rw [if_neg (fun e => hi e.symm)]
      · rw [mget_mset, ctr_snoc]
        by_cases hi : i = z.1
        · subst hi
          rw [if_pos rfl, hcz, mval_get, h2 z.1, hcz]
          simp only [addO, if_true]
          rw [hlen, show 61 + k = 60 + (k + 1) by omega]
        · rw [if_neg hi, h2 i]
          cases hc : ctr (l.take k) i with
          | some q => rfl
          | none => simp only; rw [if_neg (fun e => hi e.symm)]
/-- An id's sum over rankings. -/
def tsum (ls : List (List Ht)) (i : Int) : Nat := (ls.map fun l => (ctr l i).getD 0).sum
def tsome (ls : List (List Ht)) (i : Int) : Bool := ls.any fun l => (ctr l i).isSome
theorem tsome_snoc (A : List (List Ht)) (b : List Ht) (i : Int) : tsome (A ++ [b]) i = (tsome A i || (ctr b i).isSome) := by simp [tsome]
theorem tsum_snoc (A : List (List Ht)) (b : List Ht) (i : Int) : tsum (A ++ [b]) i = tsum A i + (ctr b i).getD 0 := by simp [tsum]
theorem all_sem (ls : List (List Ht)) (i : Int) : ∀ k, k ≤ ls.length → mget (es0.all ls k).mm i = if tsome (ls.take k) i = true then some (IntKind.wrap .i64 (tsum (ls.take k) i)) else none
  | 0, _ => by simp [ES.all, es0, mget, pfind, tsome]
  | k + 1, hk => by
    have ih := all_sem ls i k (by omega)
    have e : ls.getD k [] = ls[k] := by rw [List.getD_eq_getElem?_getD, get_of_lt (by omega)]; rfl
    rw [ES.all, e]
    rw [(go_laws ⟨(es0.all ls k).cs, [], (es0.all ls k).cm, (es0.all ls k).mm⟩ rfl ls[k] ls[k].length (Nat.le_refl _)).2 i]
    simp only
    rw [ih, List.take_length, List.take_succ_eq_append_getElem (by omega)]
    rw [tsome_snoc, tsum_snoc]
    cases hc : ctr ls[k] i with
    | none => simp [addO]
    | some q =>
      cases ht : tsome (ls.take k) i with
      | true =>
        simp only [addO, if_true, Option.getD_some, Option.isSome, Bool.or_true]
        rw [wrap_add]; simp
      | false =>
        have h0 : tsum (ls.take k) i = 0 := by
          unfold tsum
          unfold tsome at ht
          rw [List.any_eq_false] at ht
          rw [List.sum_eq_zero_iff_forall_eq_nat] 
          intro x hx
          obtain ⟨l, hl, rfl⟩ := List.mem_map.1 hx
          have := ht l hl
          cases hq : ctr l i with
          | none => rfl
          | some q => rw [hq] at this; simp at this
        simp only [addO, Bool.false_eq_true, if_false, Option.getD_none, Option.getD_some, Option.isSome, Bool.or_true, if_true]
        rw [h0]; simp
theorem rank_perm {ls ls' : List (List Ht)} (h : ls.Perm ls') : hsort 2 (hits (es0.all ls ls.length).mm) = hsort 2 (hits (es0.all ls' ls'.length).mm) := by
  refine hsort_congr rfl (hits_eq (all_wf ls ls.length (Nat.le_refl _)).1.keys (all_wf ls' ls'.length (Nat.le_refl _)).1.keys fun i => ?_)
  rw [all_sem ls i _ (Nat.le_refl _), all_sem ls' i _ (Nat.le_refl _), List.take_length, List.take_length]
  have e1 : tsome ls i = tsome ls' i := by
    rw [Bool.eq_iff_iff]
    simp only [tsome, List.any_eq_true, h.mem_iff]
  have e2 : tsum ls i = tsum ls' i := (h.map _).sum_nat
  rw [e1, e2]
end Go.Proofs.Ytgmjgognpabmdaa.Fx
