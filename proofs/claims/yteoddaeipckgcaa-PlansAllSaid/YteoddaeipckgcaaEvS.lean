import Derived.Test.YteoddaeipckgcaaEvR
import Derived.Test.YteoddaeipckgcaaEv17
namespace Go.Proofs.Yteoddaeipckgcaa.Ev
open Go Go.RowKit
set_option linter.unusedSimpArgs false
set_option linter.unusedVariables false
section
variable {E : Env} {T : TypeId → Option TI} {h : Hint} {Q : Exit → St → Prop} {st : St}

def noRefA (d : Nat) : List (Nat × SV) → Bool
  | [] => true
  | (_, v) :: r => !v.refs d && noRefA d r

theorem noRefA_ok (l : List (Nat × SV)) (d : Nat) (hl : noRefA d l = true) (t : Nat) : (ofL l t).refs d = false := by
  induction l with
  | nil => rfl
  | cons p r ih =>
    obtain ⟨k, v⟩ := p
    simp only [noRefA, Bool.and_eq_true, Bool.not_eq_true'] at hl
    simp only [ofL]
    split
    · exact hl.1
    · exact ih hl.2

def nameOf : SV → List Nat
  | .mr k _ _ | .mp k _ _ => [k]
  | _ => []

theorem nameOf_ok {v : SV} {nm : Nat} (hr : v.refs nm = true) : nm ∈ nameOf v := by
  cases v <;> simp_all [nameOf, SV.refs]

def naGet : List (Nat × List Nat) → Nat → List Nat
  | [], _ => []
  | (k, l) :: r, t => if t = k then l ++ naGet r t else naGet r t

def naInit : List (Nat × SV) → List (Nat × List Nat)
  | [] => []
  | (k, v) :: r => (k, nameOf v) :: naInit r

theorem naInit_ok : ∀ (l : List (Nat × SV)) (t nm : Nat), (ofL l t).refs nm = true → nm ∈ naGet (naInit l) t
  | [], t, nm, h => by cases h
  | (k, v) :: r, t, nm, h => by
    simp only [ofL] at h
    simp only [naInit, naGet]
    split at h
    · rename_i e; rw [if_pos e]; exact List.mem_append_left _ (nameOf_ok h)
    · rename_i e; rw [if_neg e]; exact naInit_ok r t nm h

def naAdd : List Oper → List (Nat × List Nat) → List (Nat × List Nat)
  | [], na => na
  | o :: l, na => naAdd l (match o.dst with
    | none => na
    | some d => (d, (if namerOp o then [d] else []) ++ (if carries o then (tmpsOf o).flatMap (naGet na) else [])) :: na)

theorem naAdd_ok : ∀ (l : List Oper) (na : List (Nat × List Nat)) (t nm : Nat), nm ∈ naGet na t → nm ∈ naGet (naAdd l na) t
  | [], na, t, nm, h => h
  | o :: l, na, t, nm, h => by
    simp only [naAdd]
    refine naAdd_ok l _ t nm ?_
    split
    · exact h
    · simp only [naGet]
      split
      · exact List.mem_append_right _ h
      · exact h

/-- A drawn region may be told in the order of its text. -/
def textOk (h : Hint) (l : List Oper) (ls : List (Nat × SV)) : Bool :=
  commOk h (List.toArray l) (naGet (naAdd l (naInit ls))) && (namers (List.toArray l)).all fun d => noRefA d ls

/-- A drawn region, in the order of its text. -/
theorem s_text {id : Nat} {l : List Oper} {ls : List (Nat × SV)} {hs : List (Nat × Blk)} (hc : textOk h l ls = true) (hx : ∀ K : St → Prop, (∀ st, Q .normal st → K st) → wpS E T h [] l K (mk ls hs)) : wpCode E T h (.region id (List.toArray l) true) Q (mk ls hs) := by
  unfold textOk at hc
  simp only [Bool.and_eq_true, List.all_eq_true] at hc
  show wpAnyL E T h _ _ _ _ _
  refine any_of_text hc.1 (inv_of (fun d hd t => ?_)) (fun t nm hr => ?_) (hx _ (fun _ h => h))
  · rw [mk_slots]; exact noRefA_ok ls d (hc.2 d hd) t
  · exact naAdd_ok l _ t nm (naInit_ok ls t nm hr)
end
theorem noRef_t (l : List (Nat × SV)) (h : List (Nat × Blk)) (d : Nat) (hl : noRefL d l = true) : (∀ t, t ≠ d → ((mk l h).slots t).refs d = false) = True := eq_true (noRef_mk l h d hl)
end Go.Proofs.Yteoddaeipckgcaa.Ev
