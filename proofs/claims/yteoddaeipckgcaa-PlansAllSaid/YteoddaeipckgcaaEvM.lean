import Derived.Test.YteoddaeipckgcaaEv15
namespace Go.Proofs.Yteoddaeipckgcaa.Ev
open Go Go.RowKit
set_option linter.unusedSimpArgs false
set_option linter.unusedVariables false
section
variable {E : Env} {T : TypeId → Option TI} {h : Hint} {K : St → Prop} {s : St}

theorem putK_det {n : Nat} {dst : Option Nat} {sv : SV} (hk : putK n dst sv K s) : ∃ s', putK n dst sv (· = s') s ∧ K s' := by
  cases dst with
  | none => exact ⟨s, rfl, hk⟩
  | some d =>
    simp only [putK] at hk ⊢
    split at hk
    · rename_i hd; exact ⟨_, by rw [if_pos hd], hk⟩
    · exact hk.elim

theorem nameK_det {n : Nat} {dst : Option Nat} {blk : Blk} {sv : Nat → SV} (hk : nameK n dst blk sv K s) : ∃ s', nameK n dst blk sv (· = s') s ∧ K s' := by
  cases dst with
  | none => exact hk.elim
  | some d =>
    simp only [nameK] at hk ⊢
    split at hk
    · rename_i hd; exact ⟨_, by rw [if_pos hd]; exact ⟨hk.1, rfl⟩, hk.2⟩
    · exact hk.elim

theorem appendK_det {n : Nat} {dst : Option Nat} {x y : Operand} {t t2 : TypeId} : appendK T n dst x y t t2 K s → ∃ s', appendK T n dst x y t t2 (· = s') s ∧ K s' := by
  unfold appendK
  split
  · split
    · split
      · split
        · exact fun hk => ⟨_, ⟨hk.1, rfl⟩, hk.2⟩
        · exact fun hk => hk.elim
      · exact fun hk => hk.elim
    · exact fun hk => hk.elim
  · exact fun hk => hk.elim

theorem callK_det {n : Nat} {dst : Option Nat} {f : FuncId} {args : List Operand} {types : List TypeId} : callK E T n dst f args types K s → ∃ s', callK E T n dst f args types (· = s') s ∧ K s' := by
  unfold callK
  split
  · rintro ⟨res, h1, h2, h3⟩
    obtain ⟨s', h4, h5⟩ := putK_det h3
    exact ⟨s', ⟨res, h1, h2, h4⟩, h5⟩
  · exact fun hk => hk.elim

theorem quietK_det {st : St} {o : Oper} : (match quiet T st o with | some sv => putK h.n o.dst sv K s | none => False) → ∃ s', (match quiet T st o with | some sv => putK h.n o.dst sv (· = s') s | none => False) ∧ K s' := by
  split
  · exact putK_det
  · exact fun hk => hk.elim

theorem wpOp_det {o : Oper} : wpOp E T h o K s → ∃ s', wpOp E T h o (· = s') s ∧ K s' := by
  unfold wpOp
  split
  · split
    · split
      · exact nameK_det
      · exact fun hk => hk.elim
    · exact fun hk => hk.elim
  · split
    · split
      · exact nameK_det
      · exact fun hk => hk.elim
    · exact fun hk => hk.elim
  · split
    · split
      · split
        · split
          · rintro ⟨h1, h2⟩
            obtain ⟨s', h3, h4⟩ := nameK_det h2
            exact ⟨s', ⟨h1, h3⟩, h4⟩
          · exact fun hk => hk.elim
        · exact fun hk => hk.elim
      · exact fun hk => hk.elim
    · exact fun hk => hk.elim
  · split
    · split
      · split
        · split
          · split
            · exact putK_det
            · exact fun hk => hk.elim
          · exact fun hk => hk.elim
        · exact fun hk => hk.elim
      · exact fun hk => hk.elim
    · exact fun hk => hk.elim
  · split
    · split
      · split
        · split
          · split
            · split
              · exact fun hk => ⟨_, rfl, hk⟩
              · exact fun hk => hk.elim
            · exact fun hk => ⟨_, rfl, hk⟩
          · exact fun hk => hk.elim
        · exact fun hk => hk.elim
      · exact fun hk => hk.elim
    · exact fun hk => hk.elim
  · split
    · split
      · split
        · split
          · exact fun hk => ⟨_, rfl, hk⟩
          · exact fun hk => hk.elim
        · exact fun hk => hk.elim
      · exact quietK_det
    · exact fun hk => ⟨_, rfl, hk⟩
  · split
    · split
      · split
        · split
          · exact fun hk => ⟨_, rfl, hk⟩
          · exact fun hk => hk.elim
        · exact fun hk => hk.elim
      · exact quietK_det
    · exact fun hk => ⟨_, rfl, hk⟩
  · split
    · split
      · split
        · split
          · split
            · split
              · split
                · exact fun hk => ⟨_, rfl, hk⟩
                · exact fun hk => hk.elim
              · exact fun hk => hk.elim
            · exact fun hk => hk.elim
          · exact fun hk => hk.elim
        · exact fun hk => hk.elim
      · exact quietK_det
    · exact fun hk => hk.elim
  · split
    · exact callK_det
    · split
      · exact appendK_det
      · exact fun hk => hk.elim
    · exact quietK_det
  · exact quietK_det

theorem putK_mono {n : Nat} {dst : Option Nat} {sv : SV} {K' : St → Prop} (hi : ∀ s, K s → K' s) (hk : putK n dst sv K s) : putK n dst sv K' s := by
  obtain ⟨s', h1, h2⟩ := putK_det hk
  cases dst with
  | none => exact hi _ hk
  | some d =>
    simp only [putK] at hk ⊢
    split at hk
    · rename_i hd; rw [if_pos hd]; exact hi _ hk
    · exact hk.elim

theorem nameK_mono {n : Nat} {dst : Option Nat} {blk : Blk} {sv : Nat → SV} {K' : St → Prop} (hi : ∀ s, K s → K' s) (hk : nameK n dst blk sv K s) : nameK n dst blk sv K' s := by
  cases dst with
  | none => exact hk.elim
  | some d =>
    simp only [nameK] at hk ⊢
    split at hk
    · rename_i hd; rw [if_pos hd]; exact ⟨hk.1, hi _ hk.2⟩
    · exact hk.elim

theorem wpOp_mono' {o : Oper} {K' : St → Prop} (hi : ∀ s, K s → K' s) : wpOp E T h o K s → wpOp E T h o K' s := by
  have hq : ∀ {st : St}, (match quiet T st o with | some sv => putK h.n o.dst sv K s | none => False) → (match quiet T st o with | some sv => putK h.n o.dst sv K' s | none => False) := by
    intro st
    split
    · exact putK_mono hi
    · exact fun hk => hk
  unfold wpOp
  split
  · split
    · split
      · exact nameK_mono hi
      · exact fun hk => hk
    · exact fun hk => hk
  · split
    · split
      · exact nameK_mono hi
      · exact fun hk => hk
    · exact fun hk => hk
  · split
    · split
      · split
        · split
          · exact fun hk => ⟨hk.1, nameK_mono hi hk.2⟩
          · exact fun hk => hk
        · exact fun hk => hk
      · exact fun hk => hk
    · exact fun hk => hk
  · split
    · split
      · split
        · split
          · split
            · exact putK_mono hi
            · exact fun hk => hk
          · exact fun hk => hk
        · exact fun hk => hk
      · exact fun hk => hk
    · exact fun hk => hk
  · split
    · split
      · split
        · split
          · split
            · split
              · exact hi _
              · exact fun hk => hk
            · exact hi _
          · exact fun hk => hk
        · exact fun hk => hk
      · exact fun hk => hk
    · exact fun hk => hk
  · split
    · split
      · split
        · split
          · exact hi _
          · exact fun hk => hk
        · exact fun hk => hk
      · exact hq
    · exact hi _
  · split
    · split
      · split
        · split
          · exact hi _
          · exact fun hk => hk
        · exact fun hk => hk
      · exact hq
    · exact hi _
  · split
    · split
      · split
        · split
          · split
            · split
              · split
                · exact hi _
                · exact fun hk => hk
              · exact fun hk => hk
            · exact fun hk => hk
          · exact fun hk => hk
        · exact fun hk => hk
      · exact hq
    · exact fun hk => hk
  · split
    · unfold callK
      split
      · exact fun ⟨res, h1, h2, h3⟩ => ⟨res, h1, h2, putK_mono hi h3⟩
      · exact fun hk => hk
    · split
      · unfold appendK
        split
        · split
          · split
            · split
              · exact fun hk => ⟨hk.1, hi _ hk.2⟩
              · exact fun hk => hk
            · exact fun hk => hk
          · exact fun hk => hk
        · exact fun hk => hk
      · exact fun hk => hk
    · exact hq
  · exact hq

theorem wpI_mono {all : Array Oper} {i : Nat} {K' : St → Prop} (hi : ∀ s, K s → K' s) : wpI E T h all i K s → wpI E T h all i K' s := by
  unfold wpI
  split
  · exact hi _
  · split
    · split
      · exact wpOp_mono' hi
      · exact putK_mono hi
    · exact fun hk => hk

theorem wpI_det {all : Array Oper} {i : Nat} : wpI E T h all i K s → ∃ s', wpI E T h all i (· = s') s ∧ K s' := by
  unfold wpI
  split
  · exact fun hk => ⟨_, rfl, hk⟩
  · split
    · split
      · exact wpOp_det
      · exact putK_det
    · exact fun hk => hk.elim

theorem wpS_mono {K' : St → Prop} (hi : ∀ s, K s → K' s) : ∀ (l : List Oper) (ds : List (Option Nat)) (s : St), wpS E T h ds l K s → wpS E T h ds l K' s
  | [], ds, s, hk => hi _ hk
  | o :: l, ds, s, hk => by
    simp only [wpS] at hk ⊢
    split at hk
    · split at hk
      · rename_i hc; simp only [hc, if_true]; exact wpOp_mono' (wpS_mono hi l _) hk
      · rename_i hc; simp only [hc, if_false]; exact putK_mono (wpS_mono hi l _) hk
    · exact hk.elim

theorem wpAnyL_mono {all : Array Oper} {K' : St → Prop} (hi : ∀ s, K s → K' s) : ∀ (f : Nat) (listed : Array Bool) (s : St), wpAnyL E T h all f listed K s → wpAnyL E T h all f listed K' s
  | 0, listed, s, hk => ⟨hk.1, hi _ hk.2⟩
  | f + 1, listed, s, hk => ⟨fun he => hi _ (hk.1 he), fun i hr => wpI_mono (wpAnyL_mono hi f _) (hk.2 i hr)⟩

theorem wpCode_mono : ∀ (c : Code) {Q Q' : Exit → St → Prop} (hi : ∀ e s, Q e s → Q' e s) {s : St}, wpCode E T h c Q s → wpCode E T h c Q' s
  | .skip, Q, Q', hi, s, hk => hi _ _ hk
  | .region id ops draw, Q, Q', hi, s, hk => by
    cases draw with
    | true => exact wpAnyL_mono (hi _) _ _ _ hk
    | false => exact wpS_mono (hi _) _ _ _ hk
  | .seq x y, Q, Q', hi, s, hk => wpCode_mono x (fun e s hq => by
      cases e with
      | normal => obtain ⟨k, hq⟩ := hq; exact ⟨k, wpCode_mono y hi hq⟩
      | _ => exact hi _ _ hq) hk
  | .cond c x y, Q, Q', hi, s, hk => by
    simp only [wpCode] at hk ⊢
    split at hk
    · split at hk
      · rename_i hb; rw [if_pos hb]; exact wpCode_mono x hi hk
      · rename_i hb; rw [if_neg hb]; exact wpCode_mono y hi hk
    · exact hk.elim
  | .block id x, Q, Q', hi, s, hk => wpCode_mono x (fun e s hq => by
      cases e with
      | exit id' =>
        simp only at hq ⊢
        split at hq
        · rename_i he; rw [if_pos he]; exact hi _ _ hq
        · rename_i he; rw [if_neg he]; exact hi _ _ hq
      | _ => exact hi _ _ hq) hk
  | .loop x, Q, Q', hi, s, hk => by
    obtain ⟨ts, ns, σ, I, μ, h0, hr⟩ := hk
    exact ⟨ts, ns, σ, I, μ, h0, fun s st hI => wpCode_mono x (fun e s hq => by
      cases e with
      | normal => exact hq
      | _ => exact hi _ _ hq) (hr s st hI)⟩
  | .exit id, Q, Q', hi, s, hk => hi _ _ hk
  | .ret, Q, Q', hi, s, hk => hi _ _ hk
  | .rangeFunc .., _, _, _, _, hk => hk.elim
  | .scope _, _, _, _, _, hk => hk.elim
  | .label _, _, _, _, _, hk => hk.elim
  | .goto _, _, _, _, _, hk => hk.elim
  | .refuse _, _, _, _, _, hk => hk.elim
end
end Go.Proofs.Yteoddaeipckgcaa.Ev
