import Derived.Test.YteoddaeipckgcaaEvO
namespace Go.Proofs.Yteoddaeipckgcaa.Ev
open Go Go.RowKit
set_option linter.unusedSimpArgs false
set_option linter.unusedVariables false
section
variable {E : Env} {T : TypeId → Option TI} {h : Hint} {K : St → Prop} {s s' : St}

theorem AV.sv_refs (v : AV) (nm : Nat) : v.sv.refs nm = false := by cases v <;> rfl

theorem quiet_refs {o : Oper} {sv : SV} (hq : quiet T s o = some sv) {nm : Nat} (hr : sv.refs nm = true) : ∃ t ∈ tmpsOf o, (s.slots t).refs nm = true := by
  have hx : ∀ x ∈ o.op.operands.toList, ∀ ty, (rd T s ty x).refs nm = true → ∃ t ∈ tmpsOf o, (s.slots t).refs nm = true := fun x hx ty h => rd_refs hx h
  obtain ⟨dst, op, type, pos, after, guard⟩ := o
  simp only at hx
  unfold quiet at hq
  simp only at hq
  cases op with
  | move x => simp only [Option.some.injEq] at hq; subst hq; exact hx x (by simp [Op.operands]) _ hr
  | assign x => simp only [Option.some.injEq] at hq; subst hq; exact hx x (by simp [Op.operands]) _ hr
  | pick c a b =>
    simp only at hq
    split at hq
    · simp only [Option.some.injEq] at hq
      subst hq
      split at hr
      · exact hx a (by simp [Op.operands]) _ hr
      · exact hx b (by simp [Op.operands]) _ hr
    · cases hq
  | binOp b ty x y yt => simp only at hq; split at hq <;> first | (simp only [Option.some.injEq] at hq; subst hq; cases hr) | cases hq
  | unOp u ty x => simp only at hq; split at hq <;> first | (simp only [Option.some.injEq] at hq; subst hq; cases hr) | cases hq
  | convert a b x => simp only at hq; split at hq <;> (try split at hq) <;> first | (simp only [Option.some.injEq] at hq; subst hq; cases hr) | cases hq
  | build t parts => simp only at hq; split at hq <;> (try split at hq) <;> (try split at hq) <;> first | (simp only [Option.some.injEq] at hq; subst hq; cases hr) | cases hq
  | field t x f => simp only at hq; split at hq <;> (try split at hq) <;> (try split at hq) <;> (try split at hq) <;> (try split at hq) <;> (try split at hq) <;> first | (simp only [Option.some.injEq] at hq; subst hq; cases hr) | cases hq
  | extract t i =>
    simp only at hq
    split at hq
    · split at hq
      · simp only [Option.some.injEq] at hq; subst hq; rw [AV.sv_refs] at hr; cases hr
      · cases hq
    · cases hq
  | index t x i => simp only at hq; split at hq <;> (try split at hq) <;> (try split at hq) <;> (try split at hq) <;> first | (simp only [Option.some.injEq] at hq; subst hq; cases hr) | cases hq
  | indexAddr t x i =>
    simp only at hq
    have h9 := hx x (by simp [Op.operands]) t
    split at hq
    · split at hq <;> (try split at hq) <;> (try split at hq) <;> (try split at hq) <;> first | (simp only [Option.some.injEq] at hq; subst hq; cases hr) | cases hq
    · rename_i hxv _
      split at hq
      · split at hq
        · split at hq
          · simp only [Option.some.injEq] at hq; subst hq; exact h9 (by rw [hxv]; exact hr)
          · cases hq
        · cases hq
      · cases hq
    · rename_i hxv _
      split at hq
      · split at hq
        · split at hq
          · simp only [Option.some.injEq] at hq; subst hq; exact h9 (by rw [hxv]; exact hr)
          · cases hq
        · cases hq
      · cases hq
    · cases hq
  | fieldAddr t x f =>
    simp only at hq
    have h9 := hx x (by simp [Op.operands]) t
    split at hq
    · rename_i hxv
      split at hq
      · split at hq
        · split at hq
          · split at hq
            · cases hq
            · simp only [Option.some.injEq] at hq; subst hq; exact h9 (by rw [hxv]; exact hr)
          · cases hq
        · cases hq
      · cases hq
    · split at hq <;> (try split at hq) <;> (try split at hq) <;> (try split at hq) <;> first | (simp only [Option.some.injEq] at hq; subst hq; cases hr) | cases hq
    · cases hq
  | load t x => simp only at hq; split at hq <;> (try split at hq) <;> (try split at hq) <;> (try split at hq) <;> (try split at hq) <;> first | (simp only [Option.some.injEq] at hq; subst hq; cases hr) | cases hq
  | slice t x lo hi mx =>
    simp only at hq
    split at hq
    · split at hq
      · split at hq
        · split at hq
          · simp only [Option.some.injEq] at hq; subst hq; cases hr
          · cases hq
        · cases hq
      · cases hq
    · cases hq
  | call c =>
    simp only at hq
    unfold quietCall at hq
    split at hq
    · split at hq
      · split at hq <;> (try split at hq) <;> (try split at hq) <;> first | (simp only [Option.some.injEq] at hq; subst hq; cases hr) | cases hq
      · split at hq <;> first | (simp only [Option.some.injEq] at hq; subst hq; cases hr) | cases hq
      · split at hq <;> first | (simp only [Option.some.injEq] at hq; subst hq; cases hr) | cases hq
      · cases hq
    · cases hq
  | _ => cases hq

theorem valR_refs {o : Oper} {sv : SV} (hv : valR E T s o sv) {nm : Nat} (hr : sv.refs nm = true) : ∃ t ∈ tmpsOf o, (s.slots t).refs nm = true := by
  unfold valR at hv
  split at hv
  · split at hv
    · obtain ⟨vs, res, _, _, _, rfl⟩ := hv
      exfalso
      unfold resSV at hr
      split at hr
      · rw [AV.sv_refs] at hr; cases hr
      · cases hr
    · exact quiet_refs hv hr
  · obtain ⟨ti, e, te, cs, _, _, _, _, _, rfl⟩ := hv
    cases hr
  · exact quiet_refs hv hr

theorem put_comm {d d' : Nat} (hne : d ≠ d') (v v' : SV) : (s.put d v).put d' v' = (s.put d' v').put d v := by
  simp only [St.put, St.mk.injEq, and_true]
  funext t
  by_cases h1 : t = d'
  · subst h1; simp [Ne.symm hne]
  · simp [h1]

theorem dropSlot_put {d t : Nat} (hne : t ≠ d) (v : SV) : (s.put d v).dropSlot t = (s.dropSlot t).put d v := by
  simp only [St.put, St.dropSlot, St.mk.injEq, and_true]
  funext u
  by_cases h1 : u = d
  · subst h1; simp [Ne.symm hne]
  · simp [h1]

theorem upd_put {d nm : Nat} {b : Blk} (v : SV) : (s.put d v).upd nm b = (s.upd nm b).put d v := rfl

theorem name_put {d nm : Nat} {b : Blk} {v : SV} (hv : v.refs nm = false) : (s.put d v).name nm b = (s.name nm b).put d v := by
  simp only [St.put, St.name, St.mk.injEq, and_true]
  funext u
  by_cases h1 : u = d
  · simp [h1, SV.kill, hv]
  · simp [h1]

theorem slots_put_ne {d t : Nat} (hne : t ≠ d) (v : SV) : (s.put d v).slots t = s.slots t := by simp [St.put, hne]

/-- Operations that give a name. -/
def namerOp (o : Oper) : Bool :=
  match o.op with
  | .alloc _ | .box _ _ | .makeSlice _ _ _ => true
  | _ => false

/-- Another slot written ahead of an operation, or behind it. -/
theorem frame {X : Oper} {d : Nat} {v : SV} (hd : d ∉ tmpsOf X) (hx : X.dst ≠ some d) (hv : namerOp X = true → ∀ d', X.dst = some d' → v.refs d' = false ∧ (s.slots d).refs d' = false) : wpOp E T h X K (s.put d v) ↔ wpOp E T h X (fun x => K (x.put d v)) s := by
  have hdt : ∀ t ∈ tmpsOf X, t ≠ d := fun t ht e => hd (by rw [← e]; exact ht)
  have hrd : ∀ x ∈ X.op.operands.toList, ∀ ty, rd T (s.put d v) ty x = rd T s ty x := fun x hxo ty => rd_eq (fun t ht => slots_put_ne (hdt t ht) v) hxo ty
  have hsl : ∀ t, Operand.tmp t ∈ X.op.operands.toList → (s.put d v).slots t = s.slots t ∧ t ≠ d := fun t ht => ⟨slots_put_ne (hdt t (mem_tmps ht)) v, hdt t (mem_tmps ht)⟩
  have hq : quiet T (s.put d v) X = quiet T s X := by
    cases h1 : quiet T s X with
    | some sv => exact quiet_congr (s := s) (fun t ht => slots_put_ne (hdt t ht) v) (fun nm _ => .inl rfl) h1
    | none =>
      cases h2 : quiet T (s.put d v) X with
      | none => rfl
      | some sv =>
        have := quiet_congr (s := s.put d v) (s' := s) (fun t ht => (slots_put_ne (hdt t ht) v).symm) (fun nm _ => .inl rfl) h2
        rw [h1] at this; cases this
  have hput : ∀ (n : Nat) (sv : SV), putK n X.dst sv K (s.put d v) ↔ putK n X.dst sv (fun x => K (x.put d v)) s := by
    intro n sv
    cases hxd : X.dst with
    | none => rfl
    | some d' =>
      simp only [putK]
      rw [put_comm (fun e => hx (by rw [hxd, e]))]
  have hquiet : (match quiet T (s.put d v) X with | some sv => putK h.n X.dst sv K (s.put d v) | none => False) ↔ (match quiet T s X with | some sv => putK h.n X.dst sv (fun x => K (x.put d v)) s | none => False) := by
    rw [hq]
    split
    · exact hput _ _
    · exact Iff.rfl
  have hname : ∀ (n : Nat) (blk : Blk) (sv : Nat → SV), namerOp X = true → (nameK n X.dst blk sv K (s.put d v) ↔ nameK n X.dst blk sv (fun x => K (x.put d v)) s) := by
    intro n blk sv hnm
    cases hxd : X.dst with
    | none => rfl
    | some d' =>
      obtain ⟨h1, h2⟩ := hv hnm d' hxd
      have hne : d ≠ d' := fun e => hx (by rw [hxd, e])
      simp only [nameK]
      rw [name_put h1, put_comm hne]
      have : (∀ t, t ≠ d' → ((s.put d v).slots t).refs d' = false) ↔ (∀ t, t ≠ d' → (s.slots t).refs d' = false) := by
        constructor
        · intro hh t ht
          by_cases e : t = d
          · subst e; exact h2
          · have := hh t ht; rwa [slots_put_ne e] at this
        · intro hh t ht
          by_cases e : t = d
          · subst e; simp only [St.put, if_pos]; exact h1
          · rw [slots_put_ne e]; exact hh t ht
      rw [this]
  unfold wpOp
  cases ho : X.op with
  | alloc t =>
    simp only
    split
    · split
      · exact hname _ _ _ (by simp only [namerOp, ho])
      · exact Iff.rfl
    · exact Iff.rfl
  | box t x =>
    simp only
    rw [hrd x (by rw [ho]; simp [Op.operands])]
    split
    · split
      · exact hname _ _ _ (by simp only [namerOp, ho])
      · exact Iff.rfl
    · exact Iff.rfl
  | makeSlice t l c =>
    simp only
    rw [hrd l (by rw [ho]; simp [Op.operands]), hrd c (by rw [ho]; simp [Op.operands])]
    split
    · split
      · split
        · split
          · rw [hname _ _ _ (by simp only [namerOp, ho])]
          · exact Iff.rfl
        · exact Iff.rfl
      · exact Iff.rfl
    · exact Iff.rfl
  | buildSlice t len parts =>
    simp only
    split
    · split
      · rename_i e _
        split
        · split
          · rename_i te _ _
            rw [layParts_eq (g := rd T s e) (g' := rd T (s.put d v) e) parts.toList _ (fun p hp => hrd p.2 (by rw [ho]; simp [Op.operands]; exact ⟨p.1, by simpa using hp⟩) e)]
            split
            · exact hput _ _
            · exact Iff.rfl
          · exact Iff.rfl
        · exact Iff.rfl
      · exact Iff.rfl
    · exact Iff.rfl
  | store t x w =>
    simp only
    rw [hrd x (by rw [ho]; simp [Op.operands]), hrd w (by rw [ho]; simp [Op.operands])]
    split
    · rename_i ti nm i o0 cs _ _ _
      rw [show (s.put d v).heap nm = s.heap nm from rfl]
      cases s.heap nm with
      | none => exact Iff.rfl
      | some blk =>
        simp only
        cases blk.rows[i]? with
        | none => exact Iff.rfl
        | some row =>
          simp only
          split
          · split
            · rename_i t' u9 e9 hk9
              obtain ⟨h1, h2⟩ := hsl t' (by rw [ho]; simp [Op.operands])
              rw [h1]
              split
              · rw [dropSlot_put h2, upd_put]
              · exact Iff.rfl
            · rw [upd_put]
          · exact Iff.rfl
    · exact Iff.rfl
  | move x =>
    cases x with
    | tmp t =>
      simp only
      obtain ⟨h1, h2⟩ := hsl t (by rw [ho]; simp [Op.operands])
      cases hxd : X.dst with
      | none => exact Iff.rfl
      | some d' =>
        simp only
        have hne : d ≠ d' := fun e => hx (by rw [hxd, e])
        split
        · rw [h1]
          split
          · rw [dropSlot_put h2, put_comm hne]
          · exact Iff.rfl
        · rw [hxd] at hquiet; exact hquiet
    | _ => exact hquiet
  | assign x =>
    cases x with
    | tmp t =>
      simp only
      obtain ⟨h1, h2⟩ := hsl t (by rw [ho]; simp [Op.operands])
      cases hxd : X.dst with
      | none => exact Iff.rfl
      | some d' =>
        simp only
        have hne : d ≠ d' := fun e => hx (by rw [hxd, e])
        split
        · rw [h1]
          split
          · rw [dropSlot_put h2, put_comm hne]
          · exact Iff.rfl
        · rw [hxd] at hquiet; exact hquiet
    | _ => exact hquiet
  | load t x =>
    simp only
    rw [hrd x (by rw [ho]; simp [Op.operands])]
    cases hxd : X.dst with
    | none => exact Iff.rfl
    | some d' =>
      simp only
      have hne : d ≠ d' := fun e => hx (by rw [hxd, e])
      split
      · split
        · rename_i ti nm i o0 _ _
          rw [show (s.put d v).heap nm = s.heap nm from rfl]
          cases s.heap nm with
          | none => exact Iff.rfl
          | some blk =>
            simp only
            cases blk.rows[i]? with
            | none => exact Iff.rfl
            | some row =>
              simp only
              cases row[o0]? with
              | none => exact Iff.rfl
              | some c =>
                simp only
                rw [upd_put, put_comm hne]
        · exact Iff.rfl
      · rw [hxd] at hquiet; exact hquiet
  | call c =>
    simp only
    have hargs := argsOf_congr (T := T) (o := X) (s := s) (s' := s.put d v) (fun t ht => slots_put_ne (hdt t ht) v) (fun nm _ => rfl) c.args.toList c.argTypes.toList (fun x hx => by rw [ho]; simp [Op.operands, Call.operands]; right; simpa using hx)
    split
    · unfold callK
      rw [hargs.1, hargs.2]
      split
      · constructor
        · rintro ⟨res, q1, q2, q3⟩; exact ⟨res, q1, q2, (hput _ _).1 q3⟩
        · rintro ⟨res, q1, q2, q3⟩; exact ⟨res, q1, q2, (hput _ _).2 q3⟩
      · exact Iff.rfl
    · split
      · rename_i x y t t2 hxa _
        have hxm : x ∈ X.op.operands.toList := by rw [ho]; simp [Op.operands, Call.operands]; right; have : x ∈ c.args.toList := by rw [hxa]; simp
                                                  simpa using this
        have hym : y ∈ X.op.operands.toList := by rw [ho]; simp [Op.operands, Call.operands]; right; have : y ∈ c.args.toList := by rw [hxa]; simp
                                                  simpa using this
        have how : ownOf T (s.put d v) t x = ownOf T s t x := by
          cases x with
          | tmp u => simp only [ownOf, (hsl u hxm).1]
          | _ => rfl
        unfold appendK
        rw [hrd y hym, how]
        split
        · split
          · split
            · rename_i te so sz rows sz2 ys d' he hso hys hxd
              have hne : d ≠ d' := fun e => hx (by rw [hxd, e])
              split
              · have : (s.put d v).dropO so = (s.dropO so).put d v := by
                  cases so with
                  | none => rfl
                  | some u =>
                    have hu : u ≠ d := by
                      cases x with
                      | tmp u' =>
                        simp only [ownOf] at hso
                        split at hso
                        · simp only [Option.some.injEq, Prod.mk.injEq] at hso
                          obtain ⟨rfl, _⟩ := hso
                          exact (hsl u' hxm).2
                        · cases hso
                      | const w =>
                        simp only [ownOf] at hso
                        split at hso
                        · split at hso
                          · simp at hso
                          · cases hso
                        · cases hso
                      | global g => simp [ownOf] at hso
                      | func g => simp [ownOf] at hso
                    exact dropSlot_put hu v
                rw [this, put_comm hne]
              · exact Iff.rfl
            · exact Iff.rfl
          · exact Iff.rfl
        · exact Iff.rfl
      · exact Iff.rfl
    · exact hquiet
  | _ => exact hquiet
end
end Go.Proofs.Yteoddaeipckgcaa.Ev
