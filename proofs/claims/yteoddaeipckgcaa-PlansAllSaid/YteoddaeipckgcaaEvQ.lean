import Derived.Test.YteoddaeipckgcaaEvP
namespace Go.Proofs.Yteoddaeipckgcaa.Ev
open Go Go.RowKit
set_option linter.unusedSimpArgs false
set_option linter.unusedVariables false
section
variable {E : Env} {T : TypeId → Option TI} {h : Hint} {K : St → Prop} {s s' s1 s2 : St}

/-- Operations that write a block. -/
def writerOp (h : Hint) (o : Oper) : Bool :=
  match o.op with
  | .store _ _ _ => true
  | .load _ _ => match o.dst with | some d => h.tk d == 1 | none => false
  | _ => false

/-- Operations that take a slot's room along. -/
def dropOp (h : Hint) (o : Oper) : Bool :=
  match o.op with
  | .store _ _ _ => true
  | .move (.tmp _) | .assign (.tmp _) => match o.dst with | some d => h.tk d == 1 | none => false
  | .call c => match c.callee with
    | .builtin .append => true
    | _ => false
  | _ => false

/-- Operations whose value may lead to what their operands lead to. -/
def carries (o : Oper) : Bool :=
  match o.op with
  | .move _ | .assign _ | .pick _ _ _ | .indexAddr _ _ _ | .fieldAddr _ _ _ => true
  | _ => false

theorem quiet_carry {o : Oper} {sv : SV} (hq : quiet T s o = some sv) {nm : Nat} (hr : sv.refs nm = true) : carries o = true := by
  obtain ⟨dst, op, type, pos, after, guard⟩ := o
  unfold quiet at hq
  simp only at hq
  unfold carries
  cases op with
  | move x => rfl
  | assign x => rfl
  | pick c a b => rfl
  | binOp b ty x y yt => simp only at hq; split at hq <;> first | (simp only [Option.some.injEq] at hq; subst hq; cases hr) | cases hq
  | unOp u ty x => simp only at hq; split at hq <;> first | (simp only [Option.some.injEq] at hq; subst hq; cases hr) | cases hq
  | convert a b x => simp only at hq; split at hq <;> (try split at hq) <;> first | (simp only [Option.some.injEq] at hq; subst hq; cases hr) | cases hq
  | build t parts => simp only at hq; split at hq <;> (try split at hq) <;> (try split at hq) <;> first | (simp only [Option.some.injEq] at hq; subst hq; cases hr) | cases hq
  | field t x f => simp only at hq; split at hq <;> (try split at hq) <;> (try split at hq) <;> (try split at hq) <;> (try split at hq) <;> (try split at hq) <;> first | (simp only [Option.some.injEq] at hq; subst hq; cases hr) | cases hq
  | extract t i =>
    simp only at hq
    split at hq
    · split at hq
      · simp only [Option.some.injEq] at hq; subst hq; rw [AV.sv_refs] at hr; cases hr
      · cases hq
    · cases hq
  | index t x i => simp only at hq; split at hq <;> (try split at hq) <;> (try split at hq) <;> (try split at hq) <;> first | (simp only [Option.some.injEq] at hq; subst hq; cases hr) | cases hq
  | indexAddr t x i => rfl
  | fieldAddr t x f => rfl
  | load t x => simp only at hq; split at hq <;> (try split at hq) <;> (try split at hq) <;> (try split at hq) <;> (try split at hq) <;> first | (simp only [Option.some.injEq] at hq; subst hq; cases hr) | cases hq
  | slice t x lo hi mx =>
    simp only at hq
    split at hq
    · split at hq
      · split at hq
        · split at hq
          · simp only [Option.some.injEq] at hq; subst hq; cases hr
          · cases hq
        · cases hq
      · cases hq
    · cases hq
  | call c =>
    simp only at hq
    unfold quietCall at hq
    split at hq
    · split at hq
      · split at hq <;> (try split at hq) <;> (try split at hq) <;> first | (simp only [Option.some.injEq] at hq; subst hq; cases hr) | cases hq
      · split at hq <;> first | (simp only [Option.some.injEq] at hq; subst hq; cases hr) | cases hq
      · split at hq <;> first | (simp only [Option.some.injEq] at hq; subst hq; cases hr) | cases hq
      · cases hq
    · cases hq
  | _ => cases hq

/-- What a value of an operation may lead to. -/
def Src (X : Oper) (s : St) (nm : Nat) : Prop := carries X = true ∧ ∃ u ∈ tmpsOf X, (s.slots u).refs nm = true

theorem quiet_src {o : Oper} {sv : SV} (hq : quiet T s o = some sv) (nm : Nat) (hr : sv.refs nm = true) : Src o s nm := ⟨quiet_carry hq hr, quiet_refs hq hr⟩

/-- What an operation leaves as it was. -/
structure Eff (h : Hint) (X : Oper) (s s1 : St) : Prop where
  slots : ∀ t, X.dst ≠ some t → (namerOp X = true → ∀ d', X.dst = some d' → (s.slots t).refs d' = false) → (dropOp h X = true → t ∉ tmpsOf X) → s1.slots t = s.slots t
  heap : ∀ nm, (namerOp X = true → X.dst ≠ some nm) → s1.heap nm = s.heap nm ∨ (writerOp h X = true ∧ ∃ b b', s.heap nm = some b ∧ s1.heap nm = some b' ∧ b'.sz = b.sz)
  far : ∀ nm, (namerOp X = true → X.dst ≠ some nm) → (∀ t ∈ tmpsOf X, (s.slots t).refs nm = false) → s1.heap nm = s.heap nm
  src : ∀ t nm, (s1.slots t).refs nm = true → (s.slots t).refs nm = true ∨ (X.dst = some t ∧ (Src X s nm ∨ (namerOp X = true ∧ nm = t)))

theorem Eff.refs {X : Oper} {s1 : St} (he : Eff h X s s1) (nm : Nat) (hx : namerOp X = true → X.dst ≠ some nm) (hn : ∀ t, (s.slots t).refs nm = false) (t : Nat) : (s1.slots t).refs nm = false := by
  cases hr : (s1.slots t).refs nm with
  | false => rfl
  | true =>
    rcases he.src t nm hr with h1 | ⟨h1, ⟨_, u, _, h2⟩ | ⟨h2, h3⟩⟩
    · rw [hn t] at h1; cases h1
    · rw [hn u] at h2; cases h2
    · subst h3; exact absurd h1 (hx h2)

theorem refs_drop (v : SV) (nm : Nat) : v.drop.refs nm = v.refs nm := by cases v <;> rfl

theorem eff_put {X : Oper} {d : Nat} (hd : X.dst = some d) {v : SV} (hv : ∀ nm, v.refs nm = true → Src X s nm) : Eff h X s (s.put d v) := by
  refine ⟨fun t ht _ _ => slots_put_ne (fun e => ht (by rw [hd, e])) v, fun nm _ => .inl rfl, fun _ _ _ => rfl, fun t nm hr => ?_⟩
  simp only [St.put] at hr
  split at hr
  · rename_i e; exact .inr ⟨by rw [hd, e], .inl (hv nm hr)⟩
  · exact .inl hr

theorem eff_refl {X : Oper} : Eff h X s s := ⟨fun _ _ _ _ => rfl, fun _ _ => .inl rfl, fun _ _ _ => rfl, fun _ _ hn => .inl hn⟩

theorem eff_dropPut {X : Oper} {d u : Nat} (hd : X.dst = some d) (hu : u ∈ tmpsOf X) (hdr : dropOp h X = true) {c : CV} : Eff h X s ((s.dropSlot u).put d (.c c)) := by
  refine ⟨fun t ht _ hnd => ?_, fun nm _ => .inl rfl, fun _ _ _ => rfl, fun t nm hr => ?_⟩
  · rw [slots_put_ne (fun e => ht (by rw [hd, e]))]
    have : t ≠ u := fun e => hnd hdr (by rw [e]; exact hu)
    simp [St.dropSlot, this]
  · simp only [St.put, St.dropSlot] at hr
    split at hr
    · cases hr
    · split at hr
      · rw [refs_drop] at hr; exact .inl hr
      · exact .inl hr

theorem eff_name {X : Oper} {n : Nat} {blk : Blk} {sv : Nat → SV} (hsv : ∀ d nm, (sv d).refs nm = true → nm = d) (hnm : namerOp X = true) (hk : nameK n X.dst blk sv (· = s1) s) : Eff h X s s1 := by
  cases hd : X.dst with
  | none => rw [hd] at hk; exact hk.elim
  | some d =>
    rw [hd] at hk
    simp only [nameK] at hk
    split at hk
    · obtain ⟨_, rfl⟩ := hk
      have hh : ∀ nm, (namerOp X = true → X.dst ≠ some nm) → ((s.name d blk).put d (sv d)).heap nm = s.heap nm := fun nm hx => by
        have : nm ≠ d := fun e => hx hnm (by rw [hd, e])
        simp only [St.put, St.name, if_neg this]
      refine ⟨fun t ht hr _ => ?_, fun nm hx => .inl (hh nm hx), fun nm hx _ => hh nm hx, fun t nm hr => ?_⟩
      · rw [slots_put_ne (fun e => ht (by rw [hd, e]))]
        simp only [St.name, SV.kill, hr hnm d hd]
        rfl
      · simp only [St.put, St.name] at hr
        split at hr
        · rename_i e; exact .inr ⟨by rw [hd, e], .inr ⟨hnm, by rw [e]; exact hsv d nm hr⟩⟩
        · unfold SV.kill at hr
          split at hr
          · cases hr
          · exact .inl hr
    · exact hk.elim

theorem eff_upd {X : Oper} {nm0 : Nat} {b b' : Blk} (hw : writerOp h X = true) (hn : ∃ t ∈ tmpsOf X, (s.slots t).refs nm0 = true) (hb : s.heap nm0 = some b) (hz : b'.sz = b.sz) : Eff h X s (s.upd nm0 b') := by
  refine ⟨fun _ _ _ _ => rfl, fun nm _ => ?_, fun nm _ hf => ?_, fun _ _ hn => .inl hn⟩
  · by_cases e : nm = nm0
    · subst e
      exact .inr ⟨hw, b, b', hb, by simp [St.upd], hz⟩
    · left; simp [St.upd, e]
  · have : nm ≠ nm0 := by
      rintro rfl
      obtain ⟨t, h1, h2⟩ := hn
      rw [hf t h1] at h2; cases h2
    simp [St.upd, this]

theorem eff_dropUpd {X : Oper} {u nm0 : Nat} {b b' : Blk} (hw : writerOp h X = true) (hn : ∃ t ∈ tmpsOf X, (s.slots t).refs nm0 = true) (hu : u ∈ tmpsOf X) (hdr : dropOp h X = true) (hb : s.heap nm0 = some b) (hz : b'.sz = b.sz) : Eff h X s ((s.dropSlot u).upd nm0 b') := by
  have h0 := eff_upd (h := h) (X := X) hw hn hb hz
  refine ⟨fun t _ _ hnd => ?_, h0.heap, h0.far, fun t nm hr => ?_⟩
  · have : t ≠ u := fun e => hnd hdr (by rw [e]; exact hu)
    simp [St.dropSlot, St.upd, this]
  · simp only [St.upd, St.dropSlot] at hr
    split at hr
    · rw [refs_drop] at hr; exact .inl hr
    · exact .inl hr

theorem eff_updPut {X : Oper} {d nm0 : Nat} {b b' : Blk} {c : CV} (hd : X.dst = some d) (hw : writerOp h X = true) (hn : ∃ t ∈ tmpsOf X, (s.slots t).refs nm0 = true) (hb : s.heap nm0 = some b) (hz : b'.sz = b.sz) : Eff h X s ((s.upd nm0 b').put d (.c c)) := by
  have h0 := eff_upd (h := h) (X := X) hw hn hb hz
  refine ⟨fun t ht _ _ => slots_put_ne (fun e => ht (by rw [hd, e])) _, h0.heap, h0.far, fun t nm hr => ?_⟩
  simp only [St.put, St.upd] at hr
  split at hr
  · cases hr
  · exact .inl hr

theorem eff_putK {X : Oper} {n : Nat} {v : SV} (hv : ∀ nm, v.refs nm = true → Src X s nm) (hk : putK n X.dst v (· = s1) s) : Eff h X s s1 := by
  cases hd : X.dst with
  | none => rw [hd] at hk; rw [← show s = s1 from hk]; exact eff_refl
  | some d =>
    rw [hd] at hk
    simp only [putK] at hk
    split at hk
    · rw [← show _ = s1 from hk]; exact eff_put hd hv
    · exact hk.elim

theorem eff_of {X : Oper} (hk : wpOp E T h X (· = s1) s) : Eff h X s s1 := by
  have hsl : ∀ t, Operand.tmp t ∈ X.op.operands.toList → t ∈ tmpsOf X := fun t ht => mem_tmps ht
  have hquiet : (match quiet T s X with | some sv => putK h.n X.dst sv (· = s1) s | none => False) → Eff h X s s1 := by
    intro hk
    split at hk
    · rename_i sv hq
      exact eff_putK (quiet_src hq) hk
    · exact hk.elim
  unfold wpOp at hk
  cases ho : X.op with
  | alloc t =>
    rw [ho] at hk
    simp only at hk
    split at hk
    · split at hk
      · exact eff_name (sv := fun d => .mp d 0 0) (fun d nm hne => (beq_iff_eq.1 (show (d == nm) = true from hne)).symm) (by simp only [namerOp, ho]) hk
      · exact hk.elim
    · exact hk.elim
  | box t x =>
    rw [ho] at hk
    simp only at hk
    split at hk
    · split at hk
      · exact eff_name (sv := fun d => .mp d 0 0) (fun d nm hne => (beq_iff_eq.1 (show (d == nm) = true from hne)).symm) (by simp only [namerOp, ho]) hk
      · exact hk.elim
    · exact hk.elim
  | makeSlice t l c =>
    rw [ho] at hk
    simp only at hk
    split at hk
    · split at hk
      · split at hk
        · split at hk
          · exact eff_name (sv := fun d => .mr d 0 _) (fun d nm hne => (beq_iff_eq.1 (show (d == nm) = true from hne)).symm) (by simp only [namerOp, ho]) hk.2
          · exact hk.elim
        · exact hk.elim
      · exact hk.elim
    · exact hk.elim
  | buildSlice t len parts =>
    rw [ho] at hk
    simp only at hk
    split at hk
    · split at hk
      · split at hk
        · split at hk
          · split at hk
            · exact eff_putK (fun nm hr => by cases hr) hk
            · exact hk.elim
          · exact hk.elim
        · exact hk.elim
      · exact hk.elim
    · exact hk.elim
  | store t x w =>
    rw [ho] at hk
    simp only at hk
    have hw : writerOp h X = true := by simp only [writerOp, ho]
    have hdr : dropOp h X = true := by simp only [dropOp, ho]
    split at hk
    · rename_i hxv _
      have hn := rd_refs (o := X) (T := T) (s := s) (x := x) (ty := 0) (nm := _) (by rw [ho]; simp [Op.operands]) (by rw [hxv]; simp only [SV.refs]; exact beq_self_eq_true _)
      split at hk
      · rename_i hb
        split at hk
        · split at hk
          · split at hk
            · split at hk
              · rw [← show _ = s1 from hk]
                exact eff_dropUpd hw hn (hsl _ (by rw [ho]; simp [Op.operands])) hdr hb rfl
              · exact hk.elim
            · rw [← show _ = s1 from hk]
              exact eff_upd hw hn hb rfl
          · exact hk.elim
        · exact hk.elim
      · exact hk.elim
    · exact hk.elim
  | move x =>
    rw [ho] at hk
    cases x with
    | tmp t =>
      simp only at hk
      cases hxd : X.dst with
      | none => rw [hxd] at hk; rw [← show s = s1 from hk]; exact eff_refl
      | some d' =>
        rw [hxd] at hk hquiet
        simp only at hk
        split at hk
        · rename_i htk
          split at hk
          · split at hk
            · rw [← show _ = s1 from hk]
              exact eff_dropPut hxd (hsl t (by rw [ho]; simp [Op.operands])) (by simp only [dropOp, ho, hxd, htk]; rfl)
            · exact hk.elim
          · exact hk.elim
        · exact hquiet hk
    | _ => exact hquiet hk
  | assign x =>
    rw [ho] at hk
    cases x with
    | tmp t =>
      simp only at hk
      cases hxd : X.dst with
      | none => rw [hxd] at hk; rw [← show s = s1 from hk]; exact eff_refl
      | some d' =>
        rw [hxd] at hk hquiet
        simp only at hk
        split at hk
        · rename_i htk
          split at hk
          · split at hk
            · rw [← show _ = s1 from hk]
              exact eff_dropPut hxd (hsl t (by rw [ho]; simp [Op.operands])) (by simp only [dropOp, ho, hxd, htk]; rfl)
            · exact hk.elim
          · exact hk.elim
        · exact hquiet hk
    | _ => exact hquiet hk
  | load t x =>
    rw [ho] at hk
    simp only at hk
    cases hxd : X.dst with
    | none => rw [hxd] at hk; exact hk.elim
    | some d' =>
      rw [hxd] at hk hquiet
      simp only at hk
      split at hk
      · rename_i htk
        split at hk
        · rename_i hxv
          have hn := rd_refs (o := X) (T := T) (s := s) (x := x) (ty := 0) (nm := _) (by rw [ho]; simp [Op.operands]) (by rw [hxv]; simp only [SV.refs]; exact beq_self_eq_true _)
          split at hk
          · rename_i hb
            split at hk
            · split at hk
              · split at hk
                · rw [← show _ = s1 from hk]
                  exact eff_updPut hxd (by simp only [writerOp, ho, hxd, htk]; rfl) hn hb rfl
                · exact hk.elim
              · exact hk.elim
            · exact hk.elim
          · exact hk.elim
        · exact hk.elim
      · exact hquiet hk
  | call c =>
    rw [ho] at hk
    simp only at hk
    split at hk
    · unfold callK at hk
      split at hk
      · obtain ⟨res, _, _, hk⟩ := hk
        refine eff_putK (fun nm hr => ?_) hk
        exfalso
        unfold resSV at hr
        split at hr
        · rw [AV.sv_refs] at hr; cases hr
        · cases hr
      · exact hk.elim
    · rename_i hcal
      split at hk
      · rename_i x y t t2 hxa _
        have hxm : x ∈ X.op.operands.toList := by rw [ho]; simp [Op.operands, Call.operands]; right; have : x ∈ c.args.toList := by rw [hxa]; simp
                                                  simpa using this
        unfold appendK at hk
        split at hk
        · split at hk
          · split at hk
            · rename_i te so sz rows sz2 ys d' he hso hys hxd
              split at hk
              · obtain ⟨_, rfl⟩ := hk
                cases so with
                | none => exact eff_put hxd (fun nm hr => by cases hr)
                | some u =>
                  have hu : u ∈ tmpsOf X := by
                    cases x with
                    | tmp u' =>
                      simp only [ownOf] at hso
                      split at hso
                      · simp only [Option.some.injEq, Prod.mk.injEq] at hso
                        obtain ⟨rfl, _⟩ := hso
                        exact hsl u' hxm
                      · cases hso
                    | const w =>
                      simp only [ownOf] at hso
                      split at hso
                      · split at hso
                        · simp at hso
                        · cases hso
                      · cases hso
                    | global g => simp [ownOf] at hso
                    | func g => simp [ownOf] at hso
                  exact eff_dropPut hxd hu (by simp only [dropOp, ho, hcal])
              · exact hk.elim
            · exact hk.elim
          · exact hk.elim
        · exact hk.elim
      · exact hk.elim
    · exact hquiet hk
  | _ => rw [ho] at hk; exact hquiet hk
end
end Go.Proofs.Yteoddaeipckgcaa.Ev
