import Derived.Test.YteoddaeipckgcaaEvN
namespace Go.Proofs.Yteoddaeipckgcaa.Ev
open Go Go.RowKit
set_option linter.unusedSimpArgs false
set_option linter.unusedVariables false
section
variable {E : Env} {T : TypeId → Option TI} {h : Hint} {K : St → Prop} {s s' : St}

/-- Operations that write one slot, by what they read. -/
def readerOp (h : Hint) (o : Oper) : Bool :=
  match o.op with
  | .alloc _ | .box _ _ | .makeSlice _ _ _ | .store _ _ _ => false
  | .move (.tmp _) | .assign (.tmp _) | .load _ _ => match o.dst with | some d => h.tk d != 1 | none => false
  | .call c => match c.callee with
    | .builtin .append => false
    | _ => true
  | _ => true

def valR (E : Env) (T : TypeId → Option TI) (s : St) (o : Oper) (sv : SV) : Prop :=
  match o.op with
  | .call c => match c.callee with
    | .value (.func f) => ∃ vs res, argsOf T s c.args.toList c.argTypes.toList = some vs ∧ E f vs res ∧ (anyMr T s c.args.toList c.argTypes.toList = true → res.all AV.flat = true) ∧ sv = resSV res
    | _ => quiet T s o = some sv
  | .buildSlice t len parts => ∃ ti e te cs, T t = some ti ∧ ti.k = .slice e ∧ T e = some te ∧ (0 < te.size ∧ 0 < len ∧ len * te.size ≤ 16777216) ∧
      layParts T (fun i => some (i * te.size, te.size)) (rd T s e) ((List.replicate len te.zero).flatten) parts.toList = some cs ∧ sv = .c (.own te.size (chunk te.size len cs))
  | _ => quiet T s o = some sv

theorem quietK_fwd {o : Oper} {d : Nat} (hd : o.dst = some d) (hk : match quiet T s o with | some sv => putK h.n o.dst sv K s | none => False) : ∃ sv, quiet T s o = some sv ∧ d < h.n ∧ K (s.put d sv) := by
  split at hk
  · rename_i sv hsv
    rw [hd] at hk
    simp only [putK] at hk
    split at hk
    · rename_i hn; exact ⟨sv, hsv, hn, hk⟩
    · exact hk.elim
  · exact hk.elim

theorem quietK_bwd {o : Oper} {d : Nat} (hd : o.dst = some d) {sv : SV} (hq : quiet T s o = some sv) (hn : d < h.n) (hk : K (s.put d sv)) : match quiet T s o with | some sv => putK h.n o.dst sv K s | none => False := by
  rw [hq, hd]
  simp only [putK, if_pos hn]
  exact hk

theorem reader_fwd {o : Oper} (hr : readerOp h o = true) {d : Nat} (hd : o.dst = some d) (hk : wpOp E T h o K s) : ∃ sv, valR E T s o sv ∧ d < h.n ∧ K (s.put d sv) := by
  unfold readerOp at hr
  unfold wpOp at hk
  unfold valR
  cases ho : o.op with
  | alloc t => rw [ho] at hr; cases hr
  | box t x => rw [ho] at hr; cases hr
  | makeSlice t l c => rw [ho] at hr; cases hr
  | store t x v => rw [ho] at hr; cases hr
  | move x =>
    rw [ho] at hr hk
    cases x with
    | tmp t =>
      simp only [hd] at hr hk
      rw [if_neg (by simpa using hr)] at hk
      exact quietK_fwd hd (by rw [hd]; exact hk)
    | _ => exact quietK_fwd hd hk
  | assign x =>
    rw [ho] at hr hk
    cases x with
    | tmp t =>
      simp only [hd] at hr hk
      rw [if_neg (by simpa using hr)] at hk
      exact quietK_fwd hd (by rw [hd]; exact hk)
    | _ => exact quietK_fwd hd hk
  | load t x =>
    rw [ho] at hr hk
    simp only [hd] at hr hk
    rw [if_neg (by simpa using hr)] at hk
    exact quietK_fwd hd (by rw [hd]; exact hk)
  | buildSlice t len parts =>
    rw [ho] at hk
    simp only at hk ⊢
    split at hk
    · rename_i ti ht
      split at hk
      · rename_i e hke
        split at hk
        · rename_i te he
          split at hk
          · rename_i hc
            split at hk
            · rename_i cs hcs
              rw [hd] at hk
              simp only [putK] at hk
              split at hk
              · rename_i hn
                exact ⟨_, ⟨ti, e, te, cs, ht, hke, he, hc, hcs, rfl⟩, hn, hk⟩
              · exact hk.elim
            · exact hk.elim
          · exact hk.elim
        · exact hk.elim
      · exact hk.elim
    · exact hk.elim
  | call c =>
    rw [ho] at hr hk
    simp only at hr hk ⊢
    split at hk
    · rename_i f hf
      rw [hf]
      unfold callK at hk
      split at hk
      · rename_i vs hvs
        obtain ⟨res, h1, h2, h3⟩ := hk
        rw [hd] at h3
        simp only [putK] at h3
        split at h3
        · rename_i hn; exact ⟨_, ⟨vs, res, hvs, h1, h2, rfl⟩, hn, h3⟩
        · exact h3.elim
      · exact hk.elim
    · rename_i hf; rw [hf] at hr; cases hr
    · rename_i hf1 hf2
      have := quietK_fwd hd hk
      split
      · rename_i f hf; exact absurd hf (hf1 f)
      · exact this
  | _ => rw [ho] at hk; exact quietK_fwd hd hk

theorem reader_bwd {o : Oper} (hr : readerOp h o = true) {d : Nat} (hd : o.dst = some d) {sv : SV} (hv : valR E T s o sv) (hn : d < h.n) (hk : K (s.put d sv)) : wpOp E T h o K s := by
  unfold readerOp at hr
  unfold wpOp
  unfold valR at hv
  cases ho : o.op with
  | alloc t => rw [ho] at hr; cases hr
  | box t x => rw [ho] at hr; cases hr
  | makeSlice t l c => rw [ho] at hr; cases hr
  | store t x v => rw [ho] at hr; cases hr
  | move x =>
    rw [ho] at hr hv
    cases x with
    | tmp t =>
      simp only [hd] at hr ⊢
      rw [if_neg (by simpa using hr)]
      have := quietK_bwd hd hv hn hk
      rw [hd] at this; exact this
    | _ => exact quietK_bwd hd hv hn hk
  | assign x =>
    rw [ho] at hr hv
    cases x with
    | tmp t =>
      simp only [hd] at hr ⊢
      rw [if_neg (by simpa using hr)]
      have := quietK_bwd hd hv hn hk
      rw [hd] at this; exact this
    | _ => exact quietK_bwd hd hv hn hk
  | load t x =>
    rw [ho] at hr hv
    simp only [hd] at hr ⊢
    rw [if_neg (by simpa using hr)]
    have := quietK_bwd hd hv hn hk
    rw [hd] at this; exact this
  | buildSlice t len parts =>
    rw [ho] at hv
    obtain ⟨ti, e, te, cs, ht, hke, he, hc, hcs, rfl⟩ := hv
    simp only [ht, hke, he, if_pos hc, hcs, hd, putK, if_pos hn]
    exact hk
  | call c =>
    rw [ho] at hr hv
    simp only at hr hv ⊢
    split
    · rename_i f hf
      rw [hf] at hv
      obtain ⟨vs, res, hvs, h1, h2, rfl⟩ := hv
      unfold callK
      rw [hvs, hd]
      exact ⟨res, h1, h2, by simp only [putK, if_pos hn]; exact hk⟩
    · rename_i hf; rw [hf] at hr; cases hr
    · rename_i hf1 hf2
      split at hv
      · rename_i f hf; exact absurd hf (hf1 f)
      · exact quietK_bwd hd hv hn hk
  | _ => rw [ho] at hv; exact quietK_bwd hd hv hn hk

theorem argOf_congr {o : Oper} (hh : ∀ nm, (∃ t ∈ tmpsOf o, (s.slots t).refs nm = true) → s'.heap nm = s.heap nm) {x : Operand} (hx : x ∈ o.op.operands.toList) {ty : TypeId} : argOf s'.heap (rd T s ty x) = argOf s.heap (rd T s ty x) := by
  cases hv : rd T s ty x with
  | mr nm lo len => simp only [argOf]; rw [hh nm (rd_refs hx (by rw [hv]; simp [SV.refs]))]
  | _ => rfl

theorem argsOf_congr {o : Oper} (hs : ∀ t ∈ tmpsOf o, s'.slots t = s.slots t) (hh : ∀ nm, (∃ t ∈ tmpsOf o, (s.slots t).refs nm = true) → s'.heap nm = s.heap nm) : ∀ (xs : List Operand) (ts : List TypeId), (∀ x ∈ xs, x ∈ o.op.operands.toList) →
    argsOf T s' xs ts = argsOf T s xs ts ∧ anyMr T s' xs ts = anyMr T s xs ts
  | [], ts, _ => ⟨by cases ts <;> rfl, by cases ts <;> rfl⟩
  | x :: xs, [], _ => ⟨rfl, rfl⟩
  | x :: xs, t :: ts, hx => by
    obtain ⟨h1, h2⟩ := argsOf_congr hs hh xs ts (fun y hy => hx y (by simp [hy]))
    have h3 := rd_eq (T := T) hs (hx x (by simp)) t
    have h4 := argOf_congr (T := T) hh (hx x (by simp)) (ty := t)
    exact ⟨by simp only [argsOf, h3, h4, h1], by simp only [anyMr, h3, h2]⟩

theorem valR_congr {o : Oper} (hs : ∀ t ∈ tmpsOf o, s'.slots t = s.slots t) (hh : NameOk o s s' (contentOp o)) {sv : SV} (hv : valR E T s o sv) : valR E T s' o sv := by
  unfold valR at hv ⊢
  split at hv
  · rename_i c ho
    split at hv
    · rename_i f hf
      obtain ⟨vs, res, h1, h2, h3, h4⟩ := hv
      have hc : contentOp o = true := by simp only [contentOp, ho, hf]
      have hh' : ∀ nm, (∃ t ∈ tmpsOf o, (s.slots t).refs nm = true) → s'.heap nm = s.heap nm := fun nm hn => by
        rcases hh nm hn with h | ⟨h, _⟩
        · exact h
        · rw [hc] at h; cases h
      obtain ⟨h5, h6⟩ := argsOf_congr (T := T) hs hh' c.args.toList c.argTypes.toList (fun x hx => by rw [ho]; simp [Op.operands, Call.operands]; right; simpa using hx)
      exact ⟨vs, res, by rw [h5]; exact h1, h2, by rw [h6]; exact h3, h4⟩
    · exact quiet_congr hs hh hv
  · rename_i t len parts ho
    obtain ⟨ti, e, te, cs, h1, h2, h3, h4, h5, h6⟩ := hv
    refine ⟨ti, e, te, cs, h1, h2, h3, h4, ?_, h6⟩
    rw [← h5]
    exact layParts_eq _ _ (fun p hp => rd_eq hs (by rw [ho]; simp [Op.operands]; exact ⟨p.1, by simpa using hp⟩) e)
  · exact quiet_congr hs hh hv
end
end Go.Proofs.Yteoddaeipckgcaa.Ev
