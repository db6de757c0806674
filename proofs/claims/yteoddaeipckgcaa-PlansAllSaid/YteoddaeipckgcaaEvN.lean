import Derived.Test.YteoddaeipckgcaaEvM
namespace Go.Proofs.Yteoddaeipckgcaa.Ev
open Go Go.RowKit
set_option linter.unusedSimpArgs false
set_option linter.unusedVariables false
section
variable {E : Env} {T : TypeId → Option TI} {h : Hint} {K : St → Prop} {s s' : St}

def tmpsOf (o : Oper) : List Nat := o.op.operands.toList.filterMap fun | .tmp t => some t | _ => none

theorem mem_tmps {o : Oper} {t : Nat} (ht : Operand.tmp t ∈ o.op.operands.toList) : t ∈ tmpsOf o := List.mem_filterMap.2 ⟨_, ht, rfl⟩

theorem rd_eq {o : Oper} (hs : ∀ t ∈ tmpsOf o, s'.slots t = s.slots t) {x : Operand} (hx : x ∈ o.op.operands.toList) (ty : TypeId) : rd T s' ty x = rd T s ty x := by
  cases x with
  | tmp t => simp only [rd, hs t (mem_tmps hx)]
  | _ => rfl

theorem layParts_eq {place : Nat → Option (Nat × Nat)} {g g' : Operand → SV} : ∀ (ps : List (Nat × Operand)) (zs : List CV), (∀ p ∈ ps, g' p.2 = g p.2) → layParts T place g' zs ps = layParts T place g zs ps
  | [], zs, _ => rfl
  | (i, x) :: ps, zs, hg => by
    simp only [layParts, hg (i, x) (by simp)]
    split
    · split
      · exact layParts_eq ps _ (fun p hp => hg p (by simp [hp]))
      · rfl
    · rfl

/-- A name that a value leads to. -/
def NameOk (o : Oper) (s s' : St) (same : Bool) : Prop := ∀ nm, (∃ t ∈ tmpsOf o, (s.slots t).refs nm = true) → s'.heap nm = s.heap nm ∨ (same = false ∧ ∃ b b', s.heap nm = some b ∧ s'.heap nm = some b' ∧ b'.sz = b.sz)

theorem rd_refs {o : Oper} {x : Operand} (hx : x ∈ o.op.operands.toList) {ty : TypeId} {nm : Nat} (hr : (rd T s ty x).refs nm = true) : ∃ t ∈ tmpsOf o, (s.slots t).refs nm = true := by
  cases x with
  | tmp t =>
    refine ⟨t, mem_tmps hx, ?_⟩
    simp only [rd] at hr
    cases hst : s.slots t <;> rw [hst] at hr <;> first | exact hr | (simp [SV.drop, SV.refs] at hr)
  | const v =>
    exfalso
    simp only [rd] at hr
    unfold rety at hr
    split at hr
    · split at hr
      · split at hr
        · split at hr <;> simp [SV.refs] at hr
        · simp [SV.refs] at hr
      · simp [SV.refs] at hr
    · rename_i v' hv
      unfold cst at hr
      split at hr <;> simp [SV.refs] at hr
  | global g => simp [rd, SV.refs] at hr
  | func f => simp [rd, SV.refs] at hr

def contentOp (o : Oper) : Bool :=
  match o.op with
  | .load _ _ => true
  | .call c => match c.callee with | .builtin _ => false | _ => true
  | _ => false

theorem quiet_congr {o : Oper} (hs : ∀ t ∈ tmpsOf o, s'.slots t = s.slots t) (hh : NameOk o s s' (contentOp o)) {sv : SV} (hq : quiet T s o = some sv) : quiet T s' o = some sv := by
  have hr : ∀ x ∈ o.op.operands.toList, ∀ ty, rd T s' ty x = rd T s ty x := fun x hx ty => rd_eq hs hx ty
  have hn : ∀ x ∈ o.op.operands.toList, ∀ ty nm b, (rd T s ty x).refs nm = true → s.heap nm = some b → ∃ b', s'.heap nm = some b' ∧ b'.sz = b.sz ∧ (contentOp o = true → b' = b) := by
    intro x hx ty nm b h1 h2
    rcases hh nm (rd_refs hx h1) with h | ⟨h3, b1, b2, h4, h5, h6⟩
    · exact ⟨b, by rw [h, h2], rfl, fun _ => rfl⟩
    · rw [h2] at h4
      obtain rfl := Option.some.inj h4
      exact ⟨b2, h5, h6, fun hc => by rw [h3] at hc; cases hc⟩
  obtain ⟨dst, op, type, pos, after, guard⟩ := o
  simp only at hr hn
  unfold quiet at hq ⊢
  simp only at hq ⊢
  cases op with
  | move x => simp only at hq ⊢; rw [hr x (by simp [Op.operands])]; exact hq
  | assign x => simp only at hq ⊢; rw [hr x (by simp [Op.operands])]; exact hq
  | pick c a b => simp only at hq ⊢; rw [hr c (by simp [Op.operands]), hr a (by simp [Op.operands]), hr b (by simp [Op.operands])]; exact hq
  | binOp b ty x y yt => simp only at hq ⊢; rw [hr x (by simp [Op.operands]), hr y (by simp [Op.operands])]; exact hq
  | unOp u ty x => simp only at hq ⊢; rw [hr x (by simp [Op.operands])]; exact hq
  | convert a b x => simp only at hq ⊢; rw [hr x (by simp [Op.operands])]; exact hq
  | build t parts =>
    simp only at hq ⊢
    have : ∀ (ti : TI), layParts T (placeOf T ti) (rd T s' 0) ti.zero parts.toList = layParts T (placeOf T ti) (rd T s 0) ti.zero parts.toList := fun ti => layParts_eq _ _ (fun p hp => hr p.2 (by simp [Op.operands]; exact ⟨p.1, by simpa using hp⟩) 0)
    simp only [this]; exact hq
  | field t x f => simp only at hq ⊢; rw [hr x (by simp [Op.operands])]; exact hq
  | extract t i => simp only at hq ⊢; rw [hr t (by simp [Op.operands])]; exact hq
  | index t x i => simp only at hq ⊢; rw [hr x (by simp [Op.operands]), hr i (by simp [Op.operands])]; exact hq
  | indexAddr t x i =>
    simp only at hq ⊢
    have hx : x ∈ (Op.indexAddr t x i).operands.toList := by simp [Op.operands]
    rw [hr x hx, hr i (by simp [Op.operands])]
    split at hq
    · exact hq
    · rename_i ti nm lo len k m ht hxv hi
      split at hq
      · rename_i e blk hk hb
        obtain ⟨b', h1, h2, _⟩ := hn x hx t nm blk (by rw [hxv]; simp [SV.refs]) hb
        simp only [hk, h1, h2]; exact hq
      · cases hq
    · rename_i ti nm i0 o0 k m ht hxv hi
      split at hq
      · rename_i q e blk hk hb
        obtain ⟨b', h1, h2, _⟩ := hn x hx t nm blk (by rw [hxv]; simp [SV.refs]) hb
        simp only [hk, h1]; exact hq
      · cases hq
    · cases hq
  | fieldAddr t x f =>
    simp only at hq ⊢
    have hx : x ∈ (Op.fieldAddr t x f).operands.toList := by simp [Op.operands]
    rw [hr x hx]
    split at hq
    · rename_i ti nm i0 o0 ht hxv
      split at hq
      · rename_i fs blk hk hb
        obtain ⟨b', h1, h2, _⟩ := hn x hx t nm blk (by rw [hxv]; simp [SV.refs]) hb
        simp only [hk, h1]; exact hq
      · cases hq
    · exact hq
    · cases hq
  | load t x =>
    simp only at hq ⊢
    have hx : x ∈ (Op.load t x).operands.toList := by simp [Op.operands]
    rw [hr x hx]
    split at hq
    · exact hq
    · rename_i ti nm i0 o0 ht hxv
      split at hq
      · rename_i blk hb
        obtain ⟨b', h1, h2, h3⟩ := hn x hx 0 nm blk (by rw [hxv]; simp [SV.refs]) hb
        obtain rfl := h3 rfl
        simp only [h1]; exact hq
      · cases hq
    · cases hq
  | slice t x lo hi mx =>
    simp only at hq ⊢
    rw [hr x (by simp [Op.operands])]
    have hlo : ∀ l, lo = some l → rd T s' 0 l = rd T s 0 l := fun l hl => hr l (by simp [Op.operands, hl]) 0
    have hhi : ∀ l, hi = some l → rd T s' 0 l = rd T s 0 l := fun l hl => hr l (by simp [Op.operands, hl]) 0
    cases lo with
    | none => cases hi with
      | none => exact hq
      | some h9 => simp only [hhi h9 rfl]; exact hq
    | some l9 => cases hi with
      | none => simp only [hlo l9 rfl]; exact hq
      | some h9 => simp only [hlo l9 rfl, hhi h9 rfl]; exact hq
  | call c =>
    simp only at hq ⊢
    obtain ⟨cal, args, ats⟩ := c
    unfold quietCall at hq ⊢
    cases cal with
    | builtin b =>
      simp only at hq ⊢
      have ha : ∀ x ∈ args.toList, ∀ ty, rd T s' ty x = rd T s ty x := fun x hx ty => hr x (by simp [Op.operands, Call.operands]; simpa using hx) ty
      have hna : ∀ x ∈ args.toList, ∀ ty nm bl, (rd T s ty x).refs nm = true → s.heap nm = some bl → ∃ b', s'.heap nm = some b' := fun x hx ty nm bl h1 h2 => by
        obtain ⟨b', h3, _⟩ := hn x (by simp [Op.operands, Call.operands]; simpa using hx) ty nm bl h1 h2
        exact ⟨b', h3⟩
      split at hq
      · rename_i x t hxa hta
        rw [ha x (by rw [hxa]; simp)]
        split at hq
        · exact hq
        · exact hq
        · rename_i ti nm lo len ht hxv
          split at hq
          · rename_i e hk
            split at hq
            · rename_i blk hb
              obtain ⟨b', h1⟩ := hna x (by rw [hxa]; simp) t nm blk (by rw [hxv]; simp [SV.refs]) hb
              simp only [hk, h1]; exact hq
            · cases hq
          · cases hq
        · cases hq
      · rename_i x y hxa
        rw [ha x (by rw [hxa]; simp), ha y (by rw [hxa]; simp)]; exact hq
      · rename_i x y hxa
        rw [ha x (by rw [hxa]; simp), ha y (by rw [hxa]; simp)]; exact hq
      · cases hq
    | _ => cases hq
  | _ => cases hq
end
end Go.Proofs.Yteoddaeipckgcaa.Ev
