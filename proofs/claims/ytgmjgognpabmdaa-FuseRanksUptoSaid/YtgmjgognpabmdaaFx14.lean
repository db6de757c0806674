/- The evaluator's second make: what a step depends on, and what it leaves. -/
import Derived.Test.YtgmjgognpabmdaaFx13
namespace Go.Proofs.Ytgmjgognpabmdaa.Fx
open Go Go.RowKit
set_option linter.unusedSimpArgs false
set_option linter.unusedVariables false
section
variable {P : Program} {E : Env} {T : TypeId → Option TI} {n : Nat} {K : St → Prop} {s s' s1 s2 : St} {all : Array Oper}

theorem ex_eq {α : Type} {R : α → Prop} (a : α) : R a ↔ ∃ e, a = e ∧ R e := ⟨fun h => ⟨a, rfl, h⟩, fun ⟨_, h1, h2⟩ => h1 ▸ h2⟩

/-- A step has one effect at a time. -/
theorem wpE_iff {o : Oper} {R : Ef → Prop} : wpE E T o R s ↔ ∃ e, wpE E T o (· = e) s ∧ R e := by
  have hq : quietE T o R s ↔ ∃ e, quietE T o (· = e) s ∧ R e := by
    unfold quietE
    cases quiet T s o with
    | none => simp
    | some sv => simp
  unfold wpE
  cases o.op <;> (try exact hq)
  case alloc t => simp only; (split <;> (try (simp; done))); split <;> simp
  case box t x => simp only; (split <;> (try (simp; done))); split <;> simp
  case makeSlice t l c =>
    simp only
    split <;> (try (simp; done))
    split <;> (try (simp; done))
    split <;> (try (simp; done))
    split
    · constructor
      · rintro ⟨h1, h2⟩; exact ⟨_, ⟨h1, rfl⟩, h2⟩
      · rintro ⟨e, ⟨h1, rfl⟩, h2⟩; exact ⟨h1, h2⟩
    · simp
  case buildSlice t len parts =>
    simp only
    split <;> (try (simp; done))
    split <;> (try (simp; done))
    split <;> (try (simp; done))
    split
    · split
      · rename_i cs _
        cases viewRows (chunk _ _ cs) with
        | none => simp
        | some tr =>
          simp only
          constructor
          · rintro (h | ⟨h0, h1, h2⟩)
            · exact ⟨_, .inl rfl, h⟩
            · exact ⟨_, .inr ⟨h0, h1, rfl⟩, h2⟩
          · rintro ⟨e, rfl | ⟨h0, h1, rfl⟩, h2⟩
            · exact .inl h2
            · exact .inr ⟨h0, h1, h2⟩
      · simp
    · simp
  case load t x =>
    simp only
    have hL : loadOwnE T o t x R s ↔ ∃ e, loadOwnE T o t x (· = e) s ∧ R e := by
      unfold loadOwnE
      split <;> (try (simp; done))
      split <;> (try (simp; done))
      constructor
      · rintro ⟨h1, h2⟩; exact ⟨_, ⟨h1, rfl⟩, h2⟩
      · rintro ⟨e, ⟨h1, rfl⟩, h2⟩; exact ⟨h1, h2⟩
    rw [hq, hL]
    constructor
    · rintro (⟨e, h1, h2⟩ | ⟨h0, e, h1, h2⟩)
      · exact ⟨e, .inl h1, h2⟩
      · exact ⟨e, .inr ⟨h0, h1⟩, h2⟩
    · rintro ⟨e, h1 | ⟨h0, h1⟩, h2⟩
      · exact .inl ⟨e, h1, h2⟩
      · exact .inr ⟨h0, e, h1, h2⟩
  case store t x v =>
    simp only
    unfold storeE
    split <;> (try (simp; done))
    split <;> (try (simp; done))
    split <;> (try (simp; done))
    split <;> simp
  case call c =>
    simp only
    split
    · rename_i x _
      have hcE : callE E T (.value x) c.args.toList c.argTypes.toList (fun sv => R (.put sv)) s ↔ ∃ e, callE E T (.value x) c.args.toList c.argTypes.toList (fun sv => Ef.put sv = e) s ∧ R e := by
        unfold callE
        split
        · split
          · constructor
            · rintro ⟨res, h1, h2, h3, h4⟩; exact ⟨_, ⟨res, h1, h2, h3, rfl⟩, h4⟩
            · rintro ⟨e, ⟨res, h1, h2, h3, rfl⟩, h4⟩; exact ⟨res, h1, h2, h3, h4⟩
          · simp
        · simp
      have hcN : callN E T (.value x) c.args.toList c.argTypes.toList R s ↔ ∃ e, callN E T (.value x) c.args.toList c.argTypes.toList (· = e) s ∧ R e := by
        unfold callN
        split
        · constructor
          · rintro ⟨h0, nm, sz, rows, len, h1, h2, h3⟩; exact ⟨_, ⟨h0, nm, sz, rows, len, h1, h2, rfl⟩, h3⟩
          · rintro ⟨e, ⟨h0, nm, sz, rows, len, h1, h2, rfl⟩, h3⟩; exact ⟨h0, nm, sz, rows, len, h1, h2, h3⟩
        · simp
      have hcQ : callQ E T (.value x) c.args.toList c.argTypes.toList (x :: c.args.toList) R s ↔ ∃ e, callQ E T (.value x) c.args.toList c.argTypes.toList (x :: c.args.toList) (· = e) s ∧ R e := by
        unfold callQ
        split
        · constructor
          · rintro ⟨ρ, cargs, h, res, a1, a2, a3, a4, a5, a6, a7, a8⟩; exact ⟨_, ⟨ρ, cargs, h, res, a1, a2, a3, a4, a5, a6, a7, rfl⟩, a8⟩
          · rintro ⟨e, ⟨ρ, cargs, h, res, a1, a2, a3, a4, a5, a6, a7, rfl⟩, a8⟩; exact ⟨ρ, cargs, h, res, a1, a2, a3, a4, a5, a6, a7, a8⟩
        · simp
      rw [hcE, hcN, hcQ]
      constructor
      · rintro (⟨e, h1, h2⟩ | ⟨h0, e, h1, h2⟩ | ⟨h0, e, h1, h2⟩)
        · exact ⟨e, .inl h1, h2⟩
        · exact ⟨e, .inr (.inl ⟨h0, h1⟩), h2⟩
        · exact ⟨e, .inr (.inr ⟨h0, h1⟩), h2⟩
      · rintro ⟨e, h1 | ⟨h0, h1⟩ | ⟨h0, h1⟩, h2⟩
        · exact .inl ⟨e, h1, h2⟩
        · exact .inr (.inl ⟨h0, e, h1, h2⟩)
        · exact .inr (.inr ⟨h0, e, h1, h2⟩)
    · unfold callE
      split
      · split
        · constructor
          · rintro ⟨res, h1, h2, h3, h4⟩; exact ⟨_, ⟨res, h1, h2, h3, rfl⟩, h4⟩
          · rintro ⟨e, ⟨res, h1, h2, h3, rfl⟩, h4⟩; exact ⟨res, h1, h2, h3, h4⟩
        · simp
      · simp
    · split
      · unfold appendE
        split <;> (try (simp; done))
        split <;> (try (simp; done))
        split <;> (try (simp; done))
        split
        · constructor
          · rintro ⟨h1, h2⟩; exact ⟨_, ⟨h1, rfl⟩, h2⟩
          · rintro ⟨e, ⟨h1, rfl⟩, h2⟩; exact ⟨h1, h2⟩
        · simp
      · simp
    · exact hq

theorem wpE_mono {o : Oper} {R R' : Ef → Prop} (hi : ∀ e, R e → R' e) (h : wpE E T o R s) : wpE E T o R' s := by
  obtain ⟨e, h1, h2⟩ := wpE_iff.1 h
  exact wpE_iff.2 ⟨e, h1, hi e h2⟩

theorem runE_mono {dst : Option Nat} {K' : St → Prop} (hi : ∀ s, K s → K' s) {e : Ef} (h : runE n dst K s e) : runE n dst K' s e := by
  cases e with
  | put sv =>
    cases dst with
    | none => exact hi _ h
    | some d => simp only [runE, putK] at h ⊢; split at h; · rename_i hd; rw [if_pos hd]; exact hi _ h
                · exact h.elim
  | name blk sv =>
    cases dst with
    | none => exact h
    | some d => simp only [runE, nameK] at h ⊢; split at h; · rename_i hd; rw [if_pos hd]; exact ⟨h.1, h.2.1, hi _ h.2.2⟩
                · exact h.elim
  | give nm blk sv =>
    cases dst with
    | none => exact h
    | some d => simp only [runE, giveK] at h ⊢; split at h; · rename_i hd; rw [if_pos hd]; exact ⟨h.1, h.2.1, hi _ h.2.2⟩
                · exact h.elim
  | upd nm blk => exact ⟨h.1, hi _ h.2⟩

theorem wpOp_mono2 {o : Oper} {K' : St → Prop} (hi : ∀ s, K s → K' s) (h : wpOp E T n o K s) : wpOp E T n o K' s := by
  rcases h with h | h
  · exact .inl (wpE_mono (fun e he => runE_mono hi he) h)
  · refine .inr ?_
    unfold wpM at h ⊢
    split at h
    · split at h
      · unfold callM at h ⊢
        split at h
        · obtain ⟨ρ, ca, hh, res, hh', h1, h2, h3, h4⟩ := h
          exact ⟨ρ, ca, hh, res, hh', h1, h2, h3, runE_mono (e := .put _) hi h4⟩
        · exact h
      · unfold callM at h ⊢
        split at h
        · obtain ⟨ρ, ca, hh, res, hh', h1, h2, h3, h4⟩ := h
          exact ⟨ρ, ca, hh, res, hh', h1, h2, h3, runE_mono (e := .put _) hi h4⟩
        · exact h
      · exact mapE_mono (fun _ he => runM_mono hi he) h
    · exact mapE_mono (fun _ he => runM_mono hi he) h

theorem putK_mono2 {dst : Option Nat} {sv : SV} {K' : St → Prop} (hi : ∀ s, K s → K' s) (h : putK n dst sv K s) : putK n dst sv K' s := runE_mono (e := .put sv) hi h

theorem wpI_mono2 {i : Nat} {K' : St → Prop} (hi : ∀ s, K s → K' s) (h : wpI E T n all i K s) : wpI E T n all i K' s := by
  unfold wpI at h ⊢
  split at h
  · exact hi _ h
  · split at h
    · split at h
      · rename_i hc; rw [if_pos hc]; exact wpOp_mono2 hi h
      · rename_i hc; rw [if_neg hc]; exact putK_mono2 hi h
    · exact h

theorem wpS_mono2 {K' : St → Prop} (hi : ∀ s, K s → K' s) : ∀ (l : List Oper) (ds : List (Option Nat)) (s : St), wpS E T n ds l K s → wpS E T n ds l K' s
  | [], ds, s, h => hi _ h
  | o :: l, ds, s, h => by
    obtain ⟨st1, hg, h⟩ := h
    refine ⟨st1, hg, ?_⟩
    split at h
    · split at h
      · rename_i hc; rw [if_pos hc]; exact wpOp_mono2 (fun s h => wpS_mono2 hi l _ s h) h
      · rename_i hc; rw [if_neg hc]; exact putK_mono2 (fun s h => wpS_mono2 hi l _ s h) h
    · exact h

theorem wpAnyL_mono2 {K' : St → Prop} (hi : ∀ s, K s → K' s) : ∀ (f : Nat) (listed : Array Bool) (s : St), wpAnyL E T n all f listed K s → wpAnyL E T n all f listed K' s
  | 0, _, _, h => ⟨h.1, hi _ h.2⟩
  | f + 1, listed, s, h => ⟨fun he => hi _ (h.1 he), fun i him => (h.2 i him).imp fun st1 h1 => ⟨h1.1, wpI_mono2 (fun s h => wpAnyL_mono2 hi f _ s h) h1.2⟩⟩

theorem wpCode_mono2 : ∀ (c : Code) {Q Q' : Exit → St → Prop} (hi : ∀ e s, Q e s → Q' e s) {s : St}, wpCode E T n c Q s → wpCode E T n c Q' s
  | .skip, _, _, hi, _, h => hi _ _ h
  | .region id ops draw, Q, Q', hi, s, h => by
    simp only [wpCode] at h ⊢
    split at h
    · rename_i hd; rw [if_pos hd]; exact wpAnyL_mono2 (hi _) _ _ _ h
    · rename_i hd; rw [if_neg hd]; exact wpS_mono2 (hi _) _ _ _ h
  | .seq x y, Q, Q', hi, s, h => wpCode_mono2 x (fun e s h => by
      cases e with
      | normal => obtain ⟨st2, hg, h⟩ := h; exact ⟨st2, hg, wpCode_mono2 y hi h⟩
      | _ => exact hi _ _ h) h
  | .cond c x y, Q, Q', hi, s, h => by
    simp only [wpCode] at h ⊢
    split at h
    · exact ⟨fun hb => wpCode_mono2 x hi (h.1 hb), fun hb => wpCode_mono2 y hi (h.2 hb)⟩
    · exact h
  | .block id x, Q, Q', hi, s, h => wpCode_mono2 x (fun e s h => by
      cases e with
      | exit id' =>
        simp only at h ⊢
        split at h
        · rename_i he; rw [if_pos he]; exact hi _ _ h
        · rename_i he; rw [if_neg he]; exact hi _ _ h
      | _ => exact hi _ _ h) h
  | .loop x, Q, Q', hi, s, h => by
    obtain ⟨σ, I, μ, h0, hr⟩ := h
    exact ⟨σ, I, μ, h0, fun s st' hI => wpCode_mono2 x (fun e s h => by
      cases e with
      | normal => exact h
      | _ => exact hi _ _ h) (hr s st' hI)⟩
  | .exit _, _, _, hi, _, h => hi _ _ h
  | .ret, _, _, hi, _, h => hi _ _ h
  | .rangeFunc .., _, _, _, _, h => h.elim
  | .scope _, _, _, _, _, h => h.elim
  | .label _, _, _, _, _, h => h.elim
  | .goto _, _, _, _, _, h => h.elim

variable {Q : Exit → St → Prop}
theorem w_unroll {x : Code} (k : Nat) (hr : wpRounds E T n x Q k s) : wpCode E T n (.loop x) Q s := by
  refine ⟨Nat, fun k st => wpRounds E T n x Q k st, id, ⟨k, s, Gho.refl n s, hr⟩, fun k st' hk => ?_⟩
  cases k with
  | zero => exact hk.elim
  | succ k =>
    refine wpCode_mono2 x (fun e st hq => ?_) hk
    cases e with
    | normal => obtain ⟨st2, h1, h2⟩ := hq; exact ⟨k, st2, h1, h2, Nat.lt_succ_self k⟩
    | _ => exact hq
/-- What is asked behind a round that is told one by one. -/
def KRounds (E : Env) (T : TypeId → Option TI) (n : Nat) (x : Code) (Q : Exit → St → Prop) (k : Nat) : Exit → St → Prop := fun e st => match e with | .normal => ∃ st2, Gho n st st2 ∧ wpRounds E T n x Q k st2 | e => Q e st
theorem s_round {x : Code} {k : Nat} (hr : wpCode E T n x (KRounds E T n x Q k) s) : wpRounds E T n x Q (k + 1) s := hr
theorem n_round {x : Code} {k : Nat} (ts ns : List Nat) (hr : wpRounds E T n x Q k (s.keep ts ns)) : KRounds E T n x Q k .normal s := ⟨_, gho_keep ts ns, hr⟩
theorem e_round {x : Code} {k id : Nat} (hr : Q (.exit id) s) : KRounds E T n x Q k (.exit id) s := hr
theorem r_round {x : Code} {k : Nat} (hr : Q .ret s) : KRounds E T n x Q k .ret s := hr

/-! ### what a step depends on -/
def tmpsOf (o : Oper) : List Nat := o.op.operands.toList.filterMap fun | .tmp t => some t | _ => none

theorem mem_tmps {o : Oper} {t : Nat} (ht : Operand.tmp t ∈ o.op.operands.toList) : t ∈ tmpsOf o := List.mem_filterMap.2 ⟨_, ht, rfl⟩

theorem rd_eq {o : Oper} (hs : ∀ t ∈ tmpsOf o, s'.slots t = s.slots t) {x : Operand} (hx : x ∈ o.op.operands.toList) (ty : TypeId) : rd T s' ty x = rd T s ty x := by
  cases x with
  | tmp t => simp only [rd, hs t (mem_tmps hx)]
  | _ => rfl

theorem cst_has (v : Value) (nm : Nat) : (cst v).has nm = false := by
  unfold cst
  split <;> rfl
theorem rety_has {ty : TypeId} {sv : SV} {nm : Nat} (h : sv.has nm = false) : (rety T ty sv).has nm = false := by
  unfold rety
  split
  · split
    · split
      · split <;> rfl
      · rfl
    · rfl
  · exact h

/-- What an operand leads to, a slot of the operation leads to. -/
theorem rd_has {o : Oper} {x : Operand} (hx : x ∈ o.op.operands.toList) {ty : TypeId} {nm : Nat} (hr : (rd T s ty x).has nm = true) : ∃ t ∈ tmpsOf o, (s.slots t).has nm = true := by
  cases x with
  | tmp t => exact ⟨t, mem_tmps hx, hr⟩
  | const v =>
    simp only [rd] at hr
    rw [rety_has (cst_has v nm)] at hr
    cases hr
  | global g => cases hr
  | func f => cases hr

theorem layParts_eq {place : Nat → Option (Nat × Nat)} {g g' : Operand → SV} : ∀ (ps : List (Nat × Operand)) (zs : List CV), (∀ p ∈ ps, g' p.2 = g p.2) → layParts T place g' zs ps = layParts T place g zs ps
  | [], zs, _ => rfl
  | (i, x) :: ps, zs, hg => by
    simp only [layParts, hg (i, x) (by simp)]
    split
    · split
      · exact layParts_eq ps _ (fun p hp => hg p (by simp [hp]))
      · rfl
    · rfl

theorem capsOf_eq {g g' : Operand → SV} : ∀ (xs : List Operand), (∀ x ∈ xs, g' x = g x) → capsOf g' xs = capsOf g xs
  | [], _ => rfl
  | x :: xs, h => by simp only [capsOf, h x (by simp), capsOf_eq xs (fun y hy => h y (by simp [hy]))]

/-- The operands behind which an operation looks into memory. -/
def hotX (o : Oper) : List Operand :=
  match o.op with
  | .store _ x _ => [x]
  | .load _ x => [x]
  | .indexAddr _ x _ => [x]
  | .slice _ x _ _ _ => [x]
  | .lookup _ x _ _ => [x]
  | .call _ => o.op.operands.toList
  | _ => []
def hotOf (o : Oper) : List Nat := (hotX o).filterMap fun | .tmp t => some t | _ => none
theorem hotX_sub {o : Oper} {x : Operand} (h : x ∈ hotX o) : x ∈ o.op.operands.toList := by
  obtain ⟨dst, op, type, pos, after, guard⟩ := o
  cases op <;> simp_all [hotX, Op.operands]
theorem hot_sub {o : Oper} {t : Nat} (h : t ∈ hotOf o) : t ∈ tmpsOf o := by
  obtain ⟨x, hx, he⟩ := List.mem_filterMap.1 h
  exact List.mem_filterMap.2 ⟨x, hotX_sub hx, he⟩
theorem hot_has {o : Oper} {x : Operand} (hx : x ∈ hotX o) {ty : TypeId} {nm : Nat} (hr : (rd T s ty x).has nm = true) : ∃ t ∈ hotOf o, (s.slots t).has nm = true := by
  cases x with
  | tmp t => exact ⟨t, List.mem_filterMap.2 ⟨_, hx, rfl⟩, hr⟩
  | const v =>
    simp only [rd] at hr
    rw [rety_has (cst_has v nm)] at hr
    cases hr
  | global g => cases hr
  | func f => cases hr

/-- The states agree on what an operation looks at. -/
structure Agree (o : Oper) (s s' : St) : Prop where
  slots : ∀ t ∈ tmpsOf o, s'.slots t = s.slots t
  heap : ∀ nm, (∃ t ∈ hotOf o, (s.slots t).has nm = true) → s'.heap nm = s.heap nm

theorem Agree.symm {o : Oper} (h : Agree o s s') : Agree o s' s := ⟨fun t ht => (h.slots t ht).symm, fun nm ⟨t, ht, hh⟩ => (h.heap nm ⟨t, ht, by rw [← h.slots t (hot_sub ht)]; exact hh⟩).symm⟩

theorem Agree.at {o : Oper} (h : Agree o s s') {x : Operand} (hx : x ∈ hotX o) {ty : TypeId} {nm : Nat} (hr : (rd T s ty x).has nm = true) : s'.heap nm = s.heap nm := h.heap nm (hot_has (T := T) hx hr)

theorem lenOfC_eq {k : TK} {sv : SV} (h : ∀ nm, sv.has nm = true → s'.heap nm = s.heap nm) : lenOfC s' k sv = lenOfC s k sv := by
  unfold lenOfC
  split <;> (try rfl)
  rename_i nm
  rw [h nm (by simp [SV.has, CV.has])]

theorem viewC_eq {c : CV} (h : ∀ nm, c.has nm = true → s'.heap nm = s.heap nm) : viewC s'.heap c = viewC s.heap c := by
  unfold viewC
  split <;> (try rfl)
  rename_i nm lo len
  rw [h nm (by simp [CV.has])]

theorem viewCL_eq : ∀ {l : List CV}, (∀ nm, hasL nm l = true → s'.heap nm = s.heap nm) → viewCL s'.heap l = viewCL s.heap l
  | [], _ => rfl
  | c :: l, h => by
    simp only [viewCL]
    rw [viewC_eq (fun nm hn => h nm (by simp [hasL, hn])), viewCL_eq (fun nm hn => h nm (by simp [hasL, hn]))]

theorem argOf_eq {sv : SV} (h : ∀ nm, sv.has nm = true → s'.heap nm = s.heap nm) : argOf s'.heap sv = argOf s.heap sv := by
  cases sv with
  | c c => simp only [argOf]; rw [viewC_eq (fun nm hn => h nm hn)]
  | agg cs => simp only [argOf]; rw [viewCL_eq (fun nm hn => h nm hn)]
  | _ => rfl

theorem argsOf_eq {o : Oper} (ha : Agree o s s') : ∀ (xs : List Operand) (ts : List TypeId), (∀ x ∈ xs, x ∈ hotX o) → argsOf T s' xs ts = argsOf T s xs ts ∧ anyMr T s' xs ts = anyMr T s xs ts
  | [], ts, _ => ⟨rfl, by cases ts <;> rfl⟩
  | x :: xs, [], h => ⟨rfl, rfl⟩
  | x :: xs, t :: ts, h => by
    obtain ⟨h1, h2⟩ := argsOf_eq ha xs ts (fun y hy => h y (by simp [hy]))
    have hx := h x (by simp)
    simp only [argsOf, anyMr, rd_eq ha.slots (hotX_sub hx), h1, h2]
    rw [argOf_eq (fun nm hn => ha.at hx hn)]
    exact ⟨rfl, trivial⟩

theorem baseOf_eq {sv : SV} (h : ∀ nm, sv.has nm = true → s'.heap nm = s.heap nm) : baseOf s' sv = baseOf s sv := by
  unfold baseOf
  split <;> (try rfl)
  rename_i nm lo len
  rw [h nm (by simp [SV.has, CV.has])]

theorem srcOf_eq {sv : SV} (h : ∀ nm, sv.has nm = true → s'.heap nm = s.heap nm) : srcOf s' sv = srcOf s sv := by
  unfold srcOf
  split <;> (try rfl)
  rename_i nm lo len
  rw [h nm (by simp [SV.has, CV.has])]

theorem bnd_eq {o : Oper} (ha : Agree o s s') {z : Nat} {x : Option Operand} (hx : ∀ y, x = some y → y ∈ o.op.operands.toList) : bnd T s' z x = bnd T s z x := by
  cases x with
  | none => rfl
  | some y => simp only [bnd, rd_eq ha.slots (hx y rfl)]

theorem esOf_eq {sv : SV} (h : ∀ nm, sv.has nm = true → s'.heap nm = s.heap nm) : esOf s' sv = esOf s sv := by
  unfold esOf
  split <;> (try rfl)
  rename_i nm
  rw [h nm (by simp [SV.has, CV.has])]

theorem quiet_eq {o : Oper} (ha : Agree o s s') : quiet T s' o = quiet T s o := by
  have hr : ∀ x ∈ o.op.operands.toList, ∀ ty, rd T s' ty x = rd T s ty x := fun x hx ty => rd_eq ha.slots hx ty
  have hn : ∀ x ∈ hotX o, ∀ ty nm, (rd T s ty x).has nm = true → s'.heap nm = s.heap nm := fun x hx ty nm => ha.at hx
  have hb : ∀ (x : Option Operand) (z : Nat), (∀ y, x = some y → y ∈ o.op.operands.toList) → bnd T s' z x = bnd T s z x := fun x z hx => bnd_eq ha hx
  obtain ⟨dst, op, type, pos, after, guard⟩ := o
  simp only at hr hn hb
  unfold quiet
  simp only
  cases op with
  | move x => simp only; rw [hr x (by simp [Op.operands])]
  | assign x => simp only; rw [hr x (by simp [Op.operands])]
  | nilCheck x => (try simp only); rw [hr x (by simp [Op.operands])]
  | pick c a b => simp only; rw [hr c (by simp [Op.operands]), hr a (by simp [Op.operands]), hr b (by simp [Op.operands])]
  | binOp b ty x y yt => simp only; rw [hr x (by simp [Op.operands]), hr y (by simp [Op.operands])]
  | unOp u ty x => simp only; rw [hr x (by simp [Op.operands])]
  | convert a b x => simp only; rw [hr x (by simp [Op.operands])]
  | build t parts =>
    (try simp only)
    have : ∀ (ti : TI), layParts T (placeOf T ti) (rd T s' 0) ti.zero parts.toList = layParts T (placeOf T ti) (rd T s 0) ti.zero parts.toList := fun ti => layParts_eq _ _ (fun p hp => hr p.2 (by simp [Op.operands]; exact ⟨p.1, by simpa using hp⟩) 0)
    simp only [this]
  | field t x f => simp only; rw [hr x (by simp [Op.operands])]
  | extract t i => simp only; rw [hr t (by simp [Op.operands])]
  | index t x i => simp only; rw [hr x (by simp [Op.operands]), hr i (by simp [Op.operands])]
  | indexAddr t x i =>
    (try simp only)
    have hx : x ∈ (Op.indexAddr t x i).operands.toList := by simp [Op.operands]
    rw [hr x hx, hr i (by simp [Op.operands])]
    split <;> (try rfl)
    rename_i ti nm lo len k m ht hxv hi
    rw [hn x (by simp [hotX]) t nm (by rw [hxv]; simp [SV.has, CV.has])]
  | fieldAddr t x f => simp only; rw [hr x (by simp [Op.operands])]
  | load t x =>
    (try simp only)
    have hx : x ∈ (Op.load t x).operands.toList := by simp [Op.operands]
    rw [hr x hx]
    split <;> (try rfl)
    rename_i ti nm i0 o0 ht hxv
    rw [hn x (by simp [hotX]) 0 nm (by rw [hxv]; simp [SV.has, CV.has])]
  | call c =>
    (try simp only)
    obtain ⟨cal, args, ats⟩ := c
    unfold quietCall
    cases cal with
    | builtin b =>
      (try simp only)
      have hm : ∀ x ∈ args.toList, x ∈ (Op.call ⟨.builtin b, args, ats⟩).operands.toList := fun x hx => by simpa [Op.operands, Call.operands] using hx
      split <;> (try rfl)
      · rename_i x t ha' hat
        have hx := hm x (by rw [ha']; simp)
        simp only [hr x hx, lenOfC_eq (fun nm h => hn x (by simpa only [hotX] using hx) t nm h)]
      · rename_i x y ha'
        rw [hr x (hm x (by rw [ha']; simp)), hr y (hm y (by rw [ha']; simp))]
      · rename_i x y ha'
        rw [hr x (hm x (by rw [ha']; simp)), hr y (hm y (by rw [ha']; simp))]
    | _ => rfl
  | makeFunc f a b =>
    have e1 : capsOf (rd T s' 0) a.toList = capsOf (rd T s 0) a.toList := capsOf_eq a.toList (fun x hx => hr x (by simp [Op.operands]; exact .inl (by simpa using hx)) 0)
    have e2 : capsOf (rd T s' 0) b.toList = capsOf (rd T s 0) b.toList := capsOf_eq b.toList (fun x hx => hr x (by simp [Op.operands]; exact .inr (by simpa using hx)) 0)
    cases f <;> (try rfl)
    simp only [e1, e2]
  | makeInterface t x => (try simp only); rw [hr x (by simp [Op.operands])]
  | typeAssert x xt ty ok =>
    cases ok with
    | true => rfl
    | false => (try simp only); rw [hr x (by simp [Op.operands])]
  | slice t x lo hi mx =>
    have hx : x ∈ (Op.slice t x lo hi mx).operands.toList := by simp [Op.operands]
    have hlo : ∀ y, lo = some y → y ∈ (Op.slice t x lo hi mx).operands.toList := fun y hy => by subst hy; simp [Op.operands]
    have hhi : ∀ y, hi = some y → y ∈ (Op.slice t x lo hi mx).operands.toList := fun y hy => by subst hy; simp [Op.operands]
    have hmx : ∀ y, mx = some y → y ∈ (Op.slice t x lo hi mx).operands.toList := fun y hy => by subst hy; simp [Op.operands]
    cases mx with
    | none =>
      (try simp only)
      rw [hr x hx]
      split <;> (try rfl)
      · rename_i ti sz rows ht hxv
        rw [hb lo 0 hlo, hb hi rows.length hhi]
      · rename_i ti sz rows L9 ht hxv
        rw [hb lo 0 hlo, hb hi L9 hhi]
      · rename_i ti nm lo0 len ht hxv
        rw [hb lo 0 hlo, hb hi len hhi, hn x (by simp [hotX]) t nm (by rw [hxv]; simp [SV.has, CV.has])]
      · rw [hb lo 0 hlo, hb hi 0 hhi]
      · rename_i ti s9 ht hxv
        rw [hb lo 0 hlo, hb hi s9.size hhi]
    | some m =>
      cases hi with
      | none => rfl
      | some h =>
        (try simp only)
        rw [hr x hx, hb lo 0 hlo, hb (some h) 0 hhi, hb (some m) 0 hmx]
  | lookup t x i ok =>
    (try simp only)
    have hx : x ∈ (Op.lookup t x i ok).operands.toList := by simp [Op.operands]
    have hi : i ∈ (Op.lookup t x i ok).operands.toList := by simp [Op.operands]
    have he : esOf s' (rd T s t x) = esOf s (rd T s t x) := esOf_eq fun nm h => hn x (by simp [hotX]) t nm h
    unfold lookupS
    simp only [hr x hx, hr i hi, he]
  | _ => rfl

theorem calleeOf_eq {o : Oper} (ha : Agree o s s') {x : Operand} (hx : x ∈ o.op.operands.toList) : calleeOf T s' (.value x) = calleeOf T s (.value x) := by
  simp only [calleeOf, rd_eq ha.slots hx]

theorem calleeOf_has {x : Operand} {f : FuncId} {a b : List CV} (h : calleeOf T s (.value x) = some (f, a, b)) {nm : Nat} (hn : hasL nm a = true ∨ hasL nm b = true) : (rd T s 0 x).has nm = true := by
  simp only [calleeOf] at h
  split at h
  · simp only [Option.some.injEq, Prod.mk.injEq] at h
    obtain ⟨_, rfl, rfl⟩ := h
    rcases hn with h | h <;> cases h
  · rename_i f' a' b' hs
    simp only [Option.some.injEq, Prod.mk.injEq] at h
    obtain ⟨_, rfl, rfl⟩ := h
    rw [hs]
    simp only [SV.has, CV.has, Bool.or_eq_true]
    exact hn
  · cases h

theorem calleeOf_eqI {o : Oper} (ha : Agree o s s') {x : Operand} {m : String} (hx : x ∈ o.op.operands.toList) : calleeOf T s' (.invoke x m) = calleeOf T s (.invoke x m) := by
  simp only [calleeOf, rd_eq ha.slots hx]
theorem calleeOf_hasI {x : Operand} {m : String} {f : FuncId} {a b : List CV} (h : calleeOf T s (.invoke x m) = some (f, a, b)) {nm : Nat} (hn : hasL nm a = true ∨ hasL nm b = true) : (rd T s 0 x).has nm = true := by
  simp only [calleeOf] at h
  split at h
  · rename_i ty c hs
    split at h
    · split at h
      · simp only [Option.some.injEq, Prod.mk.injEq] at h
        obtain ⟨_, rfl, rfl⟩ := h
        rw [hs]
        simp only [SV.has, CV.has]
        rcases hn with h | h
        · exact h
        · cases h
      · cases h
    · cases h
  · cases h

theorem argsRaw_eq : ∀ (xs : List Operand) (ts : List TypeId), (∀ y ∈ xs, ∀ t, rd T s' t y = rd T s t y) → argsRaw T s' xs ts = argsRaw T s xs ts
  | [], _, _ => rfl
  | x :: xs, [], _ => rfl
  | x :: xs, t :: ts, h => by
    simp only [argsRaw]
    rw [h x (by simp) t, argsRaw_eq xs ts fun y hy => h y (by simp [hy])]
    rfl

/-- THE PLACE: a step is the same where what it looks at is the same. -/
theorem wpE_eq {o : Oper} (ha : Agree o s s') {R : Ef → Prop} (h : wpE E T o R s) : wpE E T o R s' := by
  have hr : ∀ x ∈ o.op.operands.toList, ∀ ty, rd T s' ty x = rd T s ty x := fun x hx ty => rd_eq ha.slots hx ty
  have hn : ∀ x ∈ hotX o, ∀ ty nm, (rd T s ty x).has nm = true → s'.heap nm = s.heap nm := fun x hx ty nm => ha.at hx
  have hq : quietE T o R s → quietE T o R s' := fun h => by unfold quietE at h ⊢; rw [quiet_eq ha]; exact h
  unfold wpE at h ⊢
  cases ho : o.op <;> simp only [ho] at h ⊢ <;> (try exact hq h)
  case alloc t => exact h
  case box t x => rw [hr x (by rw [ho]; simp [Op.operands])]; exact h
  case makeSlice t l c => rw [hr l (by rw [ho]; simp [Op.operands]), hr c (by rw [ho]; simp [Op.operands])]; exact h
  case buildSlice t len parts =>
    have : ∀ (e : TypeId) (place : Nat → Option (Nat × Nat)) (zs : List CV), layParts T place (rd T s' e) zs parts.toList = layParts T place (rd T s e) zs parts.toList := fun e place zs => layParts_eq _ _ (fun p hp => hr p.2 (by rw [ho]; simp [Op.operands]; exact ⟨p.1, by simpa using hp⟩) e)
    simp only [this]; exact h
  case load t x =>
    rcases h with h | ⟨h0, h⟩
    · exact .inl (hq h)
    · refine .inr ⟨h0, ?_⟩
      have hx : x ∈ o.op.operands.toList := by rw [ho]; simp [Op.operands]
      unfold loadOwnE at h ⊢
      rw [hr x hx]
      split at h
      · rename_i ti nm ht hxv
        rw [hn x (by simp [hotX, ho]) 0 nm (by rw [hxv]; simp [SV.has, CV.has])]
        exact h
      · exact h
  case store t x v =>
    have hx : x ∈ o.op.operands.toList := by rw [ho]; simp [Op.operands]
    unfold storeE at h ⊢
    rw [hr x hx, hr v (by rw [ho]; simp [Op.operands])]
    split at h
    · rename_i ti nm i o0 cs ht hxv hcs
      rw [hn x (by simp [hotX, ho]) 0 nm (by rw [hxv]; simp [SV.has, CV.has])]
      exact h
    · exact h
  case call c =>
    obtain ⟨cal, args, ats⟩ := c
    simp only at h ⊢
    have hhot : hotX o = o.op.operands.toList := by unfold hotX; rw [ho]
    cases cal with
    | value x =>
      simp only at h ⊢
      have hx : x ∈ o.op.operands.toList := by rw [ho]; simp [Op.operands, Call.operands]
      have hm : ∀ y ∈ args.toList, y ∈ o.op.operands.toList := fun y hy => by rw [ho]; simp [Op.operands, Call.operands]; exact .inr (by simpa using hy)
      rcases h with h | ⟨h0, h⟩ | ⟨h0, h⟩
      · refine .inl ?_
        obtain ⟨h1, h2⟩ := argsOf_eq (T := T) ha args.toList ats.toList (fun y hy => by rw [hhot]; exact hm y hy)
        unfold callE at h ⊢
        rw [calleeOf_eq ha hx, h1, h2]
        split at h
        · rename_i f a b vs hc hvs
          rw [viewCL_eq (l := a) (fun nm hnm => hn x (by rw [hhot]; exact hx) 0 nm (calleeOf_has hc (.inl hnm))), viewCL_eq (l := b) (fun nm hnm => hn x (by rw [hhot]; exact hx) 0 nm (calleeOf_has hc (.inr hnm)))]
          exact h
        · exact h
      · refine .inr (.inl ⟨h0, ?_⟩)
        unfold callN at h ⊢
        rw [calleeOf_eq ha hx, argsRaw_eq args.toList ats.toList (fun y hy t => hr y (hm y hy) t)]
        exact h
      · refine .inr (.inr ⟨h0, ?_⟩)
        unfold callQ at h ⊢
        rw [calleeOf_eq ha hx, argsRaw_eq args.toList ats.toList (fun y hy t => hr y (hm y hy) t)]
        split at h
        · obtain ⟨ρ, cargs, hh, res, a1, a2, a3, a4, a5, a6, a7, a8⟩ := h
          have hin : ∀ y ∈ x :: args.toList, y ∈ o.op.operands.toList := fun y hy => by
            rcases List.mem_cons.1 hy with rfl | hy
            · exact hx
            · exact hm y hy
          refine ⟨ρ, cargs, hh, res, a1, a2, hAll_of fun p hp => ?_, a4, a5, a6, fun k hk => ?_, a8⟩
          · have hb := hAll_at a3 p hp
            have : ∃ j ∈ hh.map (·.1), ρ j = p.1 := by
              clear a1 a2 a3 a4 a6 a7 hb
              induction hh with
              | nil => cases hp
              | cons q r ih =>
                rcases List.mem_cons.1 (show p ∈ (ρ q.1, q.2.ren ρ) :: hRen ρ r from hp) with rfl | hp
                · exact ⟨q.1, by simp, rfl⟩
                · obtain ⟨j, q1, q2⟩ := ih hp
                  exact ⟨j, by simp only [List.map_cons, List.mem_cons]; exact .inr q1, q2⟩
            obtain ⟨j, q1, q2⟩ := this
            obtain ⟨y, hy, t, hyt⟩ := a7 j q1
            rw [hn y (by rw [hhot]; exact hin y hy) t p.1 (by rw [← q2]; exact hyt)]
            exact hb
          · obtain ⟨y, hy, t, hyt⟩ := a7 k hk
            exact ⟨y, hy, t, by rw [hr y (hin y hy) t]; exact hyt⟩
        · exact h
    | builtin b =>
      cases b <;> (try exact hq h)
      show match args.toList, ats.toList with
        | [x, y], [t, t2] => appendE T (ownApp o) x y t t2 R s'
        | _, _ => False
      replace h : match args.toList, ats.toList with
        | [x, y], [t, t2] => appendE T (ownApp o) x y t t2 R s
        | _, _ => False := h
      split at h
      · rename_i x y t t2 hargs hats
        have hm : ∀ y ∈ args.toList, y ∈ o.op.operands.toList := fun y hy => by rw [ho]; simp [Op.operands, Call.operands]; simpa using hy
        have hx := hm x (by rw [hargs]; simp)
        have hy := hm y (by rw [hargs]; simp)
        unfold appendE at h ⊢
        rw [hr x hx, hr y hy, baseOf_eq (fun nm h => hn x (by rw [hhot]; exact hx) t nm h), srcOf_eq (fun nm h => hn y (by rw [hhot]; exact hy) t2 nm h)]
        exact h
      · exact h
    | invoke x m =>
      simp only at h ⊢
      have hx : x ∈ o.op.operands.toList := by rw [ho]; simp [Op.operands, Call.operands]
      have hm : ∀ y ∈ args.toList, y ∈ o.op.operands.toList := fun y hy => by rw [ho]; simp [Op.operands, Call.operands]; exact .inr (by simpa using hy)
      obtain ⟨h1, h2⟩ := argsOf_eq (T := T) ha args.toList ats.toList (fun y hy => by rw [hhot]; exact hm y hy)
      unfold callE at h ⊢
      rw [calleeOf_eqI ha hx, h1, h2]
      split at h
      · rename_i f a b vs hc hvs
        rw [viewCL_eq (l := a) (fun nm hnm => hn x (by rw [hhot]; exact hx) 0 nm (calleeOf_hasI hc (.inl hnm))), viewCL_eq (l := b) (fun nm hnm => hn x (by rw [hhot]; exact hx) 0 nm (calleeOf_hasI hc (.inr hnm)))]
        exact h
      · exact h
end
end Go.Proofs.Ytgmjgognpabmdaa.Fx
