/- The evaluator's second make: steps that may change places. -/
import Derived.Test.YtgmjgognpabmdaaFx15
namespace Go.Proofs.Ytgmjgognpabmdaa.Fx
open Go Go.RowKit
set_option linter.unusedSimpArgs false
set_option linter.unusedVariables false
section
variable {P : Program} {E : Env} {T : TypeId → Option TI} {n : Nat} {K : St → Prop} {s s' s1 s2 : St} {all : Array Oper}

/-- Something leads to the name. -/
def Leads (s : St) (nm : Nat) : Prop := (∃ t, (s.slots t).has nm = true) ∨ ∃ k blk, s.heap k = some blk ∧ blk.has nm = true

/-- Operations that give a name. -/
def namerOp (o : Oper) : Bool :=
  match o.op with
  | .alloc _ | .box _ _ | .makeSlice _ _ _ | .buildSlice _ _ _ => true
  | .load _ _ => ownLoad o
  | .call c => match c.callee with | .builtin .append => true | _ => namedOp o
  | _ => false
/-- Operations that turn what is there. -/
def writerOp (o : Oper) : Bool :=
  match o.op with
  | .store _ _ _ => true
  | .load _ _ => ownLoad o
  | .call c => match c.callee with | .builtin .append => true | _ => false
  | _ => false

/-- What is known of a step's effect. -/
structure Shape (o : Oper) (s : St) (e : Ef) : Prop where
  /-- a slot's value -/
  val : ∀ sv, e = .put sv → ∀ nm, sv.has nm = true → (carries o = true ∧ ∃ t ∈ tmpsOf o, (s.slots t).has nm = true) ∨ (loads o = true ∧ (∃ t ∈ tmpsOf o, ∃ k, (s.slots t).has k = true) ∧ ∃ k blk, s.heap k = some blk ∧ blk.has nm = true)
  name : ∀ blk sv, e = .name blk sv → namerOp o = true ∧ (∀ d nm, (sv d).has nm = true → nm = d) ∧ ∀ nm, blk.has nm = true → Leads s nm
  give : ∀ k blk sv, e = .give k blk sv → namerOp o = true ∧ (∀ d nm, (sv d).has nm = true → nm = d) ∧ (∀ nm, blk.has nm = true → Leads s nm) ∧ ∀ j, k = some j → writerOp o = true ∧ ∃ t ∈ hotOf o, (s.slots t).has j = true
  upd : ∀ k blk, e = .upd k blk → writerOp o = true ∧ (∃ t ∈ hotOf o, (s.slots t).has k = true) ∧ ∀ nm, blk.has nm = true → Leads s nm

theorem resSV_has {res : List AV} {nm : Nat} (h : hasA nm res = false) : (resSV res).has nm = false := by
  unfold resSV
  split
  · rename_i r
    simp only [hasA, Bool.or_false] at h
    cases r <;> exact h
  · exact h

theorem leads_of {o : Oper} {nm : Nat} (h : ∃ t ∈ tmpsOf o, (s.slots t).has nm = true) : Leads s nm := by
  obtain ⟨t, _, h⟩ := h; exact .inl ⟨t, h⟩

theorem mr_one {d nm lo len : Nat} (h : (SV.c (.mr d lo len)).has nm = true) : nm = d := by
  simp only [SV.has, CV.has, beq_iff_eq] at h; exact h.symm
theorem mp_one {d nm lo len : Nat} (h : (SV.c (.mp d lo len)).has nm = true) : nm = d := by
  simp only [SV.has, CV.has, beq_iff_eq] at h; exact h.symm

theorem sub_has {nm : Nat} {rows : List (List CV)} {lo len : Nat} (h : hasRows nm ((rows.drop lo).take len) = true) : hasRows nm rows = true := by
  obtain ⟨r, h1, c, h2, h3⟩ := hasRows_ex h
  exact hasRows_mem (List.mem_of_mem_drop (List.mem_of_mem_take h1)) h2 h3

theorem base_leads {sv : SV} {k : Option Nat} {sz nm : Nat} {rows : List (List CV)} (h : baseOf s sv = some (k, sz, rows)) : (hasRows nm rows = true → ∃ j blk, s.heap j = some blk ∧ blk.has nm = true) ∧ ∀ j, k = some j → sv.has j = true := by
  unfold baseOf at h
  split at h
  · simp only [Option.some.injEq, Prod.mk.injEq] at h
    obtain ⟨rfl, _, rfl⟩ := h
    exact ⟨fun h => (by cases h), fun j h => (by cases h)⟩
  · split at h
    · rename_i hb
      split at h
      · simp only [Option.some.injEq, Prod.mk.injEq] at h
        obtain ⟨rfl, _, rfl⟩ := h
        exact ⟨fun h => ⟨_, _, hb, sub_has h⟩, fun j h => (by cases h; simp [SV.has, CV.has])⟩
      · cases h
    · cases h
  · cases h

theorem src_leads {sv : SV} {sz nm : Nat} {rows : List (List CV)} (h : srcOf s sv = some (sz, rows)) (hn : hasRows nm rows = true) : ∃ j blk, s.heap j = some blk ∧ blk.has nm = true := by
  unfold srcOf at h
  split at h
  · simp only [Option.some.injEq, Prod.mk.injEq] at h
    obtain ⟨_, rfl⟩ := h
    rw [hasRows_up] at hn; cases hn
  · simp only [Option.some.injEq, Prod.mk.injEq] at h
    obtain ⟨_, rfl⟩ := h
    cases hn
  · split at h
    · rename_i hb
      split at h
      · simp only [Option.some.injEq, Prod.mk.injEq] at h
        obtain ⟨_, rfl⟩ := h
        exact ⟨_, _, hb, sub_has hn⟩
      · cases h
    · cases h
  · cases h

theorem shape_name {o : Oper} {blk : Blk} {sv : Nat → SV} (h1 : namerOp o = true) (h2 : ∀ d nm, (sv d).has nm = true → nm = d) (h3 : ∀ nm, blk.has nm = true → Leads s nm) : Shape o s (.name blk sv) :=
  ⟨fun _ h => (by cases h), fun _ _ h => (by cases h; exact ⟨h1, h2, h3⟩), fun _ _ _ h => (by cases h), fun _ _ h => (by cases h)⟩

theorem shape_of (hT : TOk P T) {o : Oper} {e : Ef} (h : wpE E T o (· = e) s) : Shape o s e := by
  have hq : quietE T o (· = e) s → Shape o s e := by
    intro h
    unfold quietE at h
    split at h
    · rename_i sv hsv
      subst h
      exact ⟨fun sv' h => (by cases h; exact fun nm hn => quiet_src hT hsv hn), fun _ _ h => (by cases h), fun _ _ _ h => (by cases h), fun _ _ h => (by cases h)⟩
    · exact h.elim
  have hd := fun (x : Operand) (hx : x ∈ o.op.operands.toList) (ty k : Nat) (h : (rd T s ty x).has k = true) => rd_has (T := T) hx h
  unfold wpE at h
  cases ho : o.op <;> simp only [ho] at h <;> (try exact hq h)
  case alloc t =>
    split at h
    · rename_i ti ht
      split at h
      · subst h
        exact shape_name (by simp [namerOp, ho]) (fun d nm => mp_one) (fun nm hn => by
          rw [show Blk.has nm (.cells ti.zero.length [ti.zero]) = hasRows nm [ti.zero] from rfl] at hn
          simp [hasRows, zero_has hT ht] at hn)
      · exact h.elim
    · exact h.elim
  case box t x =>
    split at h
    · rename_i cs hcs
      split at h
      · subst h
        exact shape_name (by simp [namerOp, ho]) (fun d nm => mp_one) (fun nm hn => by
          rw [show Blk.has nm (.cells cs.length [cs]) = hasRows nm [cs] from rfl] at hn
          simp only [hasRows, Bool.or_false] at hn
          exact leads_of (hd x (by rw [ho]; simp [Op.operands]) t nm (cells_has hcs hn)))
      · exact h.elim
    · exact h.elim
  case makeSlice t l c =>
    split at h
    · split at h
      · split at h
        · rename_i te hte
          split at h
          · obtain ⟨_, rfl⟩ := h
            exact shape_name (by simp [namerOp, ho]) (fun d nm => mr_one) (fun nm hn => by
              rw [show Blk.has nm (.cells te.size _) = hasRows nm _ from rfl, hasRows_replicate nm te.zero (zero_has hT hte nm)] at hn; cases hn)
          · exact h.elim
        · exact h.elim
      · exact h.elim
    · exact h.elim
  case buildSlice t len parts =>
    split at h
    · split at h
      · rename_i e' _
        split at h
        · rename_i te hte
          split at h
          · split at h
            · rename_i cs hcs
              rcases h with rfl | ⟨_, h⟩
              case inr =>
                split at h
                · obtain ⟨_, rfl⟩ := h
                  exact ⟨fun sv' h => (by cases h; exact fun nm hn => (by cases hn)), fun _ _ h => (by cases h), fun _ _ _ h => (by cases h), fun _ _ h => (by cases h)⟩
                · exact h.elim
              exact shape_name (by simp [namerOp, ho]) (fun d nm => mr_one) (fun nm hn => by
                have h1 := chunk_has _ _ (show hasRows nm (chunk te.size len cs) = true from hn)
                rcases layParts_has _ _ _ hcs h1 with h2 | ⟨p, h2, h3⟩
                · rw [flatten_has (zero_has hT hte nm)] at h2; cases h2
                · exact leads_of (hd p.2 (by rw [ho]; simp [Op.operands]; exact ⟨p.1, by simpa using h2⟩) e' nm h3))
            · exact h.elim
          · exact h.elim
        · exact h.elim
      · exact h.elim
    · exact h.elim
  case load t x =>
    rcases h with h | ⟨h0, h⟩
    · exact hq h
    · unfold loadOwnE at h
      split at h
      · rename_i ti nm0 ht hxv
        split at h
        · rename_i sz0 sz rows hb
          obtain ⟨_, rfl⟩ := h
          refine ⟨fun _ h => (by cases h), fun _ _ h => (by cases h), fun k' b' sv' h => ?_, fun _ _ h => (by cases h)⟩
          cases h
          refine ⟨by unfold namerOp; rw [ho]; exact h0, fun d nm => mr_one, fun nm hn => .inr ⟨nm0, _, hb, ?_⟩, fun j hj => ⟨by unfold writerOp; rw [ho]; exact h0, ?_⟩⟩
          · show hasRows nm [[CV.own sz rows]] = true
            simpa [hasRows, hasL, CV.has] using (show hasRows nm rows = true from hn)
          · obtain rfl := Option.some.inj hj
            exact hot_has (T := T) (x := x) (by simp [hotX, ho]) (ty := 0) (by rw [hxv]; simp [SV.has, CV.has])
        · exact h.elim
      · exact h.elim
  case store t x v =>
    unfold storeE at h
    split at h
    · rename_i ti k i o0 cs ht hx hcs
      split at h
      · rename_i sz rows hb
        split at h
        · rename_i row hrow
          split at h
          · subst h
            refine ⟨fun _ h => (by cases h), fun _ _ h => (by cases h), fun _ _ _ h => (by cases h), fun k' b' h => ?_⟩
            cases h
            refine ⟨by simp [writerOp, ho], hot_has (T := T) (x := x) (by simp [hotX, ho]) (ty := 0) (by rw [hx]; simp [SV.has, CV.has]), fun nm hn => ?_⟩
            obtain ⟨r, h1, c, h2, h3⟩ := hasRows_ex (show hasRows nm (rows.set i (lay row o0 cs)) = true from hn)
            rcases List.mem_or_eq_of_mem_set h1 with h1 | rfl
            · exact .inr ⟨k, _, hb, hasRows_mem h1 h2 h3⟩
            · rcases lay_has (hasL_mem h2 h3) with h4 | h4
              · obtain ⟨c', h5, h6⟩ := hasL_ex h4
                exact .inr ⟨k, _, hb, hasRows_mem (List.mem_of_getElem? hrow) h5 h6⟩
              · exact leads_of (hd v (by rw [ho]; simp [Op.operands]) t nm (cells_has hcs h4))
          · exact h.elim
        · exact h.elim
      · exact h.elim
    · exact h.elim
  case call c =>
    obtain ⟨cal, args, ats⟩ := c
    simp only at h
    cases cal with
    | value x =>
      simp only at h
      rcases h with h | ⟨h0, h⟩ | ⟨_, h⟩
      case inr.inr =>
        unfold callQ at h
        split at h
        · obtain ⟨ρ, cargs, hh, res, a1, a2, a3, a4, a5, a6, a7, rfl⟩ := h
          exact ⟨fun sv' h => (by cases h; exact fun nm hn => (by rw [resSV_has (a5 nm)] at hn; cases hn)), fun _ _ h => (by cases h), fun _ _ _ h => (by cases h), fun _ _ h => (by cases h)⟩
        · exact h.elim
      · unfold callE at h
        split at h
        · split at h
          · obtain ⟨res, h1, h2, h3, rfl⟩ := h
            exact ⟨fun sv' h => (by cases h; exact fun nm hn => (by rw [resSV_has (h2 nm)] at hn; cases hn)), fun _ _ h => (by cases h), fun _ _ _ h => (by cases h), fun _ _ h => (by cases h)⟩
          · exact h.elim
        · exact h.elim
      · unfold callN at h
        split at h
        · obtain ⟨_, nm, sz, rows, len, h1, h2, rfl⟩ := h
          exact shape_name (by unfold namerOp; rw [ho]; exact h0) (fun d nm => mr_one) (fun nm hn => by
            rw [show Blk.has nm (.cells sz rows) = hasRows nm rows from rfl, h2 nm] at hn; cases hn)
        · exact h.elim
    | builtin b =>
      cases b <;> (try exact hq h)
      replace h : match args.toList, ats.toList with
        | [x, y], [t, t2] => appendE T (ownApp o) x y t t2 (· = e) s
        | _, _ => False := h
      split at h
      · rename_i x y t t2 hargs hats
        have hm : ∀ y ∈ args.toList, y ∈ o.op.operands.toList := fun y hy => by rw [ho]; simp [Op.operands, Call.operands]; simpa using hy
        have hhot : hotX o = o.op.operands.toList := by unfold hotX; rw [ho]
        unfold appendE at h
        split at h
        · split at h
          · split at h
            · rename_i te k sz rows sz2 ys he hx hy
              split at h
              · obtain ⟨_, hef0⟩ := h
                rcases apEf_cases (ownApp o) k te.size (rows ++ ys) with hef | ⟨trows, _, _, hef⟩
                case inr =>
                  rw [hef] at hef0
                  subst hef0
                  refine ⟨fun _ h => (by cases h), fun _ _ h => (by cases h), fun k' b' sv' h => ?_, fun _ _ h => (by cases h)⟩
                  cases h
                  exact ⟨by simp [namerOp, ho], fun d nm h => (by cases h), fun nm hn => (by cases hn), fun j hj => ⟨by simp [writerOp, ho], hot_has (T := T) (x := x) (hhot ▸ hm x (by rw [hargs]; simp)) (ty := t) ((base_leads (nm := 0) hx).2 j hj)⟩⟩
                rw [hef] at hef0
                subst hef0
                refine ⟨fun _ h => (by cases h), fun _ _ h => (by cases h), fun k' b' sv' h => ?_, fun _ _ h => (by cases h)⟩
                cases h
                refine ⟨by simp [namerOp, ho], fun d nm => mr_one, fun nm hn => ?_, fun j hj => ⟨by simp [writerOp, ho], hot_has (T := T) (x := x) (hhot ▸ hm x (by rw [hargs]; simp)) (ty := t) ((base_leads (nm := 0) hx).2 j hj)⟩⟩
                have hn' : hasRows nm (rows ++ ys) = true := hn
                rw [hasRows_append, Bool.or_eq_true] at hn'
                rcases hn' with h | h
                · exact .inr ((base_leads hx).1 h)
                · exact .inr (src_leads hy h)
              · exact h.elim
            · exact h.elim
          · exact h.elim
        · exact h.elim
      · exact h.elim
    | invoke x m =>
      simp only at h
      unfold callE at h
      split at h
      · split at h
        · obtain ⟨res, h1, h2, h3, rfl⟩ := h
          exact ⟨fun sv' h => (by cases h; exact fun nm hn => (by rw [resSV_has (h2 nm)] at hn; cases hn)), fun _ _ h => (by cases h), fun _ _ _ h => (by cases h), fun _ _ h => (by cases h)⟩
        · exact h.elim
      · exact h.elim

/-! ### a step, with its guard -/
def guardSlot (all : Array Oper) (o : Oper) : List Nat :=
  match o.guard with
  | none => []
  | some (j, _) => match (all[j]?).bind (·.dst) with
    | some d => [d]
    | none => []

def looks (all : Array Oper) (o : Oper) : List Nat := tmpsOf o ++ guardSlot all o

theorem guard_congr {o : Oper} (hs : ∀ t ∈ guardSlot all o, s'.slots t = s.slots t) : guardOf all s' o = guardOf all s o := by
  unfold guardOf
  unfold guardSlot at hs
  cases hg : o.guard with
  | none => rfl
  | some p =>
    obtain ⟨j, want⟩ := p
    rw [hg] at hs
    simp only at hs ⊢
    cases hd : (all[j]?).bind (·.dst) with
    | none => rfl
    | some d =>
      rw [hd] at hs
      simp only
      rw [hs d (by simp)]

def gE (E : Env) (T : TypeId → Option TI) (all : Array Oper) (o : Oper) (R : Ef → Prop) (st : St) : Prop :=
  match guardOf all st o with
  | some c => if c = true then wpE E T o R st else R (.put (.tup []))
  | none => False

theorem gE_iff {o : Oper} {R : Ef → Prop} : gE E T all o R s ↔ ∃ e, gE E T all o (· = e) s ∧ R e := by
  unfold gE
  split
  · split
    · exact wpE_iff
    · simp
  · simp

theorem gE_eq {o : Oper} (ha : Agree o s s') (hg : ∀ t ∈ guardSlot all o, s'.slots t = s.slots t) {R : Ef → Prop} (h : gE E T all o R s) : gE E T all o R s' := by
  unfold gE at h ⊢
  rw [guard_congr hg]
  split at h
  · split at h
    · rename_i hc; rw [if_pos hc]; exact wpE_eq ha h
    · rename_i hc; rw [if_neg hc]; exact h
  · exact h

theorem gshape (hT : TOk P T) {o : Oper} {e : Ef} (h : gE E T all o (· = e) s) : Shape o s e := by
  unfold gE at h
  split at h
  · split at h
    · exact shape_of hT h
    · subst h
      exact ⟨fun sv' h => (by cases h; exact fun nm hn => (by cases hn)), fun _ _ h => (by cases h), fun _ _ _ h => (by cases h), fun _ _ h => (by cases h)⟩
  · exact h.elim

/-! ### effects, as slots and names that turn -/
def Ef.sup (dst : Option Nat) : Ef → Option (Nat × SV)
  | .put sv => dst.map (·, sv)
  | .name _ sv => dst.map fun d => (d, sv d)
  | .give _ _ sv => dst.map fun d => (d, sv d)
  | .upd _ _ => none
def Ef.hup (dst : Option Nat) : Ef → Nat → Option (Option Blk)
  | .put _, _ => none
  | .name blk _, k => if dst = some k then some (some blk) else none
  | .give nm blk _, k => if dst = some k then some (some blk) else if nm = some k then some none else none
  | .upd nm blk, k => if k = nm then some (some blk) else none
def setS (s : St) (u : Option (Nat × SV)) (h : Nat → Option (Option Blk)) : St :=
  { slots := match u with | some p => fun t => if t = p.1 then p.2 else s.slots t | none => s.slots, heap := fun k => match h k with | some v => v | none => s.heap k }
def Ef.fit (n : Nat) (dst : Option Nat) : Ef → Prop
  | .put _ => ∀ d, dst = some d → d < n
  | .name blk _ => ∃ d, dst = some d ∧ d < n ∧ blk.has d = false
  | .give _ blk _ => ∃ d, dst = some d ∧ d < n ∧ blk.has d = false
  | .upd _ _ => dst = none

theorem kill_self {st : St} {d : Nat} (h : ∀ t, (st.slots t).has d = false) : (fun t => (st.slots t).kill d) = st.slots := by
  funext t
  simp only [SV.kill, h t, Bool.false_eq_true, if_false]

/-- A step's end, where nothing leads to the name that it gives. -/
theorem runE_set {dst : Option Nat} {e : Ef} {o : Oper} (hs : Shape o s e) (hno : ∀ d, dst = some d → namerOp o = true → ¬ Leads s d) : runE n dst K s e ↔ e.fit n dst ∧ K (setS s (e.sup dst) (e.hup dst)) := by
  cases e with
  | put sv =>
    cases dst with
    | none => simp only [runE, putK, Ef.fit, Ef.sup, Ef.hup, setS, Option.map_none]; simp
    | some d =>
      simp only [runE, putK, Ef.fit, Ef.sup, Ef.hup, setS, Option.map_some]
      have : s.put d sv = { slots := fun t => if t = d then sv else s.slots t, heap := fun k => s.heap k } := rfl
      rw [this]
      by_cases hd : d < n
      · rw [if_pos hd]; simp [hd]
      · rw [if_neg hd]; simp [hd]
  | name blk sv =>
    have hnm := (hs.name blk sv rfl).1
    cases dst with
    | none => simp [runE, nameK, Ef.fit]
    | some d =>
      have h9 := hno d rfl hnm
      have h1 : ∀ t, (s.slots t).has d = false := fun t => by
        cases h : (s.slots t).has d with
        | false => rfl
        | true => exact absurd (.inl ⟨t, h⟩) h9
      have h2 : Fresh s d := fun k b _ hb => by
        cases h : b.has d with
        | false => rfl
        | true => exact absurd (.inr ⟨k, b, hb, h⟩) h9
      have e1 : (s.name d blk).put d (sv d) = setS s ((Ef.name blk sv).sup (some d)) ((Ef.name blk sv).hup (some d)) := by
        simp only [St.name, St.put, setS, Ef.sup, Ef.hup, Option.map_some, St.mk.injEq]
        refine ⟨?_, ?_⟩
        · funext t
          rw [show (s.slots t).kill d = s.slots t from congrFun (kill_self h1) t]
        · funext k
          by_cases hk : k = d
          · subst hk; simp
          · simp [hk, Ne.symm hk]
      simp only [runE, nameK, Ef.fit]
      rw [e1]
      by_cases hd : d < n
      · rw [if_pos hd]; simp [hd, h2, and_assoc]
      · rw [if_neg hd]; simp [hd]
  | give nm blk sv =>
    have hnm := (hs.give nm blk sv rfl).1
    cases dst with
    | none => simp [runE, giveK, Ef.fit]
    | some d =>
      have h9 := hno d rfl hnm
      have h1 : ∀ t, (s.slots t).has d = false := fun t => by
        cases h : (s.slots t).has d with
        | false => rfl
        | true => exact absurd (.inl ⟨t, h⟩) h9
      have h2 : Fresh2 s nm d := fun k b _ _ hb => by
        cases h : b.has d with
        | false => rfl
        | true => exact absurd (.inr ⟨k, b, hb, h⟩) h9
      have e1 : (s.give nm d blk).put d (sv d) = setS s ((Ef.give nm blk sv).sup (some d)) ((Ef.give nm blk sv).hup (some d)) := by
        simp only [St.give, St.put, setS, Ef.sup, Ef.hup, Option.map_some, St.mk.injEq]
        refine ⟨?_, ?_⟩
        · funext t
          rw [show (s.slots t).kill d = s.slots t from congrFun (kill_self h1) t]
        · funext k
          by_cases hk : k = d
          · subst hk; simp
          · rw [if_neg hk, if_neg (fun e => hk (Option.some.inj e).symm)]
            split <;> rfl
      simp only [runE, giveK, Ef.fit]
      rw [e1]
      by_cases hd : d < n
      · rw [if_pos hd]; simp [hd, h2, and_assoc]
      · rw [if_neg hd]; simp [hd]
  | upd nm blk =>
    have e1 : s.upd nm blk = setS s ((Ef.upd nm blk).sup dst) ((Ef.upd nm blk).hup dst) := by
      simp only [St.upd, setS, Ef.sup, Ef.hup, St.mk.injEq, true_and]
      funext k
      split <;> rfl
    simp only [runE, Ef.fit]
    rw [e1]

/-- What an effect turns. -/
theorem hup_of {o : Oper} {e : Ef} (hs : Shape o s e) {dst : Option Nat} {k : Nat} {v : Option Blk} (h : e.hup dst k = some v) : (dst = some k ∧ namerOp o = true) ∨ (writerOp o = true ∧ ∃ t ∈ hotOf o, (s.slots t).has k = true) := by
  cases e with
  | put sv => cases h
  | name blk sv =>
    simp only [Ef.hup] at h
    split at h
    · rename_i hk; exact .inl ⟨hk, (hs.name blk sv rfl).1⟩
    · cases h
  | give nm blk sv =>
    simp only [Ef.hup] at h
    split at h
    · rename_i hk; exact .inl ⟨hk, (hs.give nm blk sv rfl).1⟩
    · split at h
      · rename_i hk; exact .inr ((hs.give nm blk sv rfl).2.2.2 k hk)
      · cases h
  | upd nm blk =>
    simp only [Ef.hup] at h
    split at h
    · rename_i hk
      subst hk
      obtain ⟨h1, h2, _⟩ := hs.upd k blk rfl
      exact .inr ⟨h1, h2⟩
    · cases h

theorem sup_of {e : Ef} {dst : Option Nat} {p : Nat × SV} (h : e.sup dst = some p) : dst = some p.1 := by
  cases e <;> cases dst <;> simp only [Ef.sup, Option.map_none, Option.map_some, Option.some.injEq, reduceCtorEq] at h <;> (subst h; rfl)

/-- What stands behind a step leads no farther. -/
theorem leads_set {o : Oper} {e : Ef} (hs : Shape o s e) {nm : Nat} (h : Leads (setS s (e.sup o.dst) (e.hup o.dst)) nm) : Leads s nm ∨ (namerOp o = true ∧ o.dst = some nm) := by
  rcases h with ⟨t, ht⟩ | ⟨k, blk, hk, hn⟩
  · simp only [setS] at ht
    cases hsup : e.sup o.dst with
    | none => rw [hsup] at ht; exact .inl (.inl ⟨t, ht⟩)
    | some p =>
      rw [hsup] at ht
      simp only at ht
      split at ht
      · have hd := sup_of hsup
        cases e with
        | put sv =>
          rw [hd] at hsup
          simp only [Ef.sup, Option.map_some, Option.some.injEq] at hsup
          rw [← hsup] at ht
          rcases hs.val sv rfl nm ht with ⟨_, h1⟩ | ⟨_, _, h1⟩
          · exact .inl (leads_of h1)
          · exact .inl (.inr h1)
        | name blk sv =>
          rw [hd] at hsup
          simp only [Ef.sup, Option.map_some, Option.some.injEq] at hsup
          rw [← hsup] at ht
          have := (hs.name blk sv rfl).2.1 p.1 nm ht
          exact .inr ⟨(hs.name blk sv rfl).1, by rw [hd, this]⟩
        | give k blk sv =>
          rw [hd] at hsup
          simp only [Ef.sup, Option.map_some, Option.some.injEq] at hsup
          rw [← hsup] at ht
          have := (hs.give k blk sv rfl).2.1 p.1 nm ht
          exact .inr ⟨(hs.give k blk sv rfl).1, by rw [hd, this]⟩
        | upd k blk => cases hsup
      · exact .inl (.inl ⟨t, ht⟩)
  · simp only [setS] at hk
    cases hh : e.hup o.dst k with
    | none => rw [hh] at hk; exact .inl (.inr ⟨k, blk, hk, hn⟩)
    | some v =>
      rw [hh] at hk
      simp only at hk
      subst hk
      cases e with
      | put sv => cases hh
      | name b sv =>
        simp only [Ef.hup] at hh
        split at hh
        · injection hh with hh; injection hh with hh; subst hh; exact .inl ((hs.name b sv rfl).2.2 nm hn)
        · cases hh
      | give j b sv =>
        simp only [Ef.hup] at hh
        split at hh
        · injection hh with hh; injection hh with hh; subst hh; exact .inl ((hs.give j b sv rfl).2.2.1 nm hn)
        · split at hh
          · cases hh
          · cases hh
      | upd j b =>
        simp only [Ef.hup] at hh
        split at hh
        · injection hh with hh; injection hh with hh; subst hh; exact .inl ((hs.upd j b rfl).2.2 nm hn)
        · cases hh
end
end Go.Proofs.Ytgmjgognpabmdaa.Fx
