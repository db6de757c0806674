/- The evaluator's second make: steps, and code. -/
import Derived.Test.YtgmjgognpabmdaaFxF
namespace Go.Proofs.Ytgmjgognpabmdaa.Fx
open Go Go.RowKit
set_option linter.unusedSimpArgs false
set_option linter.unusedVariables false
variable {P : Program} {T : TypeId → Option TI} {w w' : World}

/-- What an operation does to a state. -/
inductive Ef where
  | put (sv : SV)
  | name (blk : Blk) (sv : Nat → SV)
  | give (nm : Option Nat) (blk : Blk) (sv : Nat → SV)
  | upd (nm : Nat) (blk : Blk)

def giveK (n : Nat) (dst : Option Nat) (nm : Option Nat) (blk : Blk) (sv : Nat → SV) (K : St → Prop) (st : St) : Prop :=
  match dst with
  | some d => if d < n then Fresh2 st nm d ∧ blk.has d = false ∧ K ((st.give nm d blk).put d (sv d)) else False
  | none => False

/-- What is asked of a state's step. -/
def runE (n : Nat) (dst : Option Nat) (K : St → Prop) (st : St) : Ef → Prop
  | .put sv => putK n dst sv K st
  | .name blk sv => nameK n dst blk sv K st
  | .give nm blk sv => giveK n dst nm blk sv K st
  | .upd nm blk => dst = none ∧ K (st.upd nm blk)

/-- Lists that grow and are written for good at once. -/
def ownApp (o : Oper) : Bool :=
  match o.op, o.dst with
  | .call _, some d => d == 19 && o.type == 25 && o.pos == "law.go:22"
  | _, _ => false
/-- What a list grown does: it has the name of its slot, or is written for good. -/
def apEf (own : Bool) (nm : Option Nat) (sz : Nat) (rows : List (List CV)) : Ef :=
  if own = true then (if leafRows rows = true then (match viewRows rows with
    | some trows => .give nm (.cells sz []) (fun _ => .c (.t (.sl sz trows)))
    | none => .give nm (.cells sz rows) (fun d => .c (.mr d 0 rows.length))) else .give nm (.cells sz rows) (fun d => .c (.mr d 0 rows.length)))
  else .give nm (.cells sz rows) (fun d => .c (.mr d 0 rows.length))
theorem apEf_cases (own : Bool) (nm : Option Nat) (sz : Nat) (rows : List (List CV)) : apEf own nm sz rows = .give nm (.cells sz rows) (fun d => .c (.mr d 0 rows.length)) ∨ ∃ trows, leafRows rows = true ∧ viewRows rows = some trows ∧ apEf own nm sz rows = .give nm (.cells sz []) (fun _ => .c (.t (.sl sz trows))) := by
  unfold apEf
  split
  · split
    · rename_i h1
      split
      · rename_i trows h2; exact .inr ⟨trows, h1, h2, rfl⟩
      · exact .inl rfl
    · exact .inl rfl
  · exact .inl rfl
def appendE (T : TypeId → Option TI) (own : Bool) (x y : Operand) (t t2 : TypeId) (R : Ef → Prop) (st : St) : Prop :=
  match T t, T t2 with
  | some ti, some ti2 => match ti.k, ti2.k with
    | .slice e, .slice _ => match T e, baseOf st (rd T st t x), srcOf st (rd T st t2 y) with
      | some te, some (nm, sz, rows), some (sz2, ys) =>
        if sz = te.size ∧ sz2 = te.size then
          ((rows.length + ys.length) * te.bytes ≤ 140737488355328 ∧ rows.length + ys.length ≤ 9223372036854775807) ∧ R (apEf own nm te.size (rows ++ ys))
        else False
      | _, _, _ => False
    | _, _ => False
  | _, _ => False

/-- Two names, one for the other. -/
def sw (a b : Nat) : Nat → Nat := fun k => if k = a then b else if k = b then a else k
theorem sw_left (a b : Nat) : sw a b a = b := by simp [sw]
theorem sw_right (a b : Nat) : sw a b b = a := by unfold sw; split <;> simp_all
theorem sw_sw (a b k : Nat) : sw a b (sw a b k) = k := by unfold sw; grind
theorem sw_inj {a b x y : Nat} (h : sw a b x = sw a b y) : x = y := by rw [← sw_sw a b x, h, sw_sw]
theorem sw_other {a b k : Nat} (h1 : k ≠ a) (h2 : k ≠ b) : sw a b k = k := by simp [sw, h1, h2]
mutual
theorem ren_none (ρ : Nat → Nat) : ∀ c : CV, (∀ k, c.has k = false) → c.ren ρ = c
  | .t _, _ => rfl
  | .own sz rows, h => by simp only [CV.ren, CV.has] at *; rw [renRows_none ρ rows h]
  | .mr k _ _, h => by have := h k; simp [CV.has] at this
  | .mp k _ _, h => by have := h k; simp [CV.has] at this
  | .mm k, h => by have := h k; simp [CV.has] at this
  | .fnc f a b, h => by
    simp only [CV.ren, CV.has, Bool.or_eq_false_iff] at *
    rw [renL_none ρ a fun k => (h k).1, renL_none ρ b fun k => (h k).2]
  | .ifc _ _ cs, h => by simp only [CV.ren, CV.has] at *; rw [renL_none ρ cs h]
  | .dead, _ => rfl
theorem renL_none (ρ : Nat → Nat) : ∀ l : List CV, (∀ k, hasL k l = false) → renL ρ l = l
  | [], _ => rfl
  | c :: r, h => by
    simp only [renL, hasL, Bool.or_eq_false_iff] at *
    rw [ren_none ρ c fun k => (h k).1, renL_none ρ r fun k => (h k).2]
theorem renRows_none (ρ : Nat → Nat) : ∀ l : List (List CV), (∀ k, hasRows k l = false) → renRows ρ l = l
  | [], _ => rfl
  | c :: r, h => by
    simp only [renRows, hasRows, Bool.or_eq_false_iff] at *
    rw [renL_none ρ c fun k => (h k).1, renRows_none ρ r fun k => (h k).2]
end
theorem called_name {st : St} {nm d : Nat} {sz : Nat} {rows : List (List CV)} (hp : ∀ k, hasRows k rows = false) : st.called (sw nm d) [] [(nm, .cells sz rows)] = st.name d (.cells sz rows) := by
  unfold St.called St.name
  congr 1
  · funext t
    simp only [List.any_cons, List.any_nil, List.map_nil, List.contains_nil, Bool.not_false, Bool.true_and, Bool.or_false, sw_left, SV.kill]
  · funext k
    simp only [hRen, hGet, sw_left, Blk.ren, renRows_none _ rows hp, List.map_nil, List.contains_nil, Bool.false_eq_true, if_false]
    by_cases e : k = d
    · subst e; simp
    · simp [Ne.symm e, e]
theorem av_ren_none (ρ : Nat → Nat) : ∀ v : AV, (∀ k, v.has k = false) → v.ren ρ = v
  | .v c, h => by simp only [AV.ren, ren_none ρ c h]
  | .agg cs, h => by simp only [AV.ren, renL_none ρ cs h]
theorem renA_none (ρ : Nat → Nat) : ∀ vs : List AV, (∀ k, hasA k vs = false) → vs.map (AV.ren ρ) = vs
  | [], _ => rfl
  | v :: vs, h => by
    simp only [hasA, Bool.or_eq_false_iff] at h
    rw [List.map_cons, av_ren_none ρ v fun k => (h k).1, renA_none ρ vs fun k => (h k).2]
/-- Functions whose calls may answer with one new named block within a drawn region. -/
def namedFn (f d : Nat) : Bool := f == 14
def namedOp (o : Oper) : Bool :=
  match o.op, o.dst with
  | .call c, some d => match c.callee with | .value (.func f) => namedFn f d | _ => false
  | _, _ => false
/-- A call without names that answers with one new name. -/
def callN (E : Env) (T : TypeId → Option TI) (cal : Callee) (args : List Operand) (types : List TypeId) (R : Ef → Prop) (st : St) : Prop :=
  match calleeOf T st cal, argsRaw T st args types with
  | some (f, [], []), some vs => (∀ k, hasA k vs = false) ∧ ∃ nm sz rows len, E f vs [] [.v (.mr nm 0 len)] [(nm, .cells sz rows)] ∧ (∀ k, hasRows k rows = false) ∧ R (.name (.cells sz rows) (fun d => .c (.mr d 0 len)))
  | _, _ => False
/-- Calls within a drawn region that are handed names and hand them back as they were. -/
def quietOp (o : Oper) : Bool :=
  match o.op, o.dst with
  | .call _, some d => false
  | _, _ => false
def callQ (E : Env) (T : TypeId → Option TI) (cal : Callee) (args : List Operand) (types : List TypeId) (ops : List Operand) (R : Ef → Prop) (st : St) : Prop :=
  match calleeOf T st cal, argsRaw T st args types with
  | some (f, first, caps), some vs => ∃ (ρ : Nat → Nat) (cargs : List AV) (h : List (Nat × Blk)) (res : List AV), E f cargs h res h ∧ cargs.map (AV.ren ρ) = first.map .v ++ vs ++ caps.map .v ∧ hAll st (hRen ρ h) ∧
      (∀ a ∈ h.map (·.1), ∀ b ∈ h.map (·.1), ρ a = ρ b → a = b) ∧ (∀ k, hasA k res = false) ∧ (∀ p ∈ h, ∀ k, p.2.has k = true → k ∈ h.map (·.1)) ∧ (∀ k ∈ h.map (·.1), ∃ x ∈ ops, ∃ t, (rd T st t x).has (ρ k) = true) ∧ R (.put (resSV res))
  | _, _ => False
theorem hAll_at {st : St} : ∀ {h : List (Nat × Blk)}, hAll st h → ∀ p ∈ h, st.heap p.1 = some p.2
  | q :: r, ha, p, hp => by
    rcases List.mem_cons.1 hp with rfl | hp
    · exact ha.1
    · exact hAll_at ha.2 p hp
theorem hAll_of {st : St} : ∀ {h : List (Nat × Blk)}, (∀ p ∈ h, st.heap p.1 = some p.2) → hAll st h
  | [], _ => trivial
  | q :: r, ha => ⟨ha q (by simp), hAll_of fun p hp => ha p (by simp [hp])⟩
theorem called_same {st : St} {ρ : Nat → Nat} {h : List (Nat × Blk)} (ha : hAll st (hRen ρ h)) : st.called ρ h h = st := by
  have hs : ∀ t, (h.any fun p => !(h.map (·.1)).contains p.1 && (st.slots t).has (ρ p.1)) = false := by
    intro t
    rw [List.any_eq_false]
    intro p hp
    have : (h.map (·.1)).contains p.1 = true := List.contains_iff_mem.2 (List.mem_map.2 ⟨p, hp, rfl⟩)
    simp only [this, Bool.not_true, Bool.false_and, Bool.false_eq_true, not_false_eq_true]
  have hh : ∀ k, (match hGet (hRen ρ h) k with | some b => some b | none => if (h.map fun p => ρ p.1).contains k then none else st.heap k) = st.heap k := by
    intro k
    cases hg : hGet (hRen ρ h) k with
    | some b => exact (hAll_at ha _ (hGet_mem hg)).symm
    | none =>
      simp only
      split
      · rename_i hc
        exfalso
        obtain ⟨p, hp, hpk⟩ := List.mem_map.1 (List.contains_iff_mem.1 hc)
        have : k ∈ (hRen ρ h).map (·.1) := by
          rw [← hpk]
          clear hg ha hs hc
          induction h with
          | nil => cases hp
          | cons q r ih =>
            rcases List.mem_cons.1 hp with rfl | hp
            · simp [hRen]
            · have := ih hp; simp only [hRen, List.map_cons, List.mem_cons]; exact .inr this
        obtain ⟨b, hb⟩ := hGet_of_key this
        rw [hg] at hb; cases hb
      · rfl
  unfold St.called
  have e1 : (fun t => if (h.any fun p => !(h.map (·.1)).contains p.1 && (st.slots t).has (ρ p.1)) = true then SV.undef else st.slots t) = st.slots := by
    funext t; rw [hs t]; rfl
  have e2 : (fun k => match hGet (hRen ρ h) k with | some b => some b | none => if (h.map fun p => ρ p.1).contains k then none else st.heap k) = st.heap := funext hh
  rw [e1]
  exact congrArg (fun hp => ({ slots := st.slots, heap := hp } : St)) e2
theorem callQ_M {E : Env} {n : Nat} {dst : Option Nat} {cal : Callee} {args : List Operand} {types : List TypeId} {ops : List Operand} {K : St → Prop} {st : St} (h : callQ E T cal args types ops (runE n dst K st) st) : callM E T n dst cal args types K st := by
  unfold callQ at h
  split at h
  · rename_i f first caps vs hc ha
    obtain ⟨ρ, cargs, hh, res, hE, h1, h2, h3, h4, h5, _, hk⟩ := h
    unfold callM
    rw [hc, ha]
    refine ⟨ρ, cargs, hh, res, hh, hE, h1, ⟨h2, fun a ha b hb => h3 a (by simpa using ha) b (by simpa using hb), fun p hp hn => ?_, ?_⟩, ?_⟩
    · rw [List.contains_iff_mem.2 (List.mem_map.2 ⟨p, hp, rfl⟩)] at hn; cases hn
    · rintro k (h | ⟨p, q1, q2⟩)
      · rw [h4 k] at h; cases h
      · exact h5 p q1 k q2
    · rw [called_same h2, renA_none ρ res h4]
      exact hk
  · exact h.elim
theorem callN_M {E : Env} {n : Nat} {dst : Option Nat} {cal : Callee} {args : List Operand} {types : List TypeId} {K : St → Prop} {st : St} (h : callN E T cal args types (runE n dst K st) st) : callM E T n dst cal args types K st := by
  unfold callN at h
  split at h
  · rename_i f vs hc ha
    obtain ⟨hno, nm, sz, rows, len, hE, hp, hk⟩ := h
    cases dst with
    | none => exact hk.elim
    | some d =>
      simp only [runE, nameK] at hk
      by_cases hd : d < n
      · rw [if_pos hd] at hk
        obtain ⟨hf, hb, hk⟩ := hk
        unfold callM
        rw [hc, ha]
        refine ⟨sw nm d, vs, [], _, _, hE, by simpa using renA_none (sw nm d) vs hno, ⟨trivial, fun a _ b _ h => sw_inj h, ?_, ?_⟩, ?_⟩
        · intro p hp' _
          rw [List.mem_singleton] at hp'
          subst hp'
          simp only [sw_left]
          refine ⟨hd, fun k blk _ h2 h3 => ?_⟩
          refine hf k blk ?_ h3
          rintro rfl
          simp [sw_left] at h2
        · rintro k (h | ⟨p, h1, h2⟩)
          · simp only [hasA, AV.has, CV.has, Bool.or_false, beq_iff_eq] at h
            simp [h]
          · rw [List.mem_singleton] at h1
            subst h1
            simp only [Blk.has, hp] at h2
            cases h2
        · rw [called_name hp]
          simp only [putK, hd, if_true, List.map_cons, List.map_nil, AV.ren, CV.ren, sw_left, resSV, AV.sv]
          exact hk
      · rw [if_neg hd] at hk; exact hk.elim
  · exact h.elim

def quietE (T : TypeId → Option TI) (o : Oper) (R : Ef → Prop) (st : St) : Prop :=
  match quiet T st o with
  | some sv => R (.put sv)
  | none => False

def storeE (T : TypeId → Option TI) (t : TypeId) (x v : Operand) (R : Ef → Prop) (st : St) : Prop :=
  match T t, rd T st 0 x, cells (rd T st t v) with
  | some ti, .c (.mp nm i o0), some cs => match st.heap nm with
    | some (.cells sz rows) => match rows[i]? with
      | some row => if cs.length = ti.size ∧ o0 + cs.length ≤ row.length ∧ cs.all CV.plain = true then R (.upd nm (.cells sz (rows.set i (lay row o0 cs)))) else False
      | none => False
    | _ => False
  | _, _, _ => False

section
variable {cx : Cx} {G : Gh} {st : St} {a : Act}
theorem modify_get {rows : List (List CV)} {i j : Nat} {c : CV} {row : List CV} (hi : rows[i]? = some row) {i' j' : Nat} {r : List CV} {c' : CV} (h1 : (rows.modify i (·.set j c))[i']? = some r) (h2 : r[j']? = some c') :
    (i' = i ∧ j' = j ∧ c' = c) ∨ (¬ (i' = i ∧ j' = j) ∧ ∃ r0, rows[i']? = some r0 ∧ r0[j']? = some c' ∧ r.length = r0.length) := by
  rw [List.getElem?_modify] at h1
  cases hr : rows[i']? with
  | none => simp [hr] at h1
  | some r0 =>
    rw [hr] at h1
    by_cases he : i = i'
    · subst he
      simp only [if_true, Option.map_eq_map, Option.map_some, Option.some.injEq] at h1
      subst h1
      by_cases hj : j' = j
      · subst hj
        have hlt := (List.getElem?_eq_some_iff.1 h2).1
        simp at hlt
        rw [List.getElem?_set_self hlt] at h2
        exact .inl ⟨rfl, rfl, (Option.some.inj h2).symm⟩
      · rw [List.getElem?_set_ne (Ne.symm hj)] at h2
        exact .inr ⟨fun h => hj h.2, r0, rfl, h2, by simp⟩
    · simp only [if_neg he, Option.map_eq_map, Option.map_some, Option.some.injEq] at h1
      subst h1
      exact .inr ⟨fun h => he h.1.symm, _, rfl, h2, rfl⟩

theorem modify_rows {rows : List (List CV)} {i j sz : Nat} {c : CV} (h : ∀ r ∈ rows, r.length = sz) : ∀ r ∈ rows.modify i (·.set j c), r.length = sz := by
  intro r hr
  obtain ⟨i', hi, rfl⟩ := List.mem_iff_getElem.1 hr
  simp only [List.length_modify] at hi
  rw [List.getElem_modify]
  split
  · simp; exact h _ (List.getElem_mem hi)
  · exact h _ (List.getElem_mem hi)

def St.unfold (st : St) (k i j nm : Nat) (sz : Nat) (rows : List (List CV)) (sz' : Nat) (rows' : List (List CV)) : St :=
  { slots := fun t => (st.slots t).kill nm, heap := fun t => if t = nm then some (.cells sz' rows') else if t = k then some (.cells sz (rows.modify i (·.set j (.mr nm 0 rows'.length)))) else st.heap t }

theorem R.unfold (hR : R cx G st a w) {k i j nm sz sz' : Nat} {rows rows' : List (List CV)} {row : List CV} (hd : nm < cx.n) (hne : k ≠ nm) (hk : st.heap k = some (.cells sz rows)) (hi : rows[i]? = some row) (hj : row[j]? = some (.own sz' rows')) (hf : Fresh st nm) (hf2 : (Blk.cells sz' rows').has nm = false) :
    ∃ G', R cx G' (st.unfold k i j nm sz rows sz' rows') a w := by
  have hkk := hR.heap k _ hk
  have hrne : rows ≠ [] := by rintro rfl; simp at hi
  simp only [BlkR] at hkk
  cases hp : G.ph k with
  | none => rw [hp] at hkk; exact absurd hkk hrne
  | some p =>
    rw [hp] at hkk
    obtain ⟨b1, b2, b3, b4, b5, cs, el, b6, b7, b8, g, g1, g2, g3⟩ := hkk
    obtain ⟨x, hx, hcx⟩ := g3 i row j _ hi hj
    -- the list's place
    have hpl : ∃ (q : Option PH) (rg : Nat → Prop), (∀ b, rg b → g i j b) ∧ (∀ (G' : Gh), G'.hw = G.hw → (∀ t, t ≠ nm → G'.ph t = G.ph t) → G'.ph nm = q → (∀ b, G'.reg nm b ↔ rg b) → BlkR G' w nm (.cells sz' rows') ∧ CVR G'.toMk w Emp (.mr nm 0 rows'.length) x) := by
      generalize hgg : g i j = Sg at hcx
      cases hcx with
      | nil _ a0 => exact ⟨none, Emp, fun _ h => h.elim, fun G' _ _ h3 _ => ⟨by simp only [BlkR, h3], .mr0 _ _ _⟩⟩
      | own _ _ b o cap ks el' f g' hb hg' hd' h0 hl hr hc hh hfit h1 h2 =>
        refine ⟨some ⟨b, o, sz', ks.size, rows'.length⟩, Sg, fun b hb => hb, fun G' e1 e2 e3 e4 => ⟨?_, ?_⟩⟩
        · simp only [BlkR, e3]
          refine ⟨trivial, trivial, h0, hl, (e4 _).2 hb, ks, el', hh, rfl, Nat.le_trans (Nat.add_le_add_left (Nat.mul_le_mul_right _ hc) _) hfit, g', fun i j b hb => ⟨(e4 _).2 (hg' i j b hb).1, (hg' i j b hb).2⟩, hd', fun i r j c hi hj => ?_⟩
          have hi2 := (List.getElem?_eq_some_iff.1 hi).1
          have hj2 := (List.getElem?_eq_some_iff.1 hj).1
          rw [hl r (List.mem_of_getElem? hi)] at hj2
          refine ⟨_, h1 i j hi2 hj2, CVR.move (h2 i r j c hi hj) (fun v y h => by rw [e1]; exact h) (fun _ _ => rfl) fun t ht => e2 t fun e => ?_⟩
          subst e
          rw [has_mem hf2 hi hj] at ht; cases ht
        · have := CVR.mr (M := G'.toMk) (w := w) (S := Emp) nm 0 rows'.length cap _ e3 (by simp) hc (by simpa using hc) (by simpa using hfit)
          simpa using this
    obtain ⟨q, rg, hrg, hB⟩ := hpl
    refine ⟨⟨⟨G.hw, fun t => if t = nm then q else G.ph t⟩, fun t b => if t = nm then rg b else if t = k then G.reg k b ∧ ¬ rg b else G.reg t b⟩, ?_⟩
    have hregk : ∀ b, rg b → G.reg k b ∧ b ≠ p.b := fun b hb => g1 _ _ _ (hrg b hb)
    have hB' := hB ⟨⟨G.hw, fun t => if t = nm then q else G.ph t⟩, fun t b => if t = nm then rg b else if t = k then G.reg k b ∧ ¬ rg b else G.reg t b⟩ rfl (fun t ht => by simp [ht]) (by simp) (fun b => by simp)
    refine hR.change (fun b => G.reg k b) (fun t => t = k ∨ t = nm) ?_ (Kept.refl _ _) (fun _ _ _ => rfl) hR.hwNew ?_ ?_ ?_ ?_ ?_ (fun t ht => by simp only; rw [if_neg (by omega)]) hR.tmps hR.defers
    · exact fun b h => ⟨k, _, .inl rfl, hk, h⟩
    · intro t blk hD hb
      have h1 : t ≠ k := fun e => hD (.inl e)
      have h2 : t ≠ nm := fun e => hD (.inr e)
      simp only [St.unfold, if_neg h1, if_neg h2] at hb
      exact ⟨hb, by simp [h2], fun b => by simp [h1, h2]⟩
    · intro t hph s blk hD hb
      have htn : t = nm := by
        rcases Classical.em (t = nm) with h | h
        · exact h
        · simp [h] at hph
      subst htn
      have h1 : s ≠ k := fun e => hD (.inl e)
      have h2 : s ≠ t := fun e => hD (.inr e)
      simp only [St.unfold, if_neg h1, if_neg h2] at hb
      exact hf s blk h2 hb
    · intro t blk hD hb
      by_cases htn : t = nm
      · subst htn
        simp only [St.unfold, if_pos] at hb
        obtain rfl := Option.some.inj hb
        refine ⟨hB'.1, fun b hb' => ?_⟩
        simp only [if_true] at hb'
        obtain ⟨q1, _, q3⟩ := hR.reg k _ b hk (hregk b hb').1
        exact ⟨q1, q3, .inl (hregk b hb').1⟩
      · have htk : t = k := by rcases hD with h | h; exact h; exact absurd h htn
        subst htk
        simp only [St.unfold, if_neg htn, if_pos] at hb
        obtain rfl := Option.some.inj hb
        refine ⟨?_, fun b hb' => ?_⟩
        · simp only [BlkR, if_neg htn, hp, if_true]
          refine ⟨b1, by simpa using b2, b3, modify_rows b4, ⟨b5, fun h => (hregk _ h).2 rfl⟩, cs, el, b6, b7, by simpa using b8, fun i' j' b => ¬ (i' = i ∧ j' = j) ∧ g i' j' b, ?_, fun i1 j1 i2 j2 b q1 q2 => g2 _ _ _ _ _ q1.2 q2.2, ?_⟩
          · rintro i' j' b ⟨hno, h⟩
            refine ⟨⟨(g1 _ _ _ h).1, fun hb => hno ?_⟩, (g1 _ _ _ h).2⟩
            exact g2 _ _ _ _ _ h (hrg b hb)
          · intro i' r j' c hi' hj'
            rcases modify_get hi hi' hj' with ⟨rfl, rfl, rfl⟩ | ⟨hno, r0, q1, q2, _⟩
            · exact ⟨x, hx, hB'.2.wide fun _ h => h.elim⟩
            · obtain ⟨u, q3, q4⟩ := g3 i' r0 j' c q1 q2
              refine ⟨u, q3, (CVR.move (M' := ⟨G.hw, fun t => if t = nm then q else G.ph t⟩) q4 (fun _ _ h => h) (fun _ _ => rfl) fun s hs => ?_).wide fun b hb => ⟨hno, hb⟩⟩
              have hsn : s ≠ nm := fun e => by
                subst e
                have h9 := hf t _ htn hk
                rw [has_mem h9 q1 q2] at hs; cases hs
              simp [hsn]
        · simp only [if_neg htn, if_true] at hb'
          obtain ⟨q1, _, q3⟩ := hR.reg t _ b hk hb'.1
          exact ⟨q1, q3, .inl hb'.1⟩
    · intro t t' blk blk' b hD hD' hb hb' h1 h2
      by_cases htn : t = nm
      · by_cases htn' : t' = nm
        · exact htn.trans htn'.symm
        · have htk' : t' = k := by rcases hD' with h | h; exact h; exact absurd h htn'
          subst htn htk'
          simp only [if_true] at h1
          simp only [if_neg htn', if_true] at h2
          exact absurd h1 h2.2
      · have htk : t = k := by rcases hD with h | h; exact h; exact absurd h htn
        by_cases htn' : t' = nm
        · subst htn' htk
          simp only [if_true] at h2
          simp only [if_neg htn, if_true] at h1
          exact absurd h2 h1.2
        · have htk' : t' = k := by rcases hD' with h | h; exact h; exact absurd h htn'
          exact htk.trans htk'.symm
    · intro t h
      simp only [St.unfold, SV.kill]
      split
      · trivial
      · rename_i hh
        refine slot_move (G' := ⟨⟨G.hw, fun t => if t = nm then q else G.ph t⟩, fun t b => if t = nm then rg b else if t = k then G.reg k b ∧ ¬ rg b else G.reg t b⟩) hR (own := Emp) (fun _ h => h.elim) (Kept.refl _ _) (fun _ _ _ => rfl) h (fun s hs => ?_)
        have : s ≠ nm := fun e => by subst e; exact hh hs
        simp [this]

end
/-- Loads that take a list out of the one cell of a list that is read no more: they give it a name of its own. -/
def ownLoad (o : Oper) : Bool :=
  match o.op, o.dst with
  | .load t (.tmp x), some d => false
  | _, _ => false
def loadOwnE (T : TypeId → Option TI) (o : Oper) (t : TypeId) (x : Operand) (R : Ef → Prop) (st : St) : Prop :=
  match T t, rd T st 0 x with
  | some ti, .c (.mp nm 0 0) => match st.heap nm with
    | some (.cells _ [[.own sz rows]]) => (ti.k.isAgg = false ∧ o.dst ≠ some nm) ∧ R (.give (some nm) (.cells sz rows) (fun d => .c (.mr d 0 rows.length)))
    | _ => False
  | _, _ => False
theorem rd_kill {st st' : St} {d : Nat} (h : ∀ t, st'.slots t = (st.slots t).kill d) (x : Operand) {v : CV} (hx : rd T st 0 x = .c v) (hv : v.has d = false) : rd T st' 0 x = .c v := by
  cases x with
  | tmp t =>
    simp only [rd] at hx ⊢
    rw [h t, hx]
    simp only [SV.kill, SV.has, hv, Bool.false_eq_true, if_false]
  | const c => exact hx
  | func f => exact hx
  | global g => simp only [rd] at hx; cases hx
theorem loadOwn_ok {cx : Cx} {G : Gh} {st : St} {a : Act} (hT : TOk P T) (hR : R cx G st a w) {o : Oper} {t : TypeId} {x : Operand} (ho : o.op = .load t x) {K : St → Prop} {X : Exit → Act → World → Prop} (h : loadOwnE T o t x (runE cx.n o.dst K st) st) : o.wp P a w (Post cx K) X := by
  unfold loadOwnE at h
  split at h
  · rename_i ti nm ht hx
    split at h
    · rename_i sz0 sz rows hb
      obtain ⟨⟨hag, hne⟩, h⟩ := h
      cases hd : o.dst with
      | none => rw [hd] at h; exact h.elim
      | some d =>
        rw [hd] at h hne
        have hnd : nm ≠ d := fun e => hne (by rw [e])
        simp only [runE, giveK] at h
        by_cases hdn : d < cx.n
        · rw [if_pos hdn] at h
          obtain ⟨hf2, hbd, hK⟩ := h
          have hfr : Fresh st d := by
            intro k b hkd hkb
            by_cases e : k = nm
            · subst e
              rw [hb] at hkb
              obtain rfl := Option.some.inj hkb
              have : hasRows d [[CV.own sz rows]] = hasRows d rows := by simp [hasRows, hasL, CV.has]
              show hasRows d [[CV.own sz rows]] = false
              rw [this]; exact hbd
            · exact hf2 k b hkd (fun e' => e (Option.some.inj e').symm) hkb
          obtain ⟨G1, hR1⟩ := hR.unfold (k := nm) (i := 0) (j := 0) (nm := d) (sz := sz0) (sz' := sz) (rows := [[.own sz rows]]) (rows' := rows) (row := [.own sz rows]) hdn hnd hb rfl rfl hfr hbd
          obtain ⟨sU, hsU⟩ : ∃ s, s = st.unfold nm 0 0 d sz0 [[.own sz rows]] sz rows := ⟨_, rfl⟩
          rw [← hsU] at hR1
          have hrd : rd T sU 0 x = .c (.mp nm 0 0) := rd_kill (d := d) (fun _ => by rw [hsU]; rfl) x hx (by simp [CV.has, hnd])
          have hhp : sU.heap nm = some (.cells sz0 [[.mr d 0 rows.length]]) := by rw [hsU]; simp [St.unfold, hnd]
          have hq : quiet T sU o = some (.c (.mr d 0 rows.length)) := by
            simp only [quiet, ho, ht, hrd, hhp, hag]
            simp [CV.copy]
          refine Oper.wp_mono ?_ (quietK_ok (K := fun s => s = sU.put d (.c (.mr d 0 rows.length))) hT hR1 (by rw [hq, hd]; simp only [putK, if_pos hdn]))
          rintro a' w' ⟨G2, s2, hR2, rfl⟩
          refine ⟨G2, _, ?_, hK⟩
          have hh : ∀ k b, ((st.give (some nm) d (.cells sz rows)).put d (.c (.mr d 0 rows.length))).heap k = some b → (sU.put d (.c (.mr d 0 rows.length))).heap k = some b := by
            intro k b hkb
            rw [hsU]
            simp only [St.put, St.give, St.unfold] at hkb ⊢
            by_cases e1 : k = d
            · rw [if_pos e1] at hkb ⊢; exact hkb
            · rw [if_neg e1] at hkb ⊢
              by_cases e2 : some nm = some k
              · rw [if_pos e2] at hkb; cases hkb
              · rw [if_neg e2] at hkb; rw [if_neg (fun e => e2 (by rw [e]))]; exact hkb
          exact { hR2 with slots := (by rw [hsU] at hR2; exact hR2.slots), heap := fun k b h => hR2.heap k b (hh k b h), reg := fun k b j h => hR2.reg k b j (hh k b h), disj := fun k k' b b' j h h' => hR2.disj k k' b b' j (hh k b h) (hh k' b' h') }
        · rw [if_neg hdn] at h; exact h.elim
    · exact h.elim
  · exact h.elim

/-- Lists that are built and written for good at once. -/
def ownBuild (o : Oper) : Bool :=
  match o.op, o.dst with
  | .buildSlice t _ _, some d => false
  | _, _ => false
theorem buildTree_ok {cx : Cx} {G : Gh} {st : St} {a : Act} (hT : TOk P T) (hR : R cx G st a w) {o : Oper} {t e : TypeId} {len : Nat} {parts : Array (Nat × Operand)} (ho : o.op = .buildSlice t len parts) {ti te : TI} (ht : T t = some ti) (hk : ti.k = .slice e) (he : T e = some te) (h0 : 0 < te.size) (hl0 : 0 < len)
    (hbig : len * te.size ≤ 16777216) {cs : List CV} (hcs : layParts T (fun i => some (i * te.size, te.size)) (rd T st e) ((List.replicate len te.zero).flatten) parts.toList = some cs) {trows : List (List TV)} (hvw : viewRows (chunk te.size len cs) = some trows) {K : St → Prop} {Q : Exit → Act → World → Prop}
    (h : putK cx.n o.dst (.c (.t (.sl te.size trows))) K st) : o.wp P a w (Post cx K) Q := by
  obtain ⟨info, z, hi, hsz, hby, hz, hzr, _⟩ := (hT _ _ he).info
  have hu := kind_slice hT ht hk
  have hzl := All2.toList hzr
  rw [(hT _ _ he).zlen] at hzl
  have hzr' : All2 (CVR G.toMk w Emp) te.zero z.cells.toList := hzr.mono fun _ _ => zero_cv
  have hfl : ((List.replicate len te.zero).flatten).length = len * te.size := by simp [(hT _ _ he).zlen]
  have hbase : All2 (CVR G.toMk w Emp) ((List.replicate len te.zero).flatten) ((Array.range (len * info.size)).map (z.cells[· % z.cells.size]!)).toList := by
    refine All2.of_get (by simp [(hT _ _ he).zlen, hsz]) (fun i c x hc hx => ?_)
    have hil := (List.getElem?_eq_some_iff.1 hc).1
    rw [hfl] at hil
    rw [flat_get te.zero (by rw [(hT _ _ he).zlen]; exact h0) len i (by rw [(hT _ _ he).zlen]; exact hil), (hT _ _ he).zlen] at hc
    rw [hsz, hzl, Array.getElem?_toList, zeros_get z.cells len i (by omega) (by rw [← hzl]; exact hil), ← hzl] at hx
    obtain ⟨y, q1, q2⟩ := hzr'.get _ _ hc
    rw [Array.getElem?_toList, hx] at q1
    exact Option.some.inj q1 ▸ q2
  obtain ⟨B, hB, hRB⟩ := fill_lay' (place' := fun i => some (i * info.size, info.size)) (ρ := a.eval) (fun i x hx => by rw [hsz]; exact hx) parts.toList (fun x _ cs hc => cells_q (rd_q (T := T) hR e x.2) hc) _ cs _ hbase hcs
  have hrun := run_buildSlice (P := P) w t e len (parts.map fun (i, x) => (i, a.eval x)) B info z hu hi hz (by rw [hsz]; omega) (by rw [hsz]; exact Nat.pos_iff_ne_zero.1 (Nat.mul_pos hl0 h0)) (by rw [← hB]; congr 1; simp)
  have hBl := All2.toList hRB
  have hcl : cs.length = len * te.size := by rw [layParts_length _ _ _ hcs, hfl]
  obtain ⟨c1, c2, c3⟩ := chunk_spec te.size len cs hcl
  obtain ⟨v1, v2⟩ := viewRows_get hvw
  refine Oper.wp_value (by simp only [execOp, ho]; exact run_value' _ _ _ _ hrun) ?_
  have hkept : Kept Emp w (w.alloc (.cells B e (0, 0))) := Kept.of_below ((Below.refl _ _).alloc (Nat.le_refl _) _)
  have hnew : (w.alloc (.cells B e (0, 0))).heap[w.heap.size]? = some (.cells B e (0, 0)) := by
    show (w.heap.push _)[w.heap.size]? = _
    simp
  have hsize : (w.alloc (.cells B e (0, 0))).heap.size = w.heap.size + 1 := by
    show (w.heap.push _).size = _
    simp
  have hle : ∀ b, G.hw b ≤ (fun b => if b = w.heap.size then B.size else G.hw b) b := by
    intro b
    show G.hw b ≤ if b = w.heap.size then B.size else G.hw b
    split
    · rename_i e1; rw [e1, hR.hwNew _ (Nat.le_refl _)]; omega
    · exact Nat.le_refl _
  have hR2 := hR.grow (fun b => if b = w.heap.size then B.size else G.hw b) hkept (fun b hb => if_neg (by omega)) (fun b hb => by
    rw [hsize] at hb
    show (if b = w.heap.size then B.size else G.hw b) = 0
    rw [if_neg (by omega)]; exact hR.hwNew b (by omega))
  refine putK_ok hR2 ?_ h
  have hBs : B.size = len * te.size := by rw [← hcl, ← hBl]
  have hlen : trows.length = len := by rw [v1, c1]
  have key := TVR.sl (hw := fun b => if b = w.heap.size then B.size else G.hw b) (w := w.alloc (.cells B e (0, 0))) te.size trows w.heap.size 0 len (fun i j => (B[i * te.size + j]?).getD undef) h0 (fun r hr => by
      obtain ⟨i, hi', rfl⟩ := List.mem_iff_getElem.1 hr
      obtain ⟨c, hc1, hc2⟩ := v2 i _ (List.getElem?_eq_getElem hi')
      rw [(viewL_get hc2).1]
      exact c2 c (List.mem_of_getElem? hc1)) (by omega) (by simp only [if_true]; rw [hBs, hlen]; omega) (fun i j hi' hj => by
      have hlt := row_lt (sz := te.size) (show i < len by omega) hj
      simp only [World.cell?, hnew, Option.isSome_none, Bool.false_eq_true, if_false]
      rw [Nat.zero_add, Array.getElem?_eq_getElem (by omega)]
      rfl) (fun i r j x hr hx => by
      obtain ⟨crow, hc1, hc2⟩ := v2 i r hr
      obtain ⟨c, hc3, hc4⟩ := (viewL_get hc2).2 j x hx
      obtain ⟨u, p1, p2⟩ := hRB.get _ _ (c3 i crow j c hc1 hc3)
      have p1' : B[i * te.size + j]? = some u := by simpa using p1
      rw [p1']
      refine (p2.view hle (fun _ _ _ h => h.elim) hc4).mono (fun _ => Nat.le_refl _) (fun b j' u' _ hc => ?_)
      have hb := cell_lt hc
      simp only [World.cell?] at hc ⊢
      rw [hkept.block b hb (fun h => h)]
      exact hc)
  rw [hlen] at key
  exact .t key

/-- The step, told by the state. -/
def wpE (E : Env) (T : TypeId → Option TI) (o : Oper) (R : Ef → Prop) (st : St) : Prop :=
  match o.op with
  | .alloc t => match T t with
    | some ti => if 0 < ti.zero.length then R (.name (.cells ti.zero.length [ti.zero]) (fun d => .c (.mp d 0 0))) else False
    | none => False
  | .box t x => match cells (rd T st t x) with
    | some cs => if 0 < cs.length then R (.name (.cells cs.length [cs]) (fun d => .c (.mp d 0 0))) else False
    | none => False
  | .makeSlice t l c => match T t, rd T st 0 l, rd T st 0 c with
    | some ti, .c (.t (.int _ m)), .c (.t (.int _ m')) => match ti.k with
      | .slice e => match T e with
        | some te => if m = m' ∧ 0 < te.size then (0 ≤ m ∧ m ≤ 9223372036854775807 ∧ m * te.bytes ≤ 140737488355328) ∧ R (.name (.cells te.size (List.replicate m.toNat te.zero)) (fun d => .c (.mr d 0 m.toNat))) else False
        | none => False
      | _ => False
    | _, _, _ => False
  | .buildSlice t len parts => match T t with
    | some ti => match ti.k with
      | .slice e => match T e with
        | some te => if 0 < te.size ∧ (0 < len ∨ parts.toList = []) ∧ len * te.size ≤ 16777216 then
            match layParts T (fun i => some (i * te.size, te.size)) (rd T st e) ((List.replicate len te.zero).flatten) parts.toList with
            | some cs => R (.name (.cells te.size (chunk te.size len cs)) (fun d => .c (.mr d 0 len))) ∨ (ownBuild o = true ∧ match viewRows (chunk te.size len cs) with
              | some trows => 0 < len ∧ R (.put (.c (.t (.sl te.size trows))))
              | none => False)
            | none => False
            else False
        | none => False
      | _ => False
    | none => False
  | .store t x v => storeE T t x v R st
  | .load t x => quietE T o R st ∨ (ownLoad o = true ∧ loadOwnE T o t x R st)
  | .call c => match c.callee with
    | .value x => callE E T (.value x) c.args.toList c.argTypes.toList (fun sv => R (.put sv)) st ∨ (namedOp o = true ∧ callN E T (.value x) c.args.toList c.argTypes.toList R st) ∨ (quietOp o = true ∧ callQ E T (.value x) c.args.toList c.argTypes.toList (x :: c.args.toList) R st)
    | .invoke x m => callE E T (.invoke x m) c.args.toList c.argTypes.toList (fun sv => R (.put sv)) st
    | .builtin .append => match c.args.toList, c.argTypes.toList with
      | [x, y], [t, t2] => appendE T (ownApp o) x y t t2 R st
      | _, _ => False
    | _ => quietE T o R st
  | _ => quietE T o R st

def wpO (E : Env) (T : TypeId → Option TI) (n : Nat) (o : Oper) (K : St → Prop) (st : St) : Prop := wpE E T o (runE n o.dst K st) st

def wpM (E : Env) (T : TypeId → Option TI) (n : Nat) (o : Oper) (K : St → Prop) (st : St) : Prop :=
  match o.op with
  | .call c => match c.callee with
    | .value x => callM E T n o.dst (.value x) c.args.toList c.argTypes.toList K st
    | .invoke x m => callM E T n o.dst (.invoke x m) c.args.toList c.argTypes.toList K st
    | _ => mapE T o (runM n o.dst K st) st
  | _ => mapE T o (runM n o.dst K st) st

def wpOp (E : Env) (T : TypeId → Option TI) (n : Nat) (o : Oper) (K : St → Prop) (st : St) : Prop := wpO E T n o K st ∨ wpM E T n o K st

section
variable {cx : Cx} {G : Gh} {st : St} {a : Act} {E : Env}

theorem storeVar_run (hT : TOk P T) {t : TypeId} {ti : TI} (ht : T t = some ti) {b o : Nat} {v : Value} (hsz : v.cells.size = ti.size) (hc : ∀ j, j < v.cells.size → (w.cell? ⟨b, o + j, none⟩).isSome = true) (hf : ∀ j, j < v.cells.size → w.frozen? ⟨b, o + j, none⟩ = false)
    (h1 : ∀ u ∈ v.cells.toList, u.oneCell' = true) : (storeVar t ⟨b, o, none⟩ v).run P w = .ok () (w.setCells b o v.cells.toList) := by
  have := run_storeCells_cells (P := P) b o v.cells.toList 0 w (by simpa using hc) (by simpa using hf) h1
  simp only [Nat.add_zero] at this
  simp [storeVar, run_size (hT _ _ ht), hsz, this]

theorem append_ok (hT : TOk P T) (hR : R cx G st a w) {o : Oper} {x y : Operand} {t t2 : TypeId} (ho : o.op = .call { callee := .builtin .append, args := #[x, y], argTypes := #[t, t2] }) {K : St → Prop} {X : Exit → Act → World → Prop}
    (h : appendE T (ownApp o) x y t t2 (runE cx.n o.dst K st) st) : o.wp P a w (Post cx K) X := by
  unfold appendE at h
  split at h
  · rename_i ti ti2 ht ht2
    split at h
    · rename_i e e2 hk hk2
      split at h
      · rename_i te nm sz rows sz2 ys he hx hy
        split at h
        · rename_i hc
          obtain ⟨hsz, hsz2⟩ := hc
          obtain ⟨⟨hb, hm⟩, h⟩ := h
          rcases apEf_cases (ownApp o) nm te.size (rows ++ ys) with hef | ⟨trows, hlf, hvw, hef⟩
          · rw [hef] at h
            obtain ⟨d, hd, hdn, hf, hn, hK⟩ : ∃ d, o.dst = some d ∧ d < cx.n ∧ Fresh2 st nm d ∧ (Blk.cells te.size (rows ++ ys)).has d = false ∧ K ((st.give nm d (.cells te.size (rows ++ ys))).put d (.c (.mr d 0 (rows ++ ys).length))) := by
              simp only [runE, giveK] at h
              cases hd : o.dst with
              | none => rw [hd] at h; exact h.elim
              | some d =>
                rw [hd] at h
                simp only at h
                by_cases hdn : d < cx.n
                · rw [if_pos hdn] at h; exact ⟨d, rfl, hdn, h⟩
                · rw [if_neg hdn] at h; exact h.elim
            obtain ⟨r, w', G', hrun, hR2, hO⟩ := append_run (ty := o.type) hT hR ht hk he (kind_slice hT ht2 hk2) (rd_q (T := T) hR t x) (rd_q (T := T) hR t2 y) hx hy hsz hsz2 hb hm hdn hf hn
            have hrun2 : (execOp a.eval o).run P w = .ok (.value r) w' := by
              simp only [execOp, ho, resolve, Sem.run_bind, Sem.run_pure, Result.andThen_ok, invoke, builtin]
              simp [hrun]
            refine Oper.wp_value hrun2 ?_
            rw [hd]
            exact ⟨G', _, hR2.put (sv := .c (.mr d 0 (rows ++ ys).length)) hdn hO, hK⟩
          · rw [hef] at h
            obtain ⟨d, hd, hdn, hf, hK⟩ : ∃ d, o.dst = some d ∧ d < cx.n ∧ Fresh2 st nm d ∧ K ((st.give nm d (.cells te.size [])).put d (.c (.t (.sl te.size trows)))) := by
              simp only [runE, giveK] at h
              cases hd : o.dst with
              | none => rw [hd] at h; exact h.elim
              | some d =>
                rw [hd] at h
                simp only at h
                by_cases hdn : d < cx.n
                · rw [if_pos hdn] at h; exact ⟨d, rfl, hdn, h.1, h.2.2⟩
                · rw [if_neg hdn] at h; exact h.elim
            have hn : (Blk.cells te.size (rows ++ ys)).has d = false := leaf_has hlf
            obtain ⟨r, w', G', hrun, hR2, hO⟩ := append_run (ty := o.type) hT hR ht hk he (kind_slice hT ht2 hk2) (rd_q (T := T) hR t x) (rd_q (T := T) hR t2 y) hx hy hsz hsz2 hb hm hdn hf hn
            have hrun2 : (execOp a.eval o).run P w = .ok (.value r) w' := by
              simp only [execOp, ho, resolve, Sem.run_bind, Sem.run_pure, Result.andThen_ok, invoke, builtin]
              simp [hrun]
            refine Oper.wp_value hrun2 ?_
            rw [hd]
            obtain ⟨G2, hR3⟩ := (hR2.put (sv := .c (.mr d 0 (rows ++ ys).length)) hdn hO).give_tree hdn hvw hf
            exact ⟨G2, _, hR3, hK⟩
        · exact h.elim
      · exact h.elim
    · exact h.elim
  · exact h.elim

theorem store_ok (hT : TOk P T) (hR : R cx G st a w) {o : Oper} {t : TypeId} {x v : Operand} (ho : o.op = .store t x v) {K : St → Prop} {X : Exit → Act → World → Prop} (h : storeE T t x v (runE cx.n o.dst K st) st) : o.wp P a w (Post cx K) X := by
  unfold storeE at h
  split at h
  · rename_i ti nm i o0 cs ht hx hcs
    have hq := rd_q (T := T) hR 0 x
    rw [hx] at hq
    obtain ⟨p, hp, hxe⟩ := cv_mp hq
    have hv := cells_q (rd_q (T := T) hR t v) hcs
    split at h
    · rename_i sz rows hb
      split at h
      · rename_i row hrow
        split at h
        · rename_i hc
          obtain ⟨hl, hle, hpl⟩ := hc
          obtain ⟨hd, h⟩ := h
          have hR2 := hR.store hb hrow hle hv hp
          have hB := hR.heap nm _ hb
          simp only [BlkR, hp] at hB
          obtain ⟨b1, b2, b3, b4, b5, bcs, el, b6, b7, b8, b9⟩ := hB
          have hvl := All2.toList hv
          have hrow2 := b4 row (List.mem_of_getElem? hrow)
          have hil := (List.getElem?_eq_some_iff.1 hrow).1
          have hlt := Nat.mul_le_mul_right sz (show i + 1 ≤ rows.length by omega)
          rw [Nat.succ_mul] at hlt
          have hcell : ∀ j, j < (a.eval v).cells.toList.length → (w.cell? ⟨p.b, p.o + (i * p.sz + o0) + j, none⟩).isSome = true := by
            intro j hj
            rw [Array.length_toList] at hj
            simp only [World.cell?, b6, b1]
            simp
            omega
          have hfr : ∀ j, j < (a.eval v).cells.toList.length → w.frozen? ⟨p.b, p.o + (i * p.sz + o0) + j, none⟩ = false := by
            intro j hj
            simp [World.frozen?, b6]
          have hone : ∀ u ∈ (a.eval v).cells.toList, u.oneCell' = true := by
            intro u hu
            obtain ⟨j, hj, rfl⟩ := List.mem_iff_getElem.1 hu
            have hjc : j < cs.length := by rw [hv.length]; exact hj
            obtain ⟨y, h1, h2⟩ := hv.get j _ (List.getElem?_eq_getElem hjc)
            rw [List.getElem?_eq_getElem hj] at h1
            rw [Option.some.inj h1]
            exact (h2.plain (List.all_eq_true.1 hpl _ (List.getElem_mem hjc))).2
          have hsv := storeVar_run hT ht (b := p.b) (o := p.o + (i * p.sz + o0)) (v := a.eval v) (by rw [← hvl, hl]) (fun j hj => hcell j (by simpa using hj)) (fun j hj => hfr j (by simpa using hj)) hone
          have hrun : (execOp a.eval o).run P w = .ok .skip (w.setCells p.b (p.o + (i * p.sz + o0)) (a.eval v).cells.toList) := by
            simp only [execOp, ho]
            rw [hxe]
            simp [Instr.storeAt, Instr.sureAddr, hsv]
          refine Oper.wp_skip hrun ?_
          rw [hd]
          exact ⟨G, _, hR2, h⟩
        · exact h.elim
      · exact h.elim
    · exact h.elim
  · exact h.elim

/-- THE STEP: what a state's step says holds of the operation's. -/
theorem wpOp_ok (hE : EnvOk P E) (hT : TOk P T) (hR : R cx G st a w) {o : Oper} {K : St → Prop} {X : Exit → Act → World → Prop} (hw : wpOp E T cx.n o K st) : o.wp P a w (Post cx K) X := by
  have hM : wpM E T cx.n o K st → o.wp P a w (Post cx K) X := by
    intro hw
    unfold wpM at hw
    split at hw
    · rename_i c ho
      obtain ⟨cal, args, types⟩ := c
      simp only at hw
      split at hw
      · exact callM_ok hE hT hR ho hw
      · exact callM_ok hE hT hR ho hw
      · exact mapE_ok hT hR hw
    · exact mapE_ok hT hR hw
  rcases hw with hw | hw
  case inr => exact hM hw
  have hqk : quietE T o (runE cx.n o.dst K st) st → o.wp P a w (Post cx K) X := fun h => quietK_ok hT hR h
  unfold wpO wpE at hw
  split at hw
  · rename_i t ho
    split at hw
    · rename_i ti ht
      split at hw
      · rename_i h0
        obtain ⟨info, z, hi, hsz, hby, hz, hzr, _⟩ := (hT _ _ ht).info
        exact newVar_ok (x := z) (el := t) hR (hzr.mono fun _ _ => zero_cv) h0 (by simp only [execOp, ho]; exact run_value' _ _ _ _ (by simp [Instr.alloc, zeroValue, typeInfo, hi, hz, newVar, newRow])) hw
      · exact hw.elim
    · exact hw.elim
  · rename_i t x ho
    split at hw
    · rename_i cs hcs
      split at hw
      · rename_i h0
        exact newVar_ok (x := a.eval x) (el := t) hR (cells_q (rd_q (T := T) hR t x) hcs) h0 (by simp only [execOp, ho]; exact run_value' _ _ _ _ (by simp [Instr.box, newVar, newRow])) hw
      · exact hw.elim
    · exact hw.elim
  · rename_i t l c ho
    split at hw
    · rename_i ti k m k' m' ht hl hc
      split at hw
      · rename_i e hk
        split at hw
        · rename_i te he
          split at hw
          · rename_i hcnd
            obtain ⟨rfl, h0⟩ := hcnd
            obtain ⟨⟨hm, hmx, hb⟩, hK⟩ := hw
            exact makeSlice_ok hT hR ho ht hk he hl hc h0 hm hmx hb hK
          · exact hw.elim
        · exact hw.elim
      · exact hw.elim
    · exact hw.elim
  · rename_i t len parts ho
    split at hw
    · rename_i ti ht
      split at hw
      · rename_i e hk
        split at hw
        · rename_i te he
          split at hw
          · rename_i hcnd
            split at hw
            · rename_i cs hcs
              rcases hw with hw | ⟨_, hw⟩
              case inr =>
                split at hw
                · rename_i trows hvw
                  exact buildTree_ok hT hR ho ht hk he hcnd.1 hw.1 hcnd.2.2 hcs hvw hw.2
                · exact hw.elim
              rcases Nat.eq_zero_or_pos len with hl | hl
              · subst hl
                have hps := hcnd.2.1.resolve_left (Nat.lt_irrefl 0)
                rw [hps] at hcs
                simp only [layParts, List.replicate, List.flatten_nil, Option.some.injEq] at hcs
                subst hcs
                exact buildSlice0_ok hT hR ho ht hk he hcnd.1 hps hw
              · exact buildSlice_ok hT hR ho ht hk he hcnd.1 hl hcnd.2.2 hcs hw
            · exact hw.elim
          · exact hw.elim
        · exact hw.elim
      · exact hw.elim
    · exact hw.elim
  · rename_i t x v ho
    exact store_ok hT hR ho hw
  · rename_i t x ho
    rcases hw with hw | ⟨_, hw⟩
    · exact hqk hw
    · exact loadOwn_ok hT hR ho hw
  · rename_i c ho
    obtain ⟨cal, args, types⟩ := c
    simp only at hw
    split at hw
    · rcases hw with hw | ⟨_, hw⟩ | ⟨_, hw⟩
      · exact call_ok hE hT hR ho hw
      · exact callM_ok hE hT hR ho (callN_M hw)
      · exact callM_ok hE hT hR ho (callQ_M hw)
    · exact call_ok hE hT hR ho hw
    · split at hw
      · rename_i x y t t2 ha ht
        obtain rfl : args = #[x, y] := by rw [← Array.toArray_toList (xs := args), ha]
        obtain rfl : types = #[t, t2] := by rw [← Array.toArray_toList (xs := types), ht]
        exact append_ok hT hR ho hw
      · exact hw.elim
    · exact hqk hw
  · exact hqk hw

/-- Is the operation wanted? (Its guard, by what the guard's slot holds.) -/
def guardOf (all : Array Oper) (st : St) (o : Oper) : Option Bool :=
  match o.guard with
  | none => some true
  | some (j, want) => match (all[j]?).bind (·.dst) with
    | some d => match st.slots d with
      | .c (.t (.bool b)) => some (b == want)
      | .tup [] => some false
      | _ => none
    | none => none

def wpI (E : Env) (T : TypeId → Option TI) (n : Nat) (all : Array Oper) (i : Nat) (K : St → Prop) (st : St) : Prop :=
  match all[i]? with
  | none => K st
  | some o => match guardOf all st o with
    | some c => if c = true then wpOp E T n o K st else putK n o.dst (.tup []) K st
    | none => False

/-- The guard, by the slots that the operations ahead have written. -/
def guardD (ds : List (Option Nat)) (st : St) (o : Oper) : Option Bool :=
  match o.guard with
  | none => some true
  | some (j, want) => match ds[j]? with
    | some (some d) => match st.slots d with
      | .c (.t (.bool b)) => some (b == want)
      | .tup [] => some false
      | _ => none
    | _ => none

/-- What is known turned into what follows from it. -/
def Gho (n : Nat) (st st' : St) : Prop := ∀ (cx : Cx) (G : Gh) (a : Act) (w : World), cx.n = n → R cx G st a w → ∃ G', R cx G' st' a w
theorem Gho.refl (n : Nat) (st : St) : Gho n st st := fun _ G _ _ _ hR => ⟨G, hR⟩
theorem Gho.trans {n : Nat} {s1 s2 s3 : St} (h1 : Gho n s1 s2) (h2 : Gho n s2 s3) : Gho n s1 s3 := fun cx G a w hn hR => by
  obtain ⟨G', hR'⟩ := h1 cx G a w hn hR
  exact h2 cx G' a w hn hR'

/-- A region's operations in their order. -/
def wpS (E : Env) (T : TypeId → Option TI) (n : Nat) : List (Option Nat) → List Oper → (St → Prop) → St → Prop
  | _, [], K, st => K st
  | ds, o :: l, K, st => ∃ st1, Gho n st st1 ∧ match guardD ds st1 o with
    | some c => if c = true then wpOp E T n o (wpS E T n (ds ++ [o.dst]) l K) st1 else putK n o.dst (.tup []) (wpS E T n (ds ++ [o.dst]) l K) st1
    | none => False

def wpAnyL (E : Env) (T : TypeId → Option TI) (n : Nat) (all : Array Oper) : Nat → Array Bool → (St → Prop) → St → Prop
  | 0, listed, K, st => Region.ready .any all listed = [] ∧ K st
  | f + 1, listed, K, st => (Region.ready .any all listed = [] → K st) ∧ ∀ i ∈ Region.ready .any all listed, ∃ st1, Gho n st st1 ∧ wpI E T n all i (wpAnyL E T n all f (listed.setIfInBounds i true) K) st1

def wpCode (E : Env) (T : TypeId → Option TI) (n : Nat) : Code → (Exit → St → Prop) → St → Prop
  | .skip, Q, st => Q .normal st
  | .region _ ops draw, Q, st => if draw then wpAnyL E T n ops ops.size (Array.replicate ops.size false) (Q .normal) st else wpS E T n [] ops.toList (Q .normal) st
  | .seq x y, Q, st => wpCode E T n x (fun e st' => match e with | .normal => ∃ st2, Gho n st' st2 ∧ wpCode E T n y Q st2 | e => Q e st') st
  | .cond c x y, Q, st => match rd T st 0 c with
    | .c (.t (.bool b)) => (b = true → wpCode E T n x Q st) ∧ (b = false → wpCode E T n y Q st)
    | _ => False
  | .block id x, Q, st => wpCode E T n x (fun e st' => match e with | .exit id' => if id' = id then Q .normal st' else Q (.exit id') st' | e => Q e st') st
  | .loop x, Q, st => ∃ (σ : Type) (I : σ → St → Prop) (μ : σ → Nat), (∃ s st0, Gho n st st0 ∧ I s st0) ∧ ∀ s st', I s st' → wpCode E T n x (fun e st'' => match e with | .normal => ∃ s' st2, Gho n st'' st2 ∧ I s' st2 ∧ μ s' < μ s | e => Q e st'') st'
  | .exit id, Q, st => Q (.exit id) st
  | .ret, Q, st => Q .ret st
  | _, _, _ => False

theorem skipped_q {M : Mk} : SVR M w (.tup []) undef := ⟨[], rfl, trivial⟩

theorem guard_ok (hR : R cx G st a w) {all : Array Oper} {o : Oper} {c : Bool} (h : guardOf all st o = some c) : Region.wanted o (yielded all a.tmps) = c := by
  unfold guardOf at h
  unfold Region.wanted
  split at h
  · rename_i hg; rw [hg]; exact Option.some.inj h
  · rename_i j want hg
    rw [hg]
    split at h
    · rename_i d hd
      split at h
      · rename_i b hb
        obtain rfl := Option.some.inj h
        have hs := hR.slots d
        rw [hb] at hs
        have hv := cv_bool hs
        have ht : a.tmps[d]? = some (.bool b) := by
          rw [Array.getD_eq_getD_getElem?] at hv
          cases h9 : a.tmps[d]? with
          | none => rw [h9] at hv; cases hv
          | some x => rw [h9] at hv; simp only [Option.getD_some] at hv; rw [hv]
        simp only [yielded, hd, Option.bind_some, ht]
        cases b <;> cases want <;> rfl
      · rename_i hb
        obtain rfl := Option.some.inj h
        have hs := hR.slots d
        rw [hb] at hs
        obtain ⟨vs, hv, h2⟩ := hs
        have hv0 : a.tmps.getD d undef = undef := by
          rw [hv]
          cases vs with
          | nil => rfl
          | cons _ _ => exact h2.elim
        have hy : yielded all a.tmps j = none := by
          rw [Array.getD_eq_getD_getElem?] at hv0
          simp only [yielded, hd, Option.bind_some]
          cases h9 : a.tmps[d]? with
          | none => rfl
          | some x => rw [h9] at hv0; simp only [Option.getD_some] at hv0; rw [hv0]; rfl
        simp only [hy]; rfl
      · cases h
    · cases h

theorem wpI_ok (hE : EnvOk P E) (hT : TOk P T) (hR : R cx G st a w) {all : Array Oper} {i : Nat} {K : St → Prop} {X : Exit → Act → World → Prop} (hw : wpI E T cx.n all i K st) : Go.wpOp P all X i (Post cx K) a w := by
  unfold wpI at hw
  unfold Go.wpOp
  cases hi : all[i]? with
  | none => rw [hi] at hw; exact ⟨G, st, hR, hw⟩
  | some o =>
    rw [hi] at hw
    simp only at hw ⊢
    split at hw
    · rename_i c hc
      rw [guard_ok hR hc]
      cases c with
      | true => exact .inl (wpOp_ok hE hT hR hw)
      | false => exact putK_ok hR skipped_q hw
    · exact hw.elim

theorem guardD_eq {all : Array Oper} {st : St} {o : Oper} {c : Bool} {k : Nat} (h : guardD ((all.toList.take k).map (·.dst)) st o = some c) : guardOf all st o = some c := by
  unfold guardD at h
  unfold guardOf
  split at h
  · exact h
  · rename_i j want hg
    split at h
    · rename_i d hd
      rw [List.getElem?_map] at hd
      cases ho : (all.toList.take k)[j]? with
      | none => simp [ho] at hd
      | some o' =>
        simp only [ho, Option.map_some, Option.some.injEq] at hd
        have hj : j < k := by
          have := (List.getElem?_eq_some_iff.1 ho).1
          simp at this; omega
        rw [List.getElem?_take_of_lt hj] at ho
        have ho' : all[j]? = some o' := by simpa using ho
        simp only [ho', Option.bind_some, hd]
        exact h
    · cases h

theorem wpS_ok (hE : EnvOk P E) (hT : TOk P T) {all : Array Oper} {K : St → Prop} {X : Exit → Act → World → Prop} (hX : ∀ a w, Post cx K a w → X .normal a w) : ∀ (l : List Oper) (k : Nat) {st a w G}, all.toList.drop k = l → R cx G st a w →
    wpS E T cx.n ((all.toList.take k).map (·.dst)) l K st → wpOps P all X (List.range' k l.length) a w
  | [], k, st, a, w, G, _, hR, hw => hX a w ⟨G, st, hR, hw⟩
  | o :: l, k, st, a, w, G, hl, hR, hw => by
    have hk : k < all.toList.length := by
      rcases Nat.lt_or_ge k all.toList.length with h | h
      · exact h
      · rw [List.drop_of_length_le h] at hl; cases hl
    have ho : all[k]? = some o := by
      have : (all.toList.drop k)[0]? = some o := by rw [hl]; rfl
      rw [List.getElem?_drop] at this
      simpa using this
    have hl2 : all.toList.drop (k + 1) = l := by rw [← List.drop_drop, hl]; rfl
    have ht2 : (all.toList.take (k + 1)).map (·.dst) = (all.toList.take k).map (·.dst) ++ [o.dst] := by
      rw [List.take_add_one, List.map_append]
      have : all.toList[k]? = some o := by simpa using ho
      rw [this]; rfl
    rw [List.length_cons, List.range'_succ, wpOps_cons]
    simp only [wpS] at hw
    obtain ⟨st1, hgh, hw⟩ := hw
    obtain ⟨G1, hR1⟩ := hgh cx G a w rfl hR
    split at hw
    · rename_i c hc
      rw [← ht2] at hw
      have hnext : ∀ a' w', Post cx (wpS E T cx.n ((all.toList.take (k + 1)).map (·.dst)) l K) a' w' → wpOps P all X (List.range' (k + 1) l.length) a' w' := fun a' w' ⟨G', st', hR', hK'⟩ => wpS_ok hE hT hX l (k + 1) hl2 hR' hK'
      refine wpOp_mono hnext ?_
      unfold Go.wpOp
      rw [ho]
      simp only
      rw [guard_ok hR1 (guardD_eq hc)]
      cases c with
      | true => exact .inl (wpOp_ok hE hT hR1 hw)
      | false => exact putK_ok hR1 skipped_q hw
    · exact hw.elim

theorem wpAnyL_ok (hE : EnvOk P E) (hT : TOk P T) {all : Array Oper} {K : St → Prop} {X : Exit → Act → World → Prop} (hX : ∀ a w, Post cx K a w → X .normal a w) : ∀ (f : Nat) (listed : Array Bool) {st a w G}, R cx G st a w → wpAnyL E T cx.n all f listed K st → wpAny P .any all X f listed a w
  | 0, listed, st, a, w, G, hR, hw => ⟨hw.1, hX a w ⟨G, st, hR, hw.2⟩⟩
  | f + 1, listed, st, a, w, G, hR, hw => ⟨fun he => hX a w ⟨G, st, hR, hw.1 he⟩, fun i hi => by
    obtain ⟨st1, hg, h1⟩ := hw.2 i hi
    obtain ⟨G1, hR1⟩ := hg cx G a w rfl hR
    exact wpOp_mono (fun a' w' ⟨G', st', hR', hK'⟩ => wpAnyL_ok hE hT hX f _ hR' hK') (wpI_ok hE hT hR1 h1)⟩

theorem R.drew (hR : R cx G st a w) : R cx G st a w.drew :=
  hR.grow G.hw (Kept.of_below (Below.refl _ _).drew) (fun _ _ => rfl) hR.hwNew

/-- A loop, by what holds at its head of something beside the frame, that each round lessens. -/
theorem wp_loop_of {σ : Type} {c : Code} {X : Exit → Act → World → Prop} (I : σ → Act → World → Prop) (μ : σ → Nat) (round : ∀ s a w, I s a w → c.wp P (Exit.then (fun a' w' => ∃ s', I s' a' w' ∧ μ s' < μ s) X) a w) :
    ∀ s a w, I s a w → (Code.loop c).wp P X a w := by
  intro s a w h0 b k cs
  have key : ∀ m s a w, μ s = m → I s a w → ∃ e a' w', X e a' w' ∧ Arrives P (lone (b.at a (.code c :: .inLoop c :: k)) cs w) b k cs e a' w' := by
    intro m
    induction m using Nat.strongRecOn with
    | _ m ih =>
      intro s a w hm hI
      obtain ⟨e, a1, w1, hq, harr⟩ := round s a w hI b (.inLoop c :: k) cs
      cases e with
      | normal =>
        obtain ⟨s1, hI1, hlt⟩ := hq
        obtain ⟨e2, a2, w2, hq2, harr2⟩ := ih (μ s1) (hm ▸ hlt) s1 a1 w1 rfl hI1
        exact ⟨e2, a2, w2, hq2, .of_steps (Steps.trans harr (.one step_inLoop)) harr2⟩
      | outgrown => exact ⟨.outgrown, a1, w1, hq, harr⟩
      | ret => exact ⟨.ret, a1, w1, hq, harr⟩
      | panic ch => exact ⟨.panic ch, a1, w1, hq, harr⟩
      | exit id => exact ⟨.exit id, a1, w1, hq, .pass (x := .inLoop c) rfl (fun _ _ => .inl (by simp)) harr⟩
      | goto l => exact ⟨.goto l, a1, w1, hq, .pass (x := .inLoop c) rfl (fun _ _ => .inl (by simp)) harr⟩
  obtain ⟨e, a', w', hq, harr⟩ := key _ s a w rfl h0
  exact ⟨e, a', w', hq, .of_steps (.one step_loop) harr⟩

theorem wpCode_ok (hm : P.follows .mixedOrders = true) (hE : EnvOk P E) (hT : TOk P T) : ∀ (c : Code) {Q : Exit → St → Prop} {X : Exit → Act → World → Prop} {st a w G}, (∀ e a w G st, R cx G st a w → Q e st → X e a w) → R cx G st a w → wpCode E T cx.n c Q st → c.wp P X a w
  | .skip, Q, X, st, a, w, G, hX, hR, hw => wp_skip (hX _ _ _ _ _ hR hw)
  | .region id ops draw, Q, X, st, a, w, G, hX, hR, hw => by
    have hX' : ∀ a w, Post cx (Q .normal) a w → X .normal a w := fun a w ⟨G, st, hR, hq⟩ => hX _ _ _ _ _ hR hq
    cases draw with
    | true => exact wp_region_any hm (wpAnyL_ok hE hT hX' _ _ hR.drew hw)
    | false => exact wp_region (by have := wpS_ok hE hT hX' ops.toList 0 (all := ops) (by simp) hR hw; rw [List.range_eq_range']; simpa using this)
  | .seq x y, Q, X, st, a, w, G, hX, hR, hw => by
    refine wp_seq (wpCode_ok hm hE hT x (fun e a w G st hR hq => ?_) hR hw)
    cases e with
    | normal =>
      obtain ⟨st2, hg, hq⟩ := hq
      obtain ⟨G2, hR2⟩ := hg cx G a w rfl hR
      exact wpCode_ok hm hE hT y hX hR2 hq
    | _ => exact hX _ _ _ _ _ hR hq
  | .cond c x y, Q, X, st, a, w, G, hX, hR, hw => by
    simp only [wpCode] at hw
    split at hw
    · rename_i b hb
      have hq := rd_q (T := T) hR 0 c
      rw [hb] at hq
      exact wp_cond_split (cv_bool hq) (fun ht => wpCode_ok hm hE hT x hX hR (hw.1 ht)) (fun hf => wpCode_ok hm hE hT y hX hR (hw.2 (by simpa using hf)))
    · exact hw.elim
  | .block id x, Q, X, st, a, w, G, hX, hR, hw => by
    refine wp_block (wpCode_ok hm hE hT x (fun e a w G st hR hq => ?_) hR hw)
    cases e with
    | exit id' =>
      simp only [Exit.inBlock]
      simp only at hq
      split at hq
      · rename_i he; rw [if_pos he]; exact hX _ _ _ _ _ hR hq
      · rename_i he; rw [if_neg he]; exact hX _ _ _ _ _ hR hq
    | _ => exact hX _ _ _ _ _ hR hq
  | .loop x, Q, X, st, a, w, G, hX, hR, hw => by
    obtain ⟨σ, I, μ, ⟨s0, st0, hg0, h0⟩, hround⟩ := hw
    obtain ⟨G0, hR0⟩ := hg0 cx G a w rfl hR
    refine wp_loop_of (σ := σ) (fun s a w => ∃ G st, R cx G st a w ∧ I s st) μ (fun s a w ⟨G, st, hR, hI⟩ => ?_) s0 a w ⟨G0, _, hR0, h0⟩
    refine wpCode_ok hm hE hT x (fun e a w G st hR hq => ?_) hR (hround s st hI)
    cases e with
    | normal =>
      obtain ⟨s', st2, hg, h1, h2⟩ := hq
      obtain ⟨G2, hR2⟩ := hg cx G a w rfl hR
      exact ⟨s', ⟨G2, _, hR2, h1⟩, h2⟩
    | _ => exact hX _ _ _ _ _ hR hq
  | .exit id, Q, X, st, a, w, G, hX, hR, hw => wp_exit (hX _ _ _ _ _ hR hw)
  | .ret, Q, X, st, a, w, G, hX, hR, hw => wp_ret (hX _ _ _ _ _ hR hw)
  | .rangeFunc .., _, _, _, _, _, _, _, _, hw => hw.elim
  | .scope _, _, _, _, _, _, _, _, _, hw => hw.elim
  | .label _, _, _, _, _, _, _, _, _, hw => hw.elim
  | .goto _, _, _, _, _, _, _, _, _, hw => hw.elim

/-- A FUNCTION'S CONTRACT, by its text. -/
theorem spec_by {f : FuncId} {fn : Func} {c : Code} (hf : P.funcs[f]? = some fn) (hb : fn.body = some c) (hm : P.follows .mixedOrders = true) (hT : TOk P T) (hE : EnvOk P E) {n : Nat} (hn : n = fn.ntmps) {args res : List AV} {h h' : List (Nat × Blk)} (hargs : args.length ≤ fn.ntmps) (hnm : ∀ p ∈ h, fn.ntmps ≤ p.1)
    (hw : wpCode E T n c (KRes T fn.results.toList res h') (initSt args h)) : Spec P f args h res h' :=
  spec_of hf hb hT hargs hnm fun cx G a w X hcn hR hX => wpCode_ok hm hE hT c (fun e a w G st h1 h2 => hX e G st a w h1 h2) hR (by rw [hcn, ← hn]; exact hw)
end
end Go.Proofs.Ytgmjgognpabmdaa.Fx
