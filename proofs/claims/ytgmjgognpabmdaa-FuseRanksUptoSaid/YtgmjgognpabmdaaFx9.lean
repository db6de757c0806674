/- The evaluator's second make: calls. -/
import Derived.Test.YtgmjgognpabmdaaFx8
namespace Go.Proofs.Ytgmjgognpabmdaa.Fx
open Go Go.RowKit
set_option linter.unusedSimpArgs false
set_option linter.unusedVariables false
variable {P : Program} {T : TypeId → Option TI} {w w' : World}

/-- What is known of functions. -/
abbrev Env := FuncId → List AV → List (Nat × Blk) → List AV → List (Nat × Blk) → Prop
def EnvOk (P : Program) (E : Env) : Prop := ∀ f args h res h', E f args h res h' → Entered P f ∧ Spec P f args h res h'

def viewCL (heap : Nat → Option Blk) : List CV → Option (List TV)
  | [] => some []
  | c :: r => match viewC heap c, viewCL heap r with
    | some v, some vs => some (v :: vs)
    | _, _ => none

/-- An argument, as a callee sees it that gets no name. -/
def argOf (heap : Nat → Option Blk) : SV → Option AV
  | .c v => match viewC heap v with
    | some t => some (.v (.t t))
    | none => none
  | .agg cs => match viewCL heap cs with
    | some ts => some (.agg (ts.map .t))
    | none => none
  | _ => none

def argsOf (T : TypeId → Option TI) (st : St) : List Operand → List TypeId → Option (List AV)
  | [], _ => some []
  | x :: xs, t :: ts => match argOf st.heap (rd T st t x), argsOf T st xs ts with
    | some v, some vs => some (v :: vs)
    | _, _ => none
  | _ :: _, [] => none

def CV.isMr : CV → Bool
  | .mr _ _ _ => true
  | .t _ => false
  | .own _ _ => false
  | .mp _ _ _ => false
  | .mm _ => false
  | .fnc _ _ _ => false
  | .ifc _ _ _ => false
  | .dead => false
def isMr : SV → Bool
  | .c v => v.isMr
  | .agg cs => cs.any CV.isMr
  | _ => false

def anyMr (T : TypeId → Option TI) (st : St) : List Operand → List TypeId → Bool
  | x :: xs, t :: ts => isMr (rd T st t x) || anyMr T st xs ts
  | _, _ => false

/-! Names turned into others. -/
mutual
def CV.ren (ρ : Nat → Nat) : CV → CV
  | .t v => .t v
  | .own sz rows => .own sz (renRows ρ rows)
  | .mr nm lo len => .mr (ρ nm) lo len
  | .mp nm i o => .mp (ρ nm) i o
  | .mm nm => .mm (ρ nm)
  | .fnc f a b => .fnc f (renL ρ a) (renL ρ b)
  | .ifc ty g cs => .ifc ty g (renL ρ cs)
  | .dead => .dead
def renL (ρ : Nat → Nat) : List CV → List CV
  | [] => []
  | c :: r => c.ren ρ :: renL ρ r
def renRows (ρ : Nat → Nat) : List (List CV) → List (List CV)
  | [] => []
  | r :: rs => renL ρ r :: renRows ρ rs
end
theorem renL_map (ρ : Nat → Nat) : ∀ l, renL ρ l = l.map (CV.ren ρ)
  | [] => rfl
  | c :: l => by simp [renL, renL_map ρ l]
theorem renRows_map (ρ : Nat → Nat) : ∀ l, renRows ρ l = l.map (·.map (CV.ren ρ))
  | [] => rfl
  | c :: l => by simp [renRows, renL_map, renRows_map ρ l]
theorem renRows_up (ρ : Nat → Nat) (rows : List (List TV)) : renRows ρ (up rows) = up rows := by
  rw [renRows_map]
  simp [up, CV.ren]
def AV.ren (ρ : Nat → Nat) : AV → AV
  | .v x => .v (x.ren ρ)
  | .agg cs => .agg (renL ρ cs)
def Blk.ren (ρ : Nat → Nat) : Blk → Blk
  | .cells sz rows => .cells sz (renRows ρ rows)
  | .map c es => .map c (es.map fun e => (e.1.ren ρ, e.2.1.ren ρ, e.2.2))
  | .iter m a b c => .iter (ρ m) a b c

/-- What stands under other names stands under these, where these stand for those. -/
theorem CVR.unren {M M' : Mk} {ρ : Nat → Nat} {S : Nat → Prop} {c' : CV} {x : Value} (h : CVR M w S c' x) : ∀ c : CV, c.ren ρ = c' → (∀ v y, TVR M.hw w v y → TVR M'.hw w v y) → (∀ nm, c.has nm = true → M'.ph nm = M.ph (ρ nm)) → CVR M' w S c x := by
  induction h with
  | t h => intro c hc ht hp; cases c <;> simp only [CV.ren, reduceCtorEq, CV.t.injEq] at hc; subst hc; exact .t (ht _ _ h)
  | nil sz a =>
    intro c hc ht hp
    cases c <;> simp only [CV.ren, reduceCtorEq, CV.own.injEq] at hc
    rename_i sz' rows'
    obtain ⟨rfl, hr⟩ := hc
    cases rows' with
    | nil => exact .nil _ _
    | cons _ _ => simp [renRows] at hr
  | own sz rows b o cap cs el f g hb hg hd h0 hl hne hc hh hfit h1 h2 ih =>
    intro c hce ht hp
    cases c <;> simp only [CV.ren, reduceCtorEq, CV.own.injEq] at hce
    rename_i sz' rows'
    obtain ⟨rfl, hr⟩ := hce
    rw [renRows_map] at hr
    subst hr
    have hlen : (rows'.map (·.map (CV.ren ρ))).length = rows'.length := List.length_map _
    rw [hlen]
    refine .own sz' rows' b o cap cs el f g hb hg hd h0 (fun r hr => ?_) (fun e => hne (by rw [e]; rfl)) (by rw [← hlen]; exact hc) hh hfit (fun i j hi hj => h1 i j (by rw [hlen]; exact hi) hj) (fun i r j c hi hj => ?_)
    · have := hl _ (List.mem_map.2 ⟨r, hr, rfl⟩)
      simpa using this
    · refine ih i (r.map (CV.ren ρ)) j (c.ren ρ) (by rw [List.getElem?_map, hi]; rfl) (by rw [List.getElem?_map, hj]; rfl) c rfl ht fun nm hn => hp nm ?_
      simp only [CV.has]
      exact hasRows_mem (List.mem_of_getElem? hi) (List.mem_of_getElem? hj) hn
  | mr0 nm lo a =>
    intro c hc ht hp
    cases c <;> simp only [CV.ren, reduceCtorEq, CV.mr.injEq] at hc
    obtain ⟨_, rfl, rfl⟩ := hc
    exact .mr0 _ _ _
  | mr nm lo len cap p hp' h1 h2 h3 h4 =>
    intro c hc ht hp
    cases c <;> simp only [CV.ren, reduceCtorEq, CV.mr.injEq] at hc
    obtain ⟨rfl, rfl, rfl⟩ := hc
    exact .mr _ _ _ cap p (by rw [hp _ (by simp [CV.has]), hp']) h1 h2 h3 h4
  | mp nm i o p hp' =>
    intro c hc ht hp
    cases c <;> simp only [CV.ren, reduceCtorEq, CV.mp.injEq] at hc
    obtain ⟨rfl, rfl, rfl⟩ := hc
    exact .mp _ _ _ p (by rw [hp _ (by simp [CV.has]), hp'])
  | mm nm p hp' =>
    intro c hc ht hp
    cases c <;> simp only [CV.ren, reduceCtorEq, CV.mm.injEq] at hc
    subst hc
    exact .mm _ p (by rw [hp _ (by simp [CV.has]), hp'])
  | fnc f first caps us vs h1 h2 h3 h4 ih3 ih4 =>
    intro c hc ht hp
    cases c <;> simp only [CV.ren, reduceCtorEq, CV.fnc.injEq] at hc
    rename_i f' a' b'
    obtain ⟨rfl, ha, hb⟩ := hc
    rw [renL_map] at ha hb
    subst ha hb
    refine .fnc f' a' b' us vs (by simpa using h1) (by simpa using h2) (fun i c u hi hu => ih3 i (c.ren ρ) u (by rw [List.getElem?_map, hi]; rfl) hu c rfl ht fun nm hn => hp nm ?_) (fun i c u hi hu => ih4 i (c.ren ρ) u (by rw [List.getElem?_map, hi]; rfl) hu c rfl ht fun nm hn => hp nm ?_)
    · simp only [CV.has, Bool.or_eq_true]; exact .inl (hasL_mem (List.mem_of_getElem? hi) hn)
    · simp only [CV.has, Bool.or_eq_true]; exact .inr (hasL_mem (List.mem_of_getElem? hi) hn)
  | ifcA ty cs us h1 h3 ih =>
    intro c hc ht hp
    cases c <;> simp only [CV.ren, reduceCtorEq, CV.ifc.injEq] at hc
    rename_i ty' g' cs'
    obtain ⟨rfl, rfl, hcs⟩ := hc
    rw [renL_map] at hcs
    subst hcs
    refine .ifcA ty' cs' us (by simpa using h1) (fun i c u hi hu => ih i (c.ren ρ) u (by rw [List.getElem?_map, hi]; rfl) hu c rfl ht fun nm hn => hp nm ?_)
    simp only [CV.has]; exact hasL_mem (List.mem_of_getElem? hi) hn
  | ifc ty c u h ih =>
    intro c0 hc ht hp
    cases c0 <;> simp only [CV.ren, reduceCtorEq, CV.ifc.injEq] at hc
    rename_i ty' g' cs'
    obtain ⟨rfl, rfl, hcs⟩ := hc
    rw [renL_map] at hcs
    match cs', hcs with
    | [c1], hcs =>
      simp only [List.map_cons, List.map_nil, List.cons.injEq, and_true] at hcs
      exact .ifc ty' c1 u (ih c1 hcs ht fun nm hn => hp nm (by simp [CV.has, hasL, hn]))
  | dead x =>
    intro c hc ht hp
    cases c <;> simp only [CV.ren, reduceCtorEq] at hc
    exact .dead _

theorem CVR.ren {M M' : Mk} {ρ : Nat → Nat} {S : Nat → Prop} {c : CV} {x : Value} (h : CVR M w S c x) (ht : ∀ v y, TVR M.hw w v y → TVR M'.hw w v y) (hp : ∀ nm, c.has nm = true → M'.ph (ρ nm) = M.ph nm) : CVR M' w S (c.ren ρ) x := by
  induction h with
  | t h => exact .t (ht _ _ h)
  | nil sz a => exact .nil _ _
  | own sz rows b o cap cs el f g hb hg hd h0 hl hne hc hh hfit h1 h2 ih =>
    have hlen : (rows.map (·.map (CV.ren ρ))).length = rows.length := List.length_map _
    simp only [CV.ren, renRows_map]
    rw [← hlen]
    refine .own sz (rows.map (·.map (CV.ren ρ))) b o cap cs el f g hb hg hd h0 (fun r hr => ?_) (fun e => hne (by simpa using e)) (by rw [hlen]; exact hc) hh hfit (fun i j hi hj => h1 i j (by rw [hlen] at hi; exact hi) hj) (fun i r j c hi hj => ?_)
    · obtain ⟨r0, h9, rfl⟩ := List.mem_map.1 hr
      simpa using hl r0 h9
    · rw [List.getElem?_map] at hi
      cases hr : rows[i]? with
      | none => simp [hr] at hi
      | some r0 =>
        simp only [hr, Option.map_some, Option.some.injEq] at hi
        subst hi
        rw [List.getElem?_map] at hj
        cases hc0 : r0[j]? with
        | none => simp [hc0] at hj
        | some c0 =>
          simp only [hc0, Option.map_some, Option.some.injEq] at hj
          subst hj
          refine ih i r0 j c0 hr hc0 fun nm hn => hp nm ?_
          simp only [CV.has]
          exact hasRows_mem (List.mem_of_getElem? hr) (List.mem_of_getElem? hc0) hn
  | mr0 nm lo a => exact .mr0 _ _ _
  | mr nm lo len cap p hp' h1 h2 h3 h4 => exact .mr _ _ _ cap p (by rw [hp _ (by simp [CV.has]), hp']) h1 h2 h3 h4
  | mp nm i o p hp' => exact .mp _ _ _ p (by rw [hp _ (by simp [CV.has]), hp'])
  | mm nm p hp' => exact .mm _ p (by rw [hp _ (by simp [CV.has]), hp'])
  | fnc f first caps us vs h1 h2 h3 h4 ih3 ih4 =>
    simp only [CV.ren, renL_map]
    refine .fnc f _ _ us vs (by simpa using h1) (by simpa using h2) (fun i c u hi hu => ?_) (fun i c u hi hu => ?_)
    · rw [List.getElem?_map] at hi
      cases hc0 : first[i]? with
      | none => simp [hc0] at hi
      | some c0 =>
        simp only [hc0, Option.map_some, Option.some.injEq] at hi
        subst hi
        exact ih3 i c0 u hc0 hu fun nm hn => hp nm (by simp only [CV.has, Bool.or_eq_true]; exact .inl (hasL_mem (List.mem_of_getElem? hc0) hn))
    · rw [List.getElem?_map] at hi
      cases hc0 : caps[i]? with
      | none => simp [hc0] at hi
      | some c0 =>
        simp only [hc0, Option.map_some, Option.some.injEq] at hi
        subst hi
        exact ih4 i c0 u hc0 hu fun nm hn => hp nm (by simp only [CV.has, Bool.or_eq_true]; exact .inr (hasL_mem (List.mem_of_getElem? hc0) hn))
  | ifcA ty cs us h1 h3 ih =>
    simp only [CV.ren, renL_map]
    refine .ifcA ty _ us (by simpa using h1) (fun i c u hi hu => ?_)
    rw [List.getElem?_map] at hi
    cases hc0 : cs[i]? with
    | none => simp [hc0] at hi
    | some c0 =>
      simp only [hc0, Option.map_some, Option.some.injEq] at hi
      subst hi
      exact ih i c0 u hc0 hu fun nm hn => hp nm (by simp only [CV.has]; exact hasL_mem (List.mem_of_getElem? hc0) hn)
  | ifc ty c u h ih => exact .ifc ty _ u (ih fun nm hn => hp nm (by simp [CV.has, hasL, hn]))
  | dead x => exact .dead _

theorem AVR.unren {M M' : Mk} {ρ : Nat → Nat} {v : AV} {x : Value} (h : AVR M w (v.ren ρ) x) (ht : ∀ v y, TVR M.hw w v y → TVR M'.hw w v y) (hp : ∀ nm, v.has nm = true → M'.ph nm = M.ph (ρ nm)) : AVR M' w v x := by
  cases v with
  | v c => exact CVR.unren h c rfl ht hp
  | agg cs =>
    obtain ⟨us, rfl, h1⟩ := h
    rw [renL_map] at h1
    exact ⟨us, rfl, (All2.of_map h1).monoMem fun c hc b hb => CVR.unren hb c rfl ht fun nm hn => hp nm (hasL_mem hc hn)⟩

theorem AVR.ren {M M' : Mk} {ρ : Nat → Nat} {v : AV} {x : Value} (h : AVR M w v x) (ht : ∀ v y, TVR M.hw w v y → TVR M'.hw w v y) (hp : ∀ nm, v.has nm = true → M'.ph (ρ nm) = M.ph nm) : AVR M' w (v.ren ρ) x := by
  cases v with
  | v c => exact CVR.ren h ht hp
  | agg cs =>
    obtain ⟨us, rfl, h1⟩ := h
    refine ⟨us, rfl, ?_⟩
    rw [renL_map]
    exact All2.map_left (h1.monoMem fun c hc b hb => CVR.ren hb ht fun nm hn => hp nm (hasL_mem hc hn))

theorem RowsR.unren {M M' : Mk} {ρ : Nat → Nat} {S : Nat → Prop} {cs : Array Value} {o sz : Nat} {rows : List (List CV)} (h : RowsR M w S cs o sz (renRows ρ rows)) (ht : ∀ v y, TVR M.hw w v y → TVR M'.hw w v y) (hp : ∀ nm, hasRows nm rows = true → M'.ph nm = M.ph (ρ nm)) : RowsR M' w S cs o sz rows := by
  obtain ⟨g, h1, h2, h3⟩ := h
  refine ⟨g, h1, h2, fun i r j c hi hj => ?_⟩
  obtain ⟨x, q1, q2⟩ := h3 i (r.map (CV.ren ρ)) j (c.ren ρ) (by rw [renRows_map, List.getElem?_map, hi]; rfl) (by rw [List.getElem?_map, hj]; rfl)
  exact ⟨x, q1, CVR.unren q2 c rfl ht fun nm hn => hp nm (hasRows_mem (List.mem_of_getElem? hi) (List.mem_of_getElem? hj) hn)⟩

theorem RowsR.ren {M M' : Mk} {ρ : Nat → Nat} {S : Nat → Prop} {cs : Array Value} {o sz : Nat} {rows : List (List CV)} (h : RowsR M w S cs o sz rows) (ht : ∀ v y, TVR M.hw w v y → TVR M'.hw w v y) (hp : ∀ nm, hasRows nm rows = true → M'.ph (ρ nm) = M.ph nm) : RowsR M' w S cs o sz (renRows ρ rows) := by
  obtain ⟨g, h1, h2, h3⟩ := h
  refine ⟨g, h1, h2, fun i r j c hi hj => ?_⟩
  rw [renRows_map, List.getElem?_map] at hi
  cases hr : rows[i]? with
  | none => simp [hr] at hi
  | some r0 =>
    simp only [hr, Option.map_some, Option.some.injEq] at hi
    subst hi
    rw [List.getElem?_map] at hj
    cases hc0 : r0[j]? with
    | none => simp [hc0] at hj
    | some c0 =>
      simp only [hc0, Option.map_some, Option.some.injEq] at hj
      subst hj
      obtain ⟨x, q1, q2⟩ := h3 i r0 j c0 hr hc0
      exact ⟨x, q1, CVR.ren q2 ht fun nm hn => hp nm (hasRows_mem (List.mem_of_getElem? hr) (List.mem_of_getElem? hc0) hn)⟩

theorem renRows_len (ρ : Nat → Nat) (rows : List (List CV)) : (renRows ρ rows).length = rows.length := by rw [renRows_map]; simp
theorem renRows_rows {ρ : Nat → Nat} {rows : List (List CV)} {sz : Nat} : (∀ r ∈ renRows ρ rows, r.length = sz) ↔ ∀ r ∈ rows, r.length = sz := by
  rw [renRows_map]
  constructor
  · intro h r hr
    simpa using h _ (List.mem_map.2 ⟨r, hr, rfl⟩)
  · intro h r hr
    obtain ⟨r0, h9, rfl⟩ := List.mem_map.1 hr
    simpa using h r0 h9

theorem BlkR.unren {G G' : Gh} {ρ : Nat → Nat} {nm : Nat} {blk : Blk} (h : BlkR G w (ρ nm) (blk.ren ρ)) (hph : G'.ph nm = G.ph (ρ nm)) (hreg : ∀ k, G'.reg nm k ↔ G.reg (ρ nm) k) (ht : ∀ v y, TVR G.hw w v y → TVR G'.hw w v y) (hp : ∀ k, blk.has k = true → G'.ph k = G.ph (ρ k)) : BlkR G' w nm blk := by
  cases blk with
  | cells sz rows =>
    simp only [Blk.ren, BlkR, hph] at h ⊢
    split at h
    · rw [renRows_map] at h; simpa using h
    · rename_i p hp'
      obtain ⟨h1, h2, h3, h4, h5, cs, el, h6, h7, h8, h9⟩ := h
      rw [renRows_len] at h2 h8
      refine ⟨h1, h2, h3, renRows_rows.1 h4, (hreg _).2 h5, cs, el, h6, h7, h8, ?_⟩
      obtain ⟨g, q1, q2, q3⟩ := h9.unren ht hp
      exact ⟨g, fun i j k hk => ⟨(hreg _).2 (q1 i j k hk).1, (q1 i j k hk).2⟩, q2, q3⟩
  | map clock es =>
    obtain ⟨p, h1, h2, ents, h3, h4⟩ := h
    refine ⟨p, by rw [hph, h1], (hreg _).2 h2, ents, h3, (All2.of_map h4).monoMem fun e he m hm => ⟨AVR.unren hm.1 ht fun k hk => hp k (hasM_mem he (.inl hk)), AVR.unren hm.2.1 ht fun k hk => hp k (hasM_mem he (.inr hk)), hm.2.2⟩⟩
  | iter m since seen last =>
    obtain ⟨p, q, h1, h0, h2, h3, h4⟩ := h
    exact ⟨p, q, by rw [hph, h1], h0, (hreg _).2 h2, by rw [hp m (by simp [Blk.has]), h3], h4⟩

theorem BlkR.ren {G G' : Gh} {ρ : Nat → Nat} {nm : Nat} {blk : Blk} (h : BlkR G w nm blk) (hph : G'.ph (ρ nm) = G.ph nm) (hreg : ∀ k, G'.reg (ρ nm) k ↔ G.reg nm k) (ht : ∀ v y, TVR G.hw w v y → TVR G'.hw w v y) (hp : ∀ k, blk.has k = true → G'.ph (ρ k) = G.ph k) : BlkR G' w (ρ nm) (blk.ren ρ) := by
  cases blk with
  | cells sz rows =>
    simp only [Blk.ren, BlkR, hph] at h ⊢
    split at h
    · rw [renRows_map, h]; rfl
    · rename_i p hp'
      obtain ⟨h1, h2, h3, h4, h5, cs, el, h6, h7, h8, h9⟩ := h
      refine ⟨h1, by rw [renRows_len]; exact h2, h3, renRows_rows.2 h4, (hreg _).2 h5, cs, el, h6, h7, by rw [renRows_len]; exact h8, ?_⟩
      obtain ⟨g, q1, q2, q3⟩ := h9.ren ht hp
      exact ⟨g, fun i j k hk => ⟨(hreg _).2 (q1 i j k hk).1, (q1 i j k hk).2⟩, q2, q3⟩
  | map clock es =>
    obtain ⟨p, h1, h2, ents, h3, h4⟩ := h
    refine ⟨p, by rw [hph, h1], (hreg _).2 h2, ents, h3, All2.map_left (h4.monoMem fun e he m hm => ⟨AVR.ren hm.1 ht fun k hk => hp k (hasM_mem he (.inl hk)), AVR.ren hm.2.1 ht fun k hk => hp k (hasM_mem he (.inr hk)), hm.2.2⟩)⟩
  | iter m since seen last =>
    obtain ⟨p, q, h1, h0, h2, h3, h4⟩ := h
    exact ⟨p, q, by rw [hph, h1], h0, (hreg _).2 h2, by rw [hp m (by simp [Blk.has]), h3], h4⟩

section
variable {cx : Cx} {G : Gh} {st : St} {a : Act} {E : Env}

/-- The marks, those of the names' blocks at their whole size. -/
def fullHw (G : Gh) (w : World) : Nat → Nat := fun b => match w.heap[b]? with | some (.cells cs _ _) => max (G.hw b) cs.size | _ => G.hw b

theorem fullHw_le (G : Gh) (w : World) (b : Nat) : G.hw b ≤ fullHw G w b := by
  unfold fullHw
  split
  · exact Nat.le_max_left _ _
  · exact Nat.le_refl _

theorem fullHw_new (G : Gh) (w : World) {b : Nat} (hb : w.heap.size ≤ b) (h : G.hw b = 0) : fullHw G w b = 0 := by
  unfold fullHw
  rw [Array.getElem?_eq_none hb]
  exact h

theorem viewCL_ok (hR : R cx G st a w) {hw' : Nat → Nat} (hle : ∀ b, G.hw b ≤ hw' b) : ∀ (cs : List CV) (us : List Value) (ts : List TV), (∀ c ∈ cs, ∀ nm blk k ks el, st.heap nm = some blk → (∃ lo len, c = .mr nm lo len) → G.reg nm k → w.heap[k]? = some (.cells ks el (0, 0)) → ks.size ≤ hw' k) → All2 (CVR G.toMk w Emp) cs us → viewCL st.heap cs = some ts → All2 (TVR hw' w) ts us
  | [], [], ts, _, _, h => by simp only [viewCL, Option.some.injEq] at h; subst h; trivial
  | c :: cs, u :: us, ts, hf, hv, h => by
    simp only [viewCL] at h
    split at h
    · rename_i v vs h1 h2
      obtain rfl := Option.some.inj h
      exact ⟨viewC_ok hR hv.1 hle (hf c (by simp)) h1, viewCL_ok hR hle cs us vs (fun c hc => hf c (by simp [hc])) hv.2 h2⟩
    · cases h
  | [], _ :: _, _, _, h, _ => h.elim
  | _ :: _, [], _, _, h, _ => h.elim

theorem argOf_ok (hR : R cx G st a w) {hw' : Nat → Nat} (hle : ∀ b, G.hw b ≤ hw' b) {sv : SV} {x : Value} (hq : SVR G.toMk w sv x) (hf : isMr sv = true → ∀ nm blk k cs el, st.heap nm = some blk → G.reg nm k → w.heap[k]? = some (.cells cs el (0, 0)) → cs.size ≤ hw' k) {v : AV} (h : argOf st.heap sv = some v) (M : Mk) (hM : M.hw = hw') : AVR M w v x := by
  subst hM
  cases sv with
  | c c =>
    simp only [argOf] at h
    split at h
    · rename_i t ht
      obtain rfl := Option.some.inj h
      exact .t (viewC_ok hR hq hle (fun nm blk k cs el h1 h2 h3 h4 => hf (by obtain ⟨lo, len, rfl⟩ := h2; rfl) nm blk k cs el h1 h3 h4) ht)
    · cases h
  | agg cs =>
    simp only [argOf] at h
    split at h
    · rename_i ts hts
      obtain rfl := Option.some.inj h
      obtain ⟨us, rfl, hv⟩ := hq
      have := viewCL_ok hR hle cs us ts (fun c hc nm blk k ks el h1 h2 h3 h4 => hf (by
        obtain ⟨lo, len, rfl⟩ := h2
        simp only [isMr, List.any_eq_true]
        exact ⟨_, hc, rfl⟩) nm blk k ks el h1 h3 h4) hv hts
      exact ⟨us, rfl, All2.map_left (this.mono fun _ _ h => .t h)⟩
    · cases h
  | _ => simp [argOf] at h

theorem argsOf_ok (hR : R cx G st a w) {hw' : Nat → Nat} (hle : ∀ b, G.hw b ≤ hw' b) (M : Mk) (hM : M.hw = hw') : ∀ (xs : List Operand) (ts : List TypeId) (vs : List AV), (anyMr T st xs ts = true → ∀ nm blk k cs el, st.heap nm = some blk → G.reg nm k → w.heap[k]? = some (.cells cs el (0, 0)) → cs.size ≤ hw' k) → argsOf T st xs ts = some vs → All2 (AVR M w) vs (xs.map a.eval)
  | [], ts, vs, _, h => by simp only [argsOf, Option.some.injEq] at h; subst h; trivial
  | x :: xs, t :: ts, vs, hf, h => by
    simp only [argsOf] at h
    split at h
    · rename_i v us hv hus
      obtain rfl := Option.some.inj h
      refine ⟨argOf_ok hR hle (rd_q (T := T) hR t x) (fun hm => hf (by simp [anyMr, hm])) hv M hM, argsOf_ok hR hle M hM xs ts us (fun hm => hf (by simp [anyMr, hm])) hus⟩
    · cases h
  | _ :: _, [], vs, _, h => by simp [argsOf] at h

/-- What a call enters. -/
def calleeOf (T : TypeId → Option TI) (st : St) : Callee → Option (FuncId × List CV × List CV)
  | .value x => match rd T st 0 x with
    | .c (.t (.fn f)) => some (f, [], [])
    | .c (.fnc f first caps) => some (f, first, caps)
    | _ => none
  | .invoke x m => match rd T st 0 x with
    | .c (.ifc ty false [c]) => match T ty with
      | some ti => match ti.meth.find? (fun p => p.1 == m) with
        | some p => some (p.2, [c], [])
        | none => none
      | none => none
    | _ => none
  | _ => none

theorem enter_ok (hT : TOk P T) (hR : R cx G st a w) {o : Oper} {cal : Callee} {args : Array Operand} {types : Array TypeId} (ho : o.op = .call { callee := cal, args, argTypes := types }) {f : FuncId} {first caps : List CV} (hc : calleeOf T st cal = some (f, first, caps)) (hent : Entered P f) :
    ∃ us vs : List Value, All2 (CVR G.toMk w Emp) first us ∧ All2 (CVR G.toMk w Emp) caps vs ∧ (execOp a.eval o).run P w = .ok (.enter f (us ++ args.toList.map a.eval ++ vs).toArray) w := by
  have hA : Array.map a.eval args = (args.toList.map a.eval).toArray := by apply Array.ext'; simp
  cases cal with
  | value x =>
    have hq := rd_q (T := T) hR 0 x
    simp only [calleeOf] at hc
    split at hc
    · rename_i f' hs
      simp only [Option.some.injEq, Prod.mk.injEq] at hc
      obtain ⟨rfl, rfl, rfl⟩ := hc
      rw [hs] at hq
      have hx := cv_fn hq
      refine ⟨[], [], trivial, trivial, ?_⟩
      simp only [execOp, ho, resolve, hA, hx, Deferred.ofValue, Sem.run_bind, Sem.run_pure, Result.andThen_ok, invoke]
      rw [show (#[] ++ (args.toList.map a.eval).toArray ++ #[] : Array Value) = ([] ++ args.toList.map a.eval ++ []).toArray from by apply Array.ext'; simp]
      exact hent _ _
    · rename_i f' fi ca hs
      simp only [Option.some.injEq, Prod.mk.injEq] at hc
      obtain ⟨rfl, rfl, rfl⟩ := hc
      rw [hs] at hq
      have hq2 : CVR G.toMk w Emp (.fnc f' fi ca) (a.eval x) := hq
      generalize hX : a.eval x = X at hq2
      cases hq2 with
      | fnc _ _ _ us vs h1 h2 h3 h4 =>
        refine ⟨us, vs, All2.of_get h1 h3, All2.of_get h2 h4, ?_⟩
        simp only [execOp, ho, resolve, hA, hX, Deferred.ofValue, Sem.run_bind, Sem.run_pure, Result.andThen_ok, invoke]
        rw [show (us.toArray ++ (args.toList.map a.eval).toArray ++ vs.toArray : Array Value) = (us ++ args.toList.map a.eval ++ vs).toArray from by apply Array.ext'; simp]
        exact hent _ _
    · cases hc
  | invoke x m =>
    have hq := rd_q (T := T) hR 0 x
    simp only [calleeOf] at hc
    split at hc
    · rename_i ty c hs
      split at hc
      · rename_i ti ht
        split at hc
        · rename_i p hp
          simp only [Option.some.injEq, Prod.mk.injEq] at hc
          obtain ⟨rfl, rfl, rfl⟩ := hc
          rw [hs] at hq
          have hq2 : CVR G.toMk w Emp (.ifc ty false [c]) (a.eval x) := hq
          generalize hX : a.eval x = X at hq2
          cases hq2 with
          | ifc _ _ u h =>
            refine ⟨[u], [], ⟨h, trivial⟩, trivial, ?_⟩
            have hm := (hT _ _ ht).meth p (List.mem_of_find?_eq_some hp)
            have hn : p.1 = m := by simpa using List.find?_some hp
            rw [hn] at hm
            have he := hent ((#[u] ++ (args.toList.map a.eval).toArray)) w
            have hx : (#[Value.iface ty u] ++ (args.toList.map a.eval).toArray).extract 1 (#[Value.iface ty u] ++ (args.toList.map a.eval).toArray).size = (args.toList.map a.eval).toArray := by apply Array.ext'; simp; exact List.take_of_length_le (by simp)
            have h0 : (#[Value.iface ty u] ++ (args.toList.map a.eval).toArray)[0]? = some (.iface ty u) := by simp
            simp only [execOp, ho, resolve, hA, hX, Sem.run_bind, Sem.run_pure, Result.andThen_ok, invoke, callMethod, run_program]
            rw [h0]
            simp only [Sem.run_bind, run_program, Result.andThen_ok]
            rw [hm]
            simp only [Result.andThen_ok, hx]
            rw [show ([u] ++ args.toList.map a.eval ++ [] : List Value).toArray = #[u] ++ (args.toList.map a.eval).toArray from by apply Array.ext'; simp]
            exact he
        · cases hc
      · cases hc
    · cases hc
  | builtin b => simp [calleeOf] at hc

/-- A call that gets no name and gives none. -/
def callE (E : Env) (T : TypeId → Option TI) (cal : Callee) (args : List Operand) (types : List TypeId) (R : SV → Prop) (st : St) : Prop :=
  match calleeOf T st cal, argsOf T st args types with
  | some (f, first, caps), some vs => match viewCL st.heap first, viewCL st.heap caps with
    | some us, some ws => ∃ res, E f (us.map (fun t => .v (.t t)) ++ vs ++ ws.map (fun t => .v (.t t))) [] res [] ∧ (∀ nm, hasA nm res = false) ∧ ((anyMr T st args types || first.any CV.isMr || caps.any CV.isMr) = true → res.all AV.flat = true) ∧ R (resSV res)
    | _, _ => False
  | _, _ => False

theorem avr_of_trees {M : Mk} : ∀ {ts : List TV} {us : List Value}, All2 (TVR M.hw w) ts us → All2 (AVR M w) (ts.map fun t => AV.v (.t t)) us
  | [], [], _ => trivial
  | _ :: _, _ :: _, h => ⟨.t h.1, avr_of_trees h.2⟩
  | [], _ :: _, h => h.elim
  | _ :: _, [], h => h.elim

theorem hasA_false {nm : Nat} : ∀ {l : List AV}, hasA nm l = false → ∀ r ∈ l, r.has nm = false
  | x :: l, h, r, hr => by
    simp only [hasA, Bool.or_eq_false_iff] at h
    rcases List.mem_cons.1 hr with rfl | hr
    · exact h.1
    · exact hasA_false h.2 r hr

theorem names_nil {G : Gh} : Names G w [] := ⟨fun _ _ h => (by cases h), fun _ _ _ h => (by cases h), fun _ _ _ _ _ h => (by cases h)⟩

theorem mine_nil {G : Gh} {k : Nat} : ¬ mineOf G [] k := fun ⟨_, _, h, _⟩ => by cases h

theorem call_ok (hE : EnvOk P E) (hT : TOk P T) (hR : R cx G st a w) {o : Oper} {cal : Callee} {args : Array Operand} {types : Array TypeId} (ho : o.op = .call { callee := cal, args, argTypes := types }) {K : St → Prop} {X : Exit → Act → World → Prop}
    (h : callE E T cal args.toList types.toList (fun sv => putK cx.n o.dst sv K st) st) : o.wp P a w (Post cx K) X := by
  unfold callE at h
  split at h
  · rename_i f first caps vs hcal hvs
    split at h
    · rename_i us ws hus hws
      obtain ⟨res, hres, hno, hflat, hK⟩ := h
      obtain ⟨hent, hspec⟩ := hE f _ _ _ _ hres
      obtain ⟨uvals, wvals, hu, hw, hrun⟩ := enter_ok (T := T) hT hR ho hcal hent
      unfold Oper.wp
      rw [hrun, Oper.upon_enter]
      have hargs : ∀ (hw' : Nat → Nat), (∀ b, G.hw b ≤ hw' b) → ((anyMr T st args.toList types.toList || first.any CV.isMr || caps.any CV.isMr) = true → ∀ nm blk k cs el, st.heap nm = some blk → G.reg nm k → w.heap[k]? = some (.cells cs el (0, 0)) → cs.size ≤ hw' k) →
          All2 (AVR { G.toMk with hw := hw' } w) (us.map (fun t => .v (.t t)) ++ vs ++ ws.map (fun t => .v (.t t))) (uvals ++ args.toList.map a.eval ++ wvals) := by
        intro hw' hle hf
        have hmem : ∀ (l : List CV), l.any CV.isMr = true → ((anyMr T st args.toList types.toList || first.any CV.isMr || caps.any CV.isMr) = true) ∨ True := fun _ _ => .inr trivial
        refine All2.append (All2.append (avr_of_trees (M := { G.toMk with hw := hw' }) (viewCL_ok hR hle first uvals us (fun c hc nm blk k ks el h1 h2 h3 h4 => hf ?_ nm blk k ks el h1 h3 h4) hu hus)) (argsOf_ok (T := T) hR hle _ rfl _ _ _ (fun hm => hf (by simp [hm])) hvs)) (avr_of_trees (M := { G.toMk with hw := hw' }) (viewCL_ok hR hle caps wvals ws (fun c hc nm blk k ks el h1 h2 h3 h4 => hf ?_ nm blk k ks el h1 h3 h4) hw hws))
        · obtain ⟨lo, len, rfl⟩ := h2
          have : first.any CV.isMr = true := List.any_eq_true.2 ⟨_, hc, rfl⟩
          simp [this]
        · obtain ⟨lo, len, rfl⟩ := h2
          have : caps.any CV.isMr = true := List.any_eq_true.2 ⟨_, hc, rfl⟩
          simp [this]
      by_cases hmr : (anyMr T st args.toList types.toList || first.any CV.isMr || caps.any CV.isMr) = true
      · have hfl := hflat hmr
        have h1 := hargs (fullHw G w) (fullHw_le G w) (fun _ nm blk k cs el _ _ hh => by unfold fullHw; rw [hh]; exact Nat.le_max_right _ _)
        have hc := hspec w { G with hw := fullHw G w } _ h1 names_nil (fun b hb => fullHw_new G w hb (hR.hwNew b hb))
        refine hc.mono fun e w' ⟨v, G', he, hr, _, _, _, hkept, _, hnew⟩ => ?_
        subst he
        show Post cx K (a.put o.dst v) w'
        have hk0 : Kept Emp w w' := hkept.wide fun k hk => mine_nil hk
        have hR2 := hR.grow G.hw hk0 (fun _ _ => rfl) (fun b hb => hR.hwNew b (Nat.le_trans hkept.size hb))
        refine putK_ok hR2 (resSV_q ?_) hK
        exact hr.mono fun r hrm x hx => AVR.flat (List.all_eq_true.1 hfl r hrm) hx
      · have h1 := hargs G.hw (fun _ => Nat.le_refl _) (fun h => absurd h hmr)
        have hc := hspec w G _ h1 names_nil hR.hwNew
        refine hc.mono fun e w' ⟨v, G', he, hr, _, _, _, hkept, hold, hnew⟩ => ?_
        subst he
        show Post cx K (a.put o.dst v) w'
        have hk0 : Kept Emp w w' := hkept.wide fun k hk => mine_nil hk
        have hR2 := hR.grow G'.hw hk0 (fun b hb => hold b hb mine_nil) hnew
        refine putK_ok hR2 (resSV_q ?_) hK
        refine ResR.mono (M := G'.toMk) (fun r hrm x hx => AVR.move hx (fun _ _ h => h) fun nm hn => ?_) hr
        rw [hasA_false (hno nm) r hrm] at hn
        cases hn
    · exact h.elim
  · exact h.elim
end
end Go.Proofs.Ytgmjgognpabmdaa.Fx
