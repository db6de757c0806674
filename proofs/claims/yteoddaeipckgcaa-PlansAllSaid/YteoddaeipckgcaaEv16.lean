import Derived.Test.YteoddaeipckgcaaEv15
namespace Go.Proofs.Yteoddaeipckgcaa.Ev
open Go Go.RowKit
set_option linter.unusedSimpArgs false
set_option linter.unusedVariables false
variable {P : Program} {T : TypeId → Option TI}

def initSt (args : List AV) : St := { slots := fun t => match args[t]? with | some v => v.sv | none => .undef, heap := fun _ => none }

def resOne (T : TypeId → Option TI) (st : St) : ResultVar → Option AV
  | .tmp t => argOf st.heap (st.slots t).drop
  | .cell t ty => match T ty, st.slots t with
    | some ti, .mp nm i o => match st.heap nm with
      | some blk => match blk.rows[i]? with
        | some row => if ti.k.isAgg then (if o + ti.size ≤ row.length then some (.agg (((row.drop o).take ti.size).map CV.tv)) else none) else match row[o]? with
          | some c => some (.v c.tv)
          | none => none
        | none => none
      | none => none
    | _, _ => none

def resOf (T : TypeId → Option TI) (st : St) : List ResultVar → Option (List AV)
  | [] => some []
  | r :: rs => match resOne T st r, resOf T st rs with
    | some v, some vs => some (v :: vs)
    | _, _ => none

/-- What is asked at a function's end. -/
def KRes (T : TypeId → Option TI) (rs : List ResultVar) (res : List AV) : Exit → St → Prop
  | .normal, st => resOf T st rs = some res
  | .ret, st => resOf T st rs = some res
  | _, _ => False

section
variable {n : Nat} {w0 : World} {hw0 : Nat → Nat} {G : Gh} {st : St} {a : Act} {w : World} {E : Env}

def resRun (tmps : Array Value) : ResultVar → Sem Value
  | .tmp t => pure (tmps.getD t undef)
  | .cell a t => do loadVar t (← asAddr (tmps.getD a undef))

theorem resOne_ok (hT : TOk P T) (hR : R n w0 hw0 G st a w) {hw' : Nat → Nat} (hle : ∀ b, G.hw b ≤ hw' b) (hfull : ∀ nm blk cs el, st.heap nm = some blk → w.heap[(G.ph nm).1]? = some (Obj.cells cs el (0, 0)) → cs.size ≤ hw' (G.ph nm).1)
    {r : ResultVar} {v : AV} (h : resOne T st r = some v) : ∃ x, (resRun a.tmps r).run P w = .ok x w ∧ AVR hw' w v x := by
  cases r with
  | tmp t =>
    simp only [resOne] at h
    exact ⟨_, rfl, (argOf_any hR hle hfull (drop_q (hR.slots t)) h).1⟩
  | cell t ty =>
    simp only [resOne] at h
    split at h
    · rename_i ti nm i o ht hs
      have hq := hR.slots t
      rw [hs] at hq
      split at h
      · rename_i blk hb
        have hxe := hq blk hb
        split at h
        · rename_i row hrow
          have hcell := blk_cell hR hb hrow o
          have hcell' : ∀ j v, ((row.drop o).map CV.tv)[j]? = some v → ∃ u, w.cell? ⟨(G.ph nm).1, (G.ph nm).2 + (i * blk.sz + o) + j, none⟩ = some u ∧ TVR hw' w v u := by
            intro j v hv
            rw [List.getElem?_map] at hv
            cases hj : (row.drop o)[j]? with
            | none => simp [hj] at hv
            | some c =>
              simp only [hj, Option.map_some, Option.some.injEq] at hv
              subst hv
              obtain ⟨u, h1, h2⟩ := hcell j c hj
              exact ⟨u, h1, h2.tree.mono hle fun _ _ _ _ h => h⟩
          obtain ⟨l1, l2⟩ := load_ok hT ht hcell'
          split at h
          · rename_i ha
            split at h
            · rename_i hsz
              obtain rfl := Option.some.inj h
              obtain ⟨us, hl, hr⟩ := l1 ha (by simp; omega)
              refine ⟨_, by simp only [resRun, hxe, asAddr, Sem.run_bind, Sem.run_pure, Result.andThen_ok]; exact hl, us, rfl, ?_⟩
              rw [← List.map_take] at hr
              exact hr
            · cases h
          · rename_i ha
            split at h
            · rename_i c hcv
              obtain rfl := Option.some.inj h
              obtain ⟨u, hl, hr⟩ := l2 (by simpa using ha) c.tv (by simp [hcv])
              exact ⟨u, by simp only [resRun, hxe, asAddr, Sem.run_bind, Sem.run_pure, Result.andThen_ok]; exact hl, hr⟩
            · cases h
        · cases h
      · cases h
    · cases h

theorem resOf_ok (hT : TOk P T) (hR : R n w0 hw0 G st a w) {hw' : Nat → Nat} (hle : ∀ b, G.hw b ≤ hw' b) (hfull : ∀ nm blk cs el, st.heap nm = some blk → w.heap[(G.ph nm).1]? = some (Obj.cells cs el (0, 0)) → cs.size ≤ hw' (G.ph nm).1) :
    ∀ (rs : List ResultVar) (vs : List AV), resOf T st rs = some vs → ∃ xs : List Value, (rs.mapM (resRun a.tmps)).run P w = .ok xs w ∧ All2 (AVR hw' w) vs xs
  | [], vs, h => by simp only [resOf, Option.some.injEq] at h; subst h; exact ⟨[], by simp, trivial⟩
  | r :: rs, vs, h => by
    simp only [resOf] at h
    split at h
    · rename_i v us hv hus
      obtain rfl := Option.some.inj h
      obtain ⟨x, h1, h2⟩ := resOne_ok hT hR hle hfull hv
      obtain ⟨xs, h3, h4⟩ := resOf_ok hT hR hle hfull rs us hus
      exact ⟨x :: xs, by simp [List.mapM_cons, h1, h3], h2, h4⟩
    · cases h

theorem results_run {fn : Func} {tmps : Array Value} {xs : List Value} (h : (fn.results.toList.mapM (resRun tmps)).run P w = .ok xs w) : (results fn tmps).run P w = .ok (if h : xs.toArray.size = 1 then xs.toArray[0] else .tuple xs.toArray) w := by
  have he : (fn.results.mapM fun (x : ResultVar) => (match x with
    | .tmp t => (pure (tmps.getD t undef) : Sem Value)
    | .cell a t => do loadVar t (← asAddr (tmps.getD a undef)))) = List.toArray <$> fn.results.toList.mapM (resRun tmps) := by
    rw [Array.mapM_eq_mapM_toList]
    rfl
  show Sem.run P (do let vs ← (fn.results.mapM fun (x : ResultVar) => (match x with
    | .tmp t => (pure (tmps.getD t undef) : Sem Value)
    | .cell a t => do loadVar t (← asAddr (tmps.getD a undef)))); pure (if h : vs.size = 1 then vs[0] else .tuple vs)) w = _
  rw [he]
  simp [h]

/-- A FUNCTION'S CONTRACT, by its text's walk. -/
theorem spec_of {f : FuncId} {fn : Func} {c : Code} (hf : P.funcs[f]? = some fn) (hb : fn.body = some c) (hm : P.follows .mixedOrders = true) (hT : TOk P T) (hE : EnvOk P E) {h : Hint} (hn : h.n = fn.ntmps) {args res : List AV} (hargs : args.length ≤ fn.ntmps)
    (hw : wpCode E T h c (KRes T fn.results.toList res) (initSt args)) : Spec P f args res := by
  intro w hw0 vals hv hz
  have hlen := hv.length
  refine calls_of_wp hf hb ?_
  have hR : R h.n w hw0 { hw := hw0, ph := fun _ => (0, 0), own := fun _ => none } (initSt args) { tmps := vals.toArray ++ Array.replicate (fn.ntmps - vals.toArray.size) undef, defers := [] } w := by
    refine { below := Below.refl _ _, hwOld := fun _ _ => rfl, hwNew := hz, tmps := ?_, defers := rfl, slots := ?_, heap := (fun _ _ h => by cases h), inj := (fun _ _ _ _ h => by cases h) }
    · simp; omega
    · intro t
      simp only [initSt]
      cases ha : args[t]? with
      | none => trivial
      | some v =>
        obtain ⟨x, h1, h2⟩ := hv.get t v ha
        have hx : (vals.toArray ++ Array.replicate (fn.ntmps - vals.toArray.size) undef).getD t undef = x := by
          rw [Array.getD_eq_getD_getElem?, Array.getElem?_append_left (by have := (List.getElem?_eq_some_iff.1 h1).1; simpa using this)]
          simp [h1]
        rw [hx]
        exact AV.sv_q h2 t
  refine wpCode_ok hm hE hT c (fun e a' w' G st hR' hq => ?_) hR hw
  have key : resOf T st fn.results.toList = some res → ∃ v, (results fn a'.tmps).run P w' = .ok v w' ∧ ∃ v' hw', Ending.returned v = .returned v' ∧ ResR hw' w' v' res ∧ (∀ b, b < w.heap.size → hw' b = hw0 b) ∧ (∀ b, w'.heap.size ≤ b → hw' b = 0) ∧ Below w.heap.size w w' := by
    intro hres
    obtain ⟨xs, h1, h2⟩ := resOf_ok (hw' := fun b => if b < w.heap.size then G.hw b else fullHw G w' b) hT hR' (fun b => by
      show G.hw b ≤ if b < w.heap.size then G.hw b else fullHw G w' b
      split
      · exact Nat.le_refl _
      · exact fullHw_le _ _ _) (fun nm blk cs el hb' hh => by
      obtain ⟨_, _, _, _, hbase, _⟩ := hR'.heap nm blk hb'
      show _ ≤ if _ then _ else _
      rw [if_neg (by omega)]
      unfold fullHw
      rw [hh]
      exact Nat.le_max_right _ _) _ _ hres
    refine ⟨_, results_run h1, _, (fun b => if b < w.heap.size then G.hw b else fullHw G w' b), rfl, ?_, fun b hb' => ?_, fun b hb' => ?_, hR'.below⟩
    · have hl := h2.length
      match res, xs, h2 with
      | [], [], h2 => exact ⟨[], rfl, trivial⟩
      | [r], [x], h2 => exact h2.1
      | r :: s :: t, x :: y :: z, h2 => exact ⟨x :: y :: z, by simp, h2⟩
      | [], _ :: _, h2 => exact h2.elim
      | _ :: _, [], h2 => exact h2.elim
      | [r], x :: y :: z, h2 => exact h2.2.elim
      | r :: s :: t, [x], h2 => exact h2.2.elim
    · simp only
      rw [if_pos hb']
      exact hR'.hwOld b hb'
    · simp only
      rw [if_neg (by have := hR'.below.size; omega)]
      unfold fullHw
      rw [Array.getElem?_eq_none hb']
      exact hR'.hwNew b hb'
  cases e with
  | normal => exact ⟨hR'.defers, key hq⟩
  | ret => exact ⟨hR'.defers, key hq⟩
  | _ => exact hq.elim
end
end Go.Proofs.Yteoddaeipckgcaa.Ev
