/- The evaluator's second make: a function's end, and a call with names. -/
import Derived.Test.YtgmjgognpabmdaaFx9
namespace Go.Proofs.Ytgmjgognpabmdaa.Fx
open Go Go.RowKit
set_option linter.unusedSimpArgs false
set_option linter.unusedVariables false
variable {P : Program} {T : TypeId → Option TI} {w w' : World}

def initSt (args : List AV) (h : List (Nat × Blk)) : St := { slots := fun t => match args[t]? with | some v => v.sv | none => .undef, heap := hGet h }

/-- A result: what leads to a name that is told stays; else a tree. -/
def resC (heap : Nat → Option Blk) (keep : List Nat) : CV → Option CV
  | .t v => some (.t v)
  | .own sz rows => match viewRows rows with
    | some r => some (.t (.sl sz r))
    | none => none
  | .mr nm lo len => if nm ∈ keep then some (.mr nm lo len) else match viewC heap (.mr nm lo len) with
    | some v => some (.t v)
    | none => none
  | .mp nm i o => some (.mp nm i o)
  | .mm nm => some (.mm nm)
  | .fnc f a b => some (.fnc f a b)
  | .ifc ty g cs => some (.ifc ty g cs)
  | .dead => none
def resCL (heap : Nat → Option Blk) (keep : List Nat) : List CV → Option (List CV)
  | [] => some []
  | c :: r => match resC heap keep c, resCL heap keep r with
    | some v, some vs => some (v :: vs)
    | _, _ => none

def resOne (T : TypeId → Option TI) (keep : List Nat) (st : St) : ResultVar → Option AV
  | .tmp t => match st.slots t with
    | .c c => match resC st.heap keep c with
      | some v => some (.v v)
      | none => none
    | .agg cs => match resCL st.heap keep cs with
      | some vs => some (.agg vs)
      | none => none
    | _ => none
  | .cell t ty => match T ty, st.slots t with
    | some ti, .c (.mp nm i o) => if nm ∈ keep then none else match st.heap nm with
      | some (.cells _ rows) => match rows[i]? with
        | some row => if ti.k.isAgg then (if o + ti.size ≤ row.length then (match resCL st.heap keep ((row.drop o).take ti.size) with
            | some vs => some (.agg vs)
            | none => none) else none) else match row[o]? with
          | some c => match resC st.heap keep c with
            | some v => some (.v v)
            | none => none
          | none => none
        | none => none
      | _ => none
    | _, _ => none

def resOf (T : TypeId → Option TI) (keep : List Nat) (st : St) : List ResultVar → Option (List AV)
  | [] => some []
  | r :: rs => match resOne T keep st r, resOf T keep st rs with
    | some v, some vs => some (v :: vs)
    | _, _ => none

def hAll (st : St) : List (Nat × Blk) → Prop
  | [] => True
  | p :: r => st.heap p.1 = some p.2 ∧ hAll st r

/-- What is asked at a function's end. -/
def KRes (T : TypeId → Option TI) (rs : List ResultVar) (res : List AV) (h' : List (Nat × Blk)) : Exit → St → Prop
  | .normal, st => resOf T (h'.map (·.1)) st rs = some res ∧ hAll st h'
  | .ret, st => resOf T (h'.map (·.1)) st rs = some res ∧ hAll st h'
  | _, _ => False

theorem hGet_mem : ∀ {h : List (Nat × Blk)} {k : Nat} {b : Blk}, hGet h k = some b → (k, b) ∈ h
  | (k0, v) :: r, k, b, h => by
    simp only [hGet] at h
    split at h
    · rename_i e; subst e; obtain rfl := Option.some.inj h; simp
    · exact List.mem_cons_of_mem _ (hGet_mem h)
theorem hGet_key {h : List (Nat × Blk)} {k : Nat} {b : Blk} (hg : hGet h k = some b) : k ∈ h.map (·.1) := List.mem_map.2 ⟨_, hGet_mem hg, rfl⟩
theorem hGet_of_key : ∀ {h : List (Nat × Blk)} {k : Nat}, k ∈ h.map (·.1) → ∃ b, hGet h k = some b
  | (k0, v) :: r, k, hk => by
    simp only [hGet]
    split
    · exact ⟨v, rfl⟩
    · rename_i hne
      simp only [List.map_cons, List.mem_cons] at hk
      rcases hk with rfl | hk
      · exact absurd rfl hne
      · exact hGet_of_key hk
theorem hAll_mem {st : St} : ∀ {h : List (Nat × Blk)}, hAll st h → ∀ {k : Nat} {b : Blk}, (k, b) ∈ h → st.heap k = some b
  | _ :: _, h, k, b, hm => by
    rcases List.mem_cons.1 hm with rfl | hm
    · exact h.1
    · exact hAll_mem h.2 hm

section
variable {cx : Cx} {G : Gh} {st : St} {a : Act} {E : Env}

def resRun (tmps : Array Value) : ResultVar → Sem Value
  | .tmp t => pure (tmps.getD t undef)
  | .cell a t => do loadVar t (← asAddr (tmps.getD a undef))

/-- A result's cell. -/
theorem resC_ok (hR : R cx G st a w) {keep : List Nat} {M : Mk} (hph : M.ph = G.ph) (hle : ∀ b, G.hw b ≤ M.hw b) (hfull : ∀ nm blk k cs el, st.heap nm = some blk → nm ∉ keep → G.reg nm k → w.heap[k]? = some (.cells cs el (0, 0)) → cs.size ≤ M.hw k)
    {S : Nat → Prop} (hS : ∀ k cs el, S k → w.heap[k]? = some (.cells cs el (0, 0)) → cs.size ≤ M.hw k) {c v : CV} {x : Value} (h : CVR G.toMk w S c x) (hv : resC st.heap keep c = some v) : CVR M w Emp v x := by
  have hmv : ∀ {c : CV}, c.plain = true → CVR G.toMk w S c x → CVR M w Emp c x := fun hp h => CVR.move (h.plain hp).1 (fun v y h => h.mono hle fun _ _ _ _ h => h) (fun _ h => h.elim) (fun _ _ => by rw [hph])
  cases c with
  | t t => simp only [resC, Option.some.injEq] at hv; subst hv; exact hmv rfl h
  | own sz rows =>
    simp only [resC] at hv
    split at hv
    · rename_i r hr
      obtain rfl := Option.some.inj hv
      exact .t (h.view hle hS (by simp only [CV.view, hr]))
    · cases hv
  | mr nm lo len =>
    simp only [resC] at hv
    split at hv
    · obtain rfl := Option.some.inj hv; exact hmv rfl h
    · rename_i hk
      split at hv
      · rename_i t ht
        obtain rfl := Option.some.inj hv
        exact .t (viewC_ok hR (h.plain rfl).1 hle (fun nm' blk k cs el h1 h2 h3 h4 => hfull nm' blk k cs el h1 (by obtain ⟨_, _, h2⟩ := h2; injection h2 with h2; rw [← h2]; exact hk) h3 h4) ht)
      · cases hv
  | mp nm i o => simp only [resC, Option.some.injEq] at hv; subst hv; exact hmv rfl h
  | mm nm => simp only [resC, Option.some.injEq] at hv; subst hv; exact hmv rfl h
  | fnc f p q => simp only [resC, Option.some.injEq] at hv; subst hv; exact hmv rfl h
  | ifc ty g cs => simp only [resC, Option.some.injEq] at hv; subst hv; exact hmv rfl h
  | dead => simp [resC] at hv

theorem resCL_ok (hR : R cx G st a w) {keep : List Nat} {M : Mk} (hph : M.ph = G.ph) (hle : ∀ b, G.hw b ≤ M.hw b) (hfull : ∀ nm blk k cs el, st.heap nm = some blk → nm ∉ keep → G.reg nm k → w.heap[k]? = some (.cells cs el (0, 0)) → cs.size ≤ M.hw k)
    {Q : CV → Value → Prop} (hQ : ∀ c x, Q c x → ∃ S : Nat → Prop, (∀ k cs el, S k → w.heap[k]? = some (.cells cs el (0, 0)) → cs.size ≤ M.hw k) ∧ CVR G.toMk w S c x) : ∀ (cs : List CV) (us : List Value) (vs : List CV), All2 Q cs us → resCL st.heap keep cs = some vs → All2 (CVR M w Emp) vs us
  | [], [], vs, _, h => by simp only [resCL, Option.some.injEq] at h; subst h; trivial
  | c :: cs, u :: us, vs, hv, h => by
    simp only [resCL] at h
    split at h
    · rename_i v vs' h1 h2
      obtain rfl := Option.some.inj h
      obtain ⟨S, h3, h4⟩ := hQ c u hv.1
      exact ⟨resC_ok hR hph hle hfull h3 h4 h1, resCL_ok hR hph hle hfull hQ cs us vs' hv.2 h2⟩
    · cases h
  | [], _ :: _, _, h, _ => h.elim
  | _ :: _, [], _, h, _ => h.elim

theorem resOne_ok (hT : TOk P T) (hR : R cx G st a w) {keep : List Nat} {M : Mk} (hph : M.ph = G.ph) (hle : ∀ b, G.hw b ≤ M.hw b) (hfull : ∀ nm blk k cs el, st.heap nm = some blk → nm ∉ keep → G.reg nm k → w.heap[k]? = some (.cells cs el (0, 0)) → cs.size ≤ M.hw k)
    {r : ResultVar} {v : AV} (h : resOne T keep st r = some v) : ∃ x, (resRun a.tmps r).run P w = .ok x w ∧ AVR M w v x := by
  cases r with
  | tmp t =>
    simp only [resOne] at h
    have hq := hR.slots t
    refine ⟨_, rfl, ?_⟩
    split at h
    · rename_i c hs
      rw [hs] at hq
      split at h
      · rename_i v' hv
        obtain rfl := Option.some.inj h
        exact resC_ok hR hph hle hfull (fun _ _ _ h => h.elim) hq hv
      · cases h
    · rename_i cs hs
      rw [hs] at hq
      split at h
      · rename_i vs hv
        obtain rfl := Option.some.inj h
        obtain ⟨us, hu, hv2⟩ := hq
        rw [hu]
        exact ⟨us, rfl, resCL_ok hR hph hle hfull (Q := CVR G.toMk w Emp) (fun c x h => ⟨Emp, fun _ _ _ h => h.elim, h⟩) cs us vs hv2 hv⟩
      · cases h
    · cases h
  | cell t ty =>
    simp only [resOne] at h
    split at h
    · rename_i ti nm i o ht hs
      have hq := hR.slots t
      rw [hs] at hq
      obtain ⟨p, hp, hxe⟩ := cv_mp hq
      split at h
      · cases h
      · rename_i hkeep
        split at h
        · rename_i sz rows hb
          split at h
          · rename_i row hrow
            have hB := hR.heap nm _ hb
            simp only [BlkR, hp] at hB
            obtain ⟨b1, b2, b3, b4, b5, cs, el, b6, b7, b8, g, g1, g2, g3⟩ := hB
            have hcell : ∀ j c, (row.drop o)[j]? = some c → ∃ u, w.cell? ⟨p.b, p.o + (i * p.sz + o) + j, none⟩ = some u ∧ ∃ S : Nat → Prop, (∀ k cs el, S k → w.heap[k]? = some (.cells cs el (0, 0)) → cs.size ≤ M.hw k) ∧ CVR G.toMk w S c u := by
              intro j c hc
              rw [List.getElem?_drop] at hc
              obtain ⟨x, e1, e2⟩ := g3 i row _ _ hrow hc
              refine ⟨x, ?_, _, fun k ks el hk hh => hfull nm _ k ks el hb hkeep (g1 _ _ _ hk).1 hh, e2⟩
              simp only [World.cell?, b6]
              rw [show p.o + (i * p.sz + o) + j = p.o + (i * sz + (o + j)) by rw [b1]; omega, e1]
              simp
            obtain ⟨l1, l2⟩ := load_ok hT ht hcell
            split at h
            · rename_i ha
              split at h
              · rename_i hsz
                split at h
                · rename_i vs hvs
                  obtain rfl := Option.some.inj h
                  obtain ⟨us, hl, hr⟩ := l1 ha (by simp; omega)
                  exact ⟨_, by simp only [resRun, hxe, asAddr, Sem.run_bind, Sem.run_pure, Result.andThen_ok]; exact hl, us, rfl, resCL_ok hR hph hle hfull (fun c x h => h) _ us vs hr hvs⟩
                · cases h
              · cases h
            · rename_i ha
              split at h
              · rename_i c hcv
                split at h
                · rename_i v' hv'
                  obtain rfl := Option.some.inj h
                  obtain ⟨u, hl, S, h1, h2⟩ := l2 (by simpa using ha) c (by simp [hcv])
                  exact ⟨u, by simp only [resRun, hxe, asAddr, Sem.run_bind, Sem.run_pure, Result.andThen_ok]; exact hl, resC_ok hR hph hle hfull h1 h2 hv'⟩
                · cases h
              · cases h
          · cases h
        · cases h
    · cases h

theorem resOf_ok (hT : TOk P T) (hR : R cx G st a w) {keep : List Nat} {M : Mk} (hph : M.ph = G.ph) (hle : ∀ b, G.hw b ≤ M.hw b) (hfull : ∀ nm blk k cs el, st.heap nm = some blk → nm ∉ keep → G.reg nm k → w.heap[k]? = some (.cells cs el (0, 0)) → cs.size ≤ M.hw k) :
    ∀ (rs : List ResultVar) (vs : List AV), resOf T keep st rs = some vs → ∃ xs : List Value, (rs.mapM (resRun a.tmps)).run P w = .ok xs w ∧ All2 (AVR M w) vs xs
  | [], vs, h => by simp only [resOf, Option.some.injEq] at h; subst h; exact ⟨[], by simp, trivial⟩
  | r :: rs, vs, h => by
    simp only [resOf] at h
    split at h
    · rename_i v us hv hus
      obtain rfl := Option.some.inj h
      obtain ⟨x, h1, h2⟩ := resOne_ok hT hR hph hle hfull hv
      obtain ⟨xs, h3, h4⟩ := resOf_ok hT hR hph hle hfull rs us hus
      exact ⟨x :: xs, by simp [List.mapM_cons, h1, h3], h2, h4⟩
    · cases h

theorem results_run {fn : Func} {tmps : Array Value} {xs : List Value} (h : (fn.results.toList.mapM (resRun tmps)).run P w = .ok xs w) : (results fn tmps).run P w = .ok (if h : xs.toArray.size = 1 then xs.toArray[0] else .tuple xs.toArray) w := by
  have he : (fn.results.mapM fun (x : ResultVar) => (match x with
    | .tmp t => (pure (tmps.getD t undef) : Sem Value)
    | .cell a t => do loadVar t (← asAddr (tmps.getD a undef)))) = List.toArray <$> fn.results.toList.mapM (resRun tmps) := by
    rw [Array.mapM_eq_mapM_toList]
    rfl
  show Sem.run P (do let vs ← (fn.results.mapM fun (x : ResultVar) => (match x with
    | .tmp t => (pure (tmps.getD t undef) : Sem Value)
    | .cell a t => do loadVar t (← asAddr (tmps.getD a undef)))); pure (if h : vs.size = 1 then vs[0] else .tuple vs)) w = _
  rw [he]
  simp [h]

/-- A walk, whatever holds where it ends. -/
def Walks (P : Program) (n : Nat) (c : Code) (Q : Exit → St → Prop) (st : St) : Prop :=
  ∀ (cx : Cx) (G : Gh) (a : Act) (w : World) (X : Exit → Act → World → Prop), cx.n = n → R cx G st a w → (∀ e G st a w, R cx G st a w → Q e st → X e a w) → c.wp P X a w

/-- A FUNCTION'S CONTRACT, by its text's walk. -/
theorem spec_of {f : FuncId} {fn : Func} {c : Code} (hf : P.funcs[f]? = some fn) (hb : fn.body = some c) (hT : TOk P T) {args res : List AV} {h h' : List (Nat × Blk)} (hargs : args.length ≤ fn.ntmps) (hnm : ∀ p ∈ h, fn.ntmps ≤ p.1)
    (hw : Walks P fn.ntmps c (KRes T fn.results.toList res h') (initSt args h)) : Spec P f args h res h' := by
  intro w G vals hv hN hz
  have hlen := hv.length
  refine calls_of_wp hf hb ?_
  let cx : Cx := ⟨fn.ntmps, w, G.hw, mineOf G h, G.ph⟩
  have hR : R cx G (initSt args h) { tmps := vals.toArray ++ Array.replicate (fn.ntmps - vals.toArray.size) undef, defers := [] } w := by
    refine { kept := Kept.refl _ _, hwOld := fun _ _ _ => rfl, hwNew := hz, tmps := ?_, defers := rfl, slots := ?_, heap := hN.blk, reg := fun nm blk k h1 h2 => ⟨(hN.reg nm blk k h1 h2).1, .inr ⟨nm, blk, h1, h2⟩, (hN.reg nm blk k h1 h2).2⟩, disj := hN.disj, old := fun _ _ => rfl }
    · simp [cx]; omega
    · intro t
      simp only [initSt]
      cases ha : args[t]? with
      | none => trivial
      | some v =>
        obtain ⟨x, h1, h2⟩ := hv.get t v ha
        have hx : (vals.toArray ++ Array.replicate (fn.ntmps - vals.toArray.size) undef).getD t undef = x := by
          rw [Array.getD_eq_getD_getElem?, Array.getElem?_append_left (by have := (List.getElem?_eq_some_iff.1 h1).1; simpa using this)]
          simp [h1]
        rw [hx]
        exact AV.sv_q h2
  refine hw cx G _ w _ rfl hR (fun e G' st a' w' hR' hq => ?_)
  have key : resOf T (h'.map (·.1)) st fn.results.toList = some res ∧ hAll st h' → ∃ v, (results fn a'.tmps).run P w' = .ok v w' ∧ ∃ v' G'', Ending.returned v = .returned v' ∧ ResR G''.toMk w' v' res ∧ Names G'' w' h' ∧ (∀ nm blk k, hGet h' nm = some blk → G''.reg nm k → mineOf G h k ∨ w.heap.size ≤ k) ∧
      (∀ nm blk blk', hGet h nm = some blk → hGet h' nm = some blk' → G''.ph nm = G.ph nm) ∧ Kept (mineOf G h) w w' ∧ (∀ b, b < w.heap.size → ¬ mineOf G h b → G''.hw b = G.hw b) ∧ (∀ b, w'.heap.size ≤ b → G''.hw b = 0) := by
    rintro ⟨hres, hall⟩
    have hlive : ∀ nm blk, hGet h' nm = some blk → st.heap nm = some blk := fun nm blk hg => hAll_mem hall (hGet_mem hg)
    classical
    let hw' : Nat → Nat := fun b => if (∃ nm blk, hGet h' nm = some blk ∧ G'.reg nm b) then 0 else if b < w.heap.size ∧ ¬ mineOf G h b then G'.hw b else fullHw G' w' b
    have hw1 : ∀ nm blk b, hGet h' nm = some blk → G'.reg nm b → hw' b = 0 := fun nm blk b h1 h2 => if_pos ⟨nm, blk, h1, h2⟩
    have hle : ∀ b, G'.hw b ≤ hw' b := by
      intro b
      show _ ≤ if _ then _ else _
      split
      · rename_i hx
        obtain ⟨nm, blk, h1, h2⟩ := hx
        rw [(hR'.reg nm blk b (hlive nm blk h1) h2).1]
        exact Nat.le_refl _
      · split
        · exact Nat.le_refl _
        · exact fullHw_le _ _ _
    have hold : ∀ b, b < w.heap.size → ¬ mineOf G h b → hw' b = G'.hw b := by
      intro b hb1 hb2
      show (if _ then _ else _) = _
      split
      · rename_i hx
        obtain ⟨nm, blk, h1, h2⟩ := hx
        exact (hR'.reg nm blk b (hlive nm blk h1) h2).1.symm
      · rw [if_pos ⟨hb1, hb2⟩]
    obtain ⟨xs, h1, h2⟩ := resOf_ok (M := ⟨hw', G'.ph⟩) hT hR' rfl hle (fun nm blk k cs el hb' hk hreg hh => by
      show cs.size ≤ if _ then _ else _
      rw [if_neg, if_neg]
      · unfold fullHw; rw [hh]; exact Nat.le_max_right _ _
      · rintro ⟨q1, q2⟩
        rcases (hR'.reg nm blk k hb' hreg).2.1 with q | q
        · exact absurd (show w.heap.size ≤ k from q) (by omega)
        · exact q2 q
      · rintro ⟨nm', blk', q1, q2⟩
        have := hR'.disj nm nm' blk blk' k hb' (hlive nm' blk' q1) hreg q2
        subst this
        exact hk (hGet_key q1)) _ _ hres
    refine ⟨_, results_run h1, _, ⟨⟨hw', G'.ph⟩, G'.reg⟩, rfl, ?_, ⟨fun nm blk hg => ?_, fun nm blk k hg hk => ⟨hw1 nm blk k hg hk, (hR'.reg nm blk k (hlive nm blk hg) hk).2.2⟩, fun nm nm' blk blk' k g1 g2 g3 g4 => hR'.disj nm nm' blk blk' k (hlive nm blk g1) (hlive nm' blk' g2) g3 g4⟩, fun nm blk k hg hk => ?_, fun nm blk blk' hg hg' => hR'.old nm (hnm _ (hGet_mem hg)), hR'.kept, fun b hb1 hb2 => (hold b hb1 hb2).trans (hR'.hwOld b hb1 hb2), fun b hb' => ?_⟩
    · have hl := h2.length
      match res, xs, h2 with
      | [], [], h2 => exact ⟨[], rfl, trivial⟩
      | [r], [x], h2 => exact h2.1
      | r :: s :: t, x :: y :: z, h2 => exact ⟨x :: y :: z, by simp, h2⟩
      | [], _ :: _, h2 => exact h2.elim
      | _ :: _, [], h2 => exact h2.elim
      | [r], x :: y :: z, h2 => exact h2.2.elim
      | r :: s :: t, [x], h2 => exact h2.2.elim
    · exact (hR'.heap nm blk (hlive nm blk hg)).move rfl (fun _ h => h) (fun _ h => h) (fun v y hv => hv.mono hle fun _ _ _ _ h => h) (fun _ _ => rfl) (fun _ _ => rfl)
    · rcases (hR'.reg nm blk k (hlive nm blk hg) hk).2.1 with q | q
      · exact .inr q
      · exact .inl q
    · show (if _ then _ else _) = 0
      split
      · rfl
      · split
        · exact hR'.hwNew b hb'
        · exact fullHw_new _ _ hb' (hR'.hwNew b hb')
  cases e with
  | normal => exact ⟨hR'.defers, key hq⟩
  | ret => exact ⟨hR'.defers, key hq⟩
  | _ => exact hq.elim

/-! A call with names. -/
def argRaw (heap : Nat → Option Blk) : SV → Option AV
  | .c (.own sz []) => some (.v (.t (.sl sz [])))
  | .c .dead => none
  | .c v => some (.v v)
  | .agg cs => some (.agg cs)
  | _ => none

def argsRaw (T : TypeId → Option TI) (st : St) : List Operand → List TypeId → Option (List AV)
  | [], _ => some []
  | x :: xs, t :: ts => match argRaw st.heap (rd T st t x), argsRaw T st xs ts with
    | some v, some vs => some (v :: vs)
    | _, _ => none
  | _ :: _, [] => none

theorem argRaw_ok {sv : SV} {x : Value} {M : Mk} (hq : SVR M w sv x) {heap : Nat → Option Blk} {v : AV} (h : argRaw heap sv = some v) : AVR M w v x := by
  unfold argRaw at h
  split at h
  · obtain rfl := Option.some.inj h
    obtain ⟨_, a0, rfl⟩ := cv_own hq
    exact .t (.nil _ _ _)
  · cases h
  · obtain rfl := Option.some.inj h; exact hq
  · obtain rfl := Option.some.inj h; exact hq
  · cases h

theorem argsRaw_ok (hR : R cx G st a w) : ∀ (xs : List Operand) (ts : List TypeId) (vs : List AV), argsRaw T st xs ts = some vs → All2 (AVR G.toMk w) vs (xs.map a.eval)
  | [], ts, vs, h => by simp only [argsRaw, Option.some.injEq] at h; subst h; trivial
  | x :: xs, t :: ts, vs, h => by
    simp only [argsRaw] at h
    split at h
    · rename_i v us hv hus
      obtain rfl := Option.some.inj h
      exact ⟨argRaw_ok (rd_q (T := T) hR t x) hv, argsRaw_ok hR xs ts us hus⟩
    · cases h
  | _ :: _, [], vs, h => by simp [argsRaw] at h

def hRen (ρ : Nat → Nat) : List (Nat × Blk) → List (Nat × Blk)
  | [] => []
  | p :: r => (ρ p.1, p.2.ren ρ) :: hRen ρ r

/-- The names turned by a call: those of the contract, under the walk's numbers. -/
def St.called (st : St) (ρ : Nat → Nat) (h h' : List (Nat × Blk)) : St :=
  { slots := fun t => if h'.any (fun p => !(h.map (·.1)).contains p.1 && (st.slots t).has (ρ p.1)) then .undef else st.slots t
    heap := fun k => match hGet (hRen ρ h') k with | some b => some b | none => if (h.map fun p => ρ p.1).contains k then none else st.heap k }

/-- What a call with names asks. -/
structure CallOk (n : Nat) (st : St) (ρ : Nat → Nat) (h h' : List (Nat × Blk)) (res : List AV) : Prop where
  there : hAll st (hRen ρ h)
  inj : ∀ a ∈ h.map (·.1) ++ h'.map (·.1), ∀ b ∈ h.map (·.1) ++ h'.map (·.1), ρ a = ρ b → a = b
  fresh : ∀ p ∈ h', (h.map (·.1)).contains p.1 = false → ρ p.1 < n ∧ ∀ k blk, (h.map fun p => ρ p.1).contains k = false → (h'.map fun p => ρ p.1).contains k = false → st.heap k = some blk → blk.has (ρ p.1) = false
  clean : ∀ k, (hasA k res = true ∨ ∃ p ∈ h', p.2.has k = true) → k ∈ h'.map (·.1)

def callM (E : Env) (T : TypeId → Option TI) (n : Nat) (dst : Option Nat) (cal : Callee) (args : List Operand) (types : List TypeId) (K : St → Prop) (st : St) : Prop :=
  match calleeOf T st cal, argsRaw T st args types with
  | some (f, first, caps), some vs => ∃ ρ cargs h res h', E f cargs h res h' ∧ cargs.map (AV.ren ρ) = first.map .v ++ vs ++ caps.map .v ∧ CallOk n st ρ h h' res ∧ putK n dst (resSV (res.map (AV.ren ρ))) K (st.called ρ h h')
  | _, _ => False

theorem hGet_ren {ρ : Nat → Nat} : ∀ {h : List (Nat × Blk)}, (∀ a ∈ h.map (·.1), ∀ b ∈ h.map (·.1), ρ a = ρ b → a = b) → ∀ {k : Nat}, k ∈ h.map (·.1) → hGet (hRen ρ h) (ρ k) = (hGet h k).map (·.ren ρ)
  | [], _, k, hk => by simp at hk
  | p :: r, hi, k, hk => by
    simp only [hRen, hGet]
    by_cases he : k = p.1
    · subst he; simp
    · rw [if_neg (fun e => he (hi k hk p.1 (by simp) e)), if_neg he]
      refine hGet_ren (fun a ha b hb => hi a (by simp [ha]) b (by simp [hb])) ?_
      simp only [List.map_cons, List.mem_cons] at hk
      rcases hk with h | h
      · exact absurd h he
      · exact h
theorem hGet_ren_none {ρ : Nat → Nat} : ∀ {h : List (Nat × Blk)} {k : Nat} {b : Blk}, hGet (hRen ρ h) k = some b → ∃ j, j ∈ h.map (·.1) ∧ ρ j = k
  | p :: r, k, b, hg => by
    simp only [hRen, hGet] at hg
    split at hg
    · rename_i e; exact ⟨p.1, by simp, e.symm⟩
    · obtain ⟨j, h1, h2⟩ := hGet_ren_none hg; exact ⟨j, by simp only [List.map_cons, List.mem_cons]; exact .inr h1, h2⟩

theorem hAll_ren {ρ : Nat → Nat} : ∀ {h : List (Nat × Blk)}, hAll st (hRen ρ h) → ∀ {k : Nat} {b : Blk}, (k, b) ∈ h → st.heap (ρ k) = some (b.ren ρ)
  | _ :: _, h, k, b, hm => by
    rcases List.mem_cons.1 hm with rfl | hm
    · exact h.1
    · exact hAll_ren h.2 hm

theorem ResR.ren {M M' : Mk} {ρ : Nat → Nat} {v : Value} {res : List AV} (hi : ∀ r ∈ res, ∀ x, AVR M w r x → AVR M' w (r.ren ρ) x) (h : ResR M w v res) : ResR M' w v (res.map (AV.ren ρ)) := by
  match res, hi, h with
  | [], hi, h =>
    obtain ⟨us, q1, q2⟩ := h
    cases us with
    | nil => exact ⟨[], q1, trivial⟩
    | cons _ _ => exact q2.elim
  | [r], hi, h => exact hi r (by simp) _ h
  | r :: s :: t, hi, h => obtain ⟨us, q1, q2⟩ := h; exact ⟨us, q1, All2.map_left (q2.monoMem fun r hr b hb => hi r hr b hb)⟩

/-- The walk's knowledge behind a call with names. -/
theorem R.called (hR : R cx G st a w) {ρ : Nat → Nat} {h h' : List (Nat × Blk)} {res : List AV} (hc : CallOk cx.n st ρ h h' res) {G' : Gh} {w' : World} (hN : Names G' w' h')
    (hreg : ∀ nm blk k, hGet h' nm = some blk → G'.reg nm k → mineOf ⟨⟨G.hw, fun k => G.ph (ρ k)⟩, fun k => G.reg (ρ k)⟩ h k ∨ w.heap.size ≤ k) (hph : ∀ nm blk blk', hGet h nm = some blk → hGet h' nm = some blk' → G'.ph nm = G.ph (ρ nm))
    (hk : Kept (mineOf ⟨⟨G.hw, fun k => G.ph (ρ k)⟩, fun k => G.reg (ρ k)⟩ h) w w') (hwo : ∀ b, b < w.heap.size → ¬ mineOf ⟨⟨G.hw, fun k => G.ph (ρ k)⟩, fun k => G.reg (ρ k)⟩ h b → G'.hw b = G.hw b) (hwn : ∀ b, w'.heap.size ≤ b → G'.hw b = 0) :
    ∃ G'', R cx G'' (st.called ρ h h') a w' ∧ G''.hw = G'.hw ∧ ∀ j, j ∈ h'.map (·.1) → G''.ph (ρ j) = G'.ph j := by
  classical
  let inv : Nat → Option Nat := fun k => (h'.map (·.1)).find? fun j => ρ j = k
  have hinv : ∀ j, j ∈ h'.map (·.1) → inv (ρ j) = some j := by
    intro j hj
    cases hf : inv (ρ j) with
    | none =>
      have := List.find?_eq_none.1 hf j hj
      simp at this
    | some j' =>
      have h1 := List.mem_of_find?_eq_some hf
      have h2 := List.find?_some hf
      simp only [decide_eq_true_eq] at h2
      rw [hc.inj j' (by simp [h1]) j (by simp [hj]) h2]
  have hinv2 : ∀ k j, inv k = some j → j ∈ h'.map (·.1) ∧ ρ j = k := fun k j hf => ⟨List.mem_of_find?_eq_some hf, by simpa using List.find?_some hf⟩
  let G'' : Gh := ⟨⟨G'.hw, fun k => match inv k with | some j => G'.ph j | none => G.ph k⟩, fun k b => match inv k with | some j => G'.reg j b | none => G.reg k b⟩
  have hphj : ∀ j, j ∈ h'.map (·.1) → G''.ph (ρ j) = G'.ph j := fun j hj => by show (match inv (ρ j) with | some j => G'.ph j | none => G.ph (ρ j)) = _; rw [hinv j hj]
  have hinjh : ∀ a ∈ h'.map (·.1), ∀ b ∈ h'.map (·.1), ρ a = ρ b → a = b := fun a ha b hb => hc.inj a (by simp [ha]) b (by simp [hb])
  have hold : ∀ j b, hGet h j = some b → st.heap (ρ j) = some (b.ren ρ) := fun j b hg => hAll_ren hc.there (hGet_mem hg)
  -- the names that turn
  have hchg : ∀ k, G''.ph k ≠ G.ph k → ∃ j, j ∈ h'.map (·.1) ∧ ρ j = k ∧ (h.map (·.1)).contains j = false := by
    intro k hne
    cases hi : inv k with
    | none => exact absurd (show (match inv k with | some j => G'.ph j | none => G.ph k) = G.ph k by rw [hi]) hne
    | some j =>
      obtain ⟨h1, h2⟩ := hinv2 k j hi
      refine ⟨j, h1, h2, ?_⟩
      cases hcj : (h.map (·.1)).contains j with
      | false => rfl
      | true =>
        exfalso
        rw [List.contains_iff_mem] at hcj
        obtain ⟨b, hb⟩ := hGet_of_key hcj
        obtain ⟨b', hb'⟩ := hGet_of_key h1
        apply hne
        show (match inv k with | some j => G'.ph j | none => G.ph k) = G.ph k
        rw [hi, ← h2]
        exact hph j b b' hb hb'
  have hDmem : ∀ k, (h.map fun p => ρ p.1).contains k = true ↔ ∃ j ∈ h.map (·.1), ρ j = k := by
    intro k
    rw [List.contains_iff_mem]
    simp only [List.mem_map]
    constructor
    · rintro ⟨p, h1, h2⟩; exact ⟨p.1, ⟨p, h1, rfl⟩, h2⟩
    · rintro ⟨j, ⟨p, h1, rfl⟩, h2⟩; exact ⟨p, h1, h2⟩
  have hDmem' : ∀ k, (h'.map fun p => ρ p.1).contains k = true ↔ ∃ j ∈ h'.map (·.1), ρ j = k := by
    intro k
    rw [List.contains_iff_mem]
    simp only [List.mem_map]
    constructor
    · rintro ⟨p, h1, h2⟩; exact ⟨p.1, ⟨p, h1, rfl⟩, h2⟩
    · rintro ⟨j, ⟨p, h1, rfl⟩, h2⟩; exact ⟨p, h1, h2⟩
  refine ⟨G'', ?_, rfl, hphj⟩
  refine hR.change (mineOf ⟨⟨G.hw, fun k => G.ph (ρ k)⟩, fun k => G.reg (ρ k)⟩ h) (fun k => (∃ j ∈ h.map (·.1), ρ j = k) ∨ ∃ j ∈ h'.map (·.1), ρ j = k) ?_ hk (fun b hb1 hb2 => hwo b hb1 hb2) hwn ?_ ?_ ?_ ?_ ?_ ?_ hR.tmps hR.defers
  · rintro b ⟨nm, blk, h1, h2⟩
    exact ⟨ρ nm, _, .inl ⟨nm, hGet_key h1, rfl⟩, hold nm blk h1, h2⟩
  · intro k blk hD hb
    have h1 : (h.map fun p => ρ p.1).contains k = false := by
      cases hq : (h.map fun p => ρ p.1).contains k with
      | false => rfl
      | true => exact absurd (.inl ((hDmem k).1 hq)) hD
    have hi : inv k = none := by
      cases hi : inv k with
      | none => rfl
      | some j => exact absurd (.inr ⟨j, hinv2 k j hi⟩) hD
    simp only [St.called, h1, Bool.false_eq_true, if_false] at hb
    split at hb
    · rename_i b' hb'
      obtain ⟨j, h2, h3⟩ := hGet_ren_none hb'
      exact absurd (.inr ⟨j, h2, h3⟩) hD
    · exact ⟨hb, by show (match inv k with | some j => G'.ph j | none => G.ph k) = _; rw [hi], fun b => by show (match inv k with | some j => G'.reg j b | none => G.reg k b) ↔ _; rw [hi]⟩
  · intro k hne i blk hD hb
    obtain ⟨j, h1, h2, h3⟩ := hchg k hne
    obtain ⟨p, hp, hpj⟩ := List.mem_map.1 h1
    have h4 : (h.map fun p => ρ p.1).contains i = false := by
      cases hq : (h.map fun p => ρ p.1).contains i with
      | false => rfl
      | true => exact absurd (.inl ((hDmem i).1 hq)) hD
    have h5 : (h'.map fun p => ρ p.1).contains i = false := by
      cases hq : (h'.map fun p => ρ p.1).contains i with
      | false => rfl
      | true => exact absurd (.inr ((hDmem' i).1 hq)) hD
    have hb2 : st.heap i = some blk := by
      simp only [St.called, h4, Bool.false_eq_true, if_false] at hb
      split at hb
      · rename_i b' hb'
        obtain ⟨j', h2', h3'⟩ := hGet_ren_none hb'
        exact absurd (.inr ⟨j', h2', h3'⟩) hD
      · exact hb
    rw [← h2, ← hpj]
    exact (hc.fresh p hp (by rw [hpj]; exact h3)).2 i blk h4 h5 hb2
  · intro k blk hD hb
    have hgot : ∃ j b0, j ∈ h'.map (·.1) ∧ ρ j = k ∧ hGet h' j = some b0 ∧ blk = b0.ren ρ := by
      simp only [St.called] at hb
      split at hb
      · rename_i b' hb'
        obtain rfl := Option.some.inj hb
        obtain ⟨j, h2, h3⟩ := hGet_ren_none hb'
        subst h3
        rw [hGet_ren hinjh h2] at hb'
        obtain ⟨b0, h4⟩ := hGet_of_key h2
        rw [h4] at hb'
        exact ⟨j, b0, h2, rfl, h4, (Option.some.inj hb').symm⟩
      · rename_i hn
        rcases hD with hD | hD
        · rw [if_pos ((hDmem k).2 hD)] at hb; cases hb
        · obtain ⟨j, h2, h3⟩ := hD
          subst h3
          rw [hGet_ren hinjh h2] at hn
          obtain ⟨b0, h4⟩ := hGet_of_key h2
          rw [h4] at hn
          cases hn
    obtain ⟨j, b0, h2, rfl, h4, rfl⟩ := hgot
    have hregj : ∀ b, G''.reg (ρ j) b ↔ G'.reg j b := fun b => by show (match inv (ρ j) with | some j => G'.reg j b | none => G.reg (ρ j) b) ↔ _; rw [hinv j h2]
    refine ⟨(hN.blk j b0 h4).ren (hphj j h2) hregj (fun _ _ h => h) (fun k' hk' => hphj k' (hc.clean k' (.inr ⟨_, hGet_mem h4, hk'⟩))), fun b hb' => ?_⟩
    rw [hregj] at hb'
    obtain ⟨q1, q2⟩ := hN.reg j b0 b h4 hb'
    exact ⟨q1, q2, hreg j b0 b h4 hb'⟩
  · intro k k' blk blk' b hD hD' hb hb' hr hr'
    have hin : ∀ i bi, ((∃ j ∈ h.map (·.1), ρ j = i) ∨ ∃ j ∈ h'.map (·.1), ρ j = i) → (st.called ρ h h').heap i = some bi → ∃ j, j ∈ h'.map (·.1) ∧ ρ j = i := by
      intro i bi hDi hbi
      simp only [St.called] at hbi
      split at hbi
      · rename_i b' hb9
        exact hGet_ren_none hb9
      · rcases hDi with hDi | hDi
        · rw [if_pos ((hDmem i).2 hDi)] at hbi; cases hbi
        · exact hDi
    obtain ⟨j, h1, rfl⟩ := hin k blk hD hb
    obtain ⟨j', h2, rfl⟩ := hin k' blk' hD' hb'
    obtain ⟨b0, q1⟩ := hGet_of_key h1
    obtain ⟨b0', q2⟩ := hGet_of_key h2
    have e1 : G'.reg j b := by have : G''.reg (ρ j) b := hr; simpa only [G'', hinv j h1] using this
    have e2 : G'.reg j' b := by have : G''.reg (ρ j') b := hr'; simpa only [G'', hinv j' h2] using this
    rw [hN.disj j j' b0 b0' b q1 q2 e1 e2]
  · intro t hs
    simp only [St.called]
    split
    · trivial
    · rename_i hany
      refine slot_move (G' := G'') hR (own := mineOf ⟨⟨G.hw, fun k => G.ph (ρ k)⟩, fun k => G.reg (ρ k)⟩ h) (fun b ⟨nm, blk, h1, h2⟩ => (hR.reg (ρ nm) _ b (hold nm blk h1) h2).1) hk (fun b hb1 hb2 => hwo b hb1 hb2) hs (fun k hk' => ?_)
      rcases Classical.em (G''.ph k = G.ph k) with e | e
      · exact e
      · exfalso
        obtain ⟨j, h1, h2, h3⟩ := hchg k e
        obtain ⟨p, hp, hpj⟩ := List.mem_map.1 h1
        apply hany
        rw [List.any_eq_true]
        refine ⟨p, hp, ?_⟩
        rw [hpj, h3, h2, hk']
        rfl
  · intro k hk'
    rcases Classical.em (G''.ph k = G.ph k) with e | e
    · exact e
    · exfalso
      obtain ⟨j, h1, h2, h3⟩ := hchg k e
      obtain ⟨p, hp, hpj⟩ := List.mem_map.1 h1
      have := (hc.fresh p hp (by rw [hpj]; exact h3)).1
      rw [hpj, h2] at this
      omega

theorem hasA_mem_iff {k : Nat} {res : List AV} {r : AV} (hr : r ∈ res) (h : r.has k = true) : hasA k res = true := hasA_mem hr h

theorem callM_ok (hE : EnvOk P E) (hT : TOk P T) (hR : R cx G st a w) {o : Oper} {cal : Callee} {args : Array Operand} {types : Array TypeId} (ho : o.op = .call { callee := cal, args, argTypes := types }) {K : St → Prop} {X : Exit → Act → World → Prop}
    (h : callM E T cx.n o.dst cal args.toList types.toList K st) : o.wp P a w (Post cx K) X := by
  unfold callM at h
  split at h
  · rename_i f first caps vs hcal hvs
    obtain ⟨ρ, cargs, hh, res, hh', hE1, hargs, hc, hK⟩ := h
    obtain ⟨hent, hspec⟩ := hE f _ _ _ _ hE1
    obtain ⟨uvals, wvals, hu, hw, hrun⟩ := enter_ok (T := T) hT hR ho hcal hent
    unfold Oper.wp
    rw [hrun, Oper.upon_enter]
    have hall : All2 (AVR G.toMk w) (cargs.map (AV.ren ρ)) (uvals ++ args.toList.map a.eval ++ wvals) := by
      rw [hargs]
      exact All2.append (All2.append (All2.map_left hu) (argsRaw_ok (T := T) hR _ _ _ hvs)) (All2.map_left hw)
    have hall2 : All2 (AVR (⟨G.hw, fun k => G.ph (ρ k)⟩ : Mk) w) cargs (uvals ++ args.toList.map a.eval ++ wvals) := (All2.of_map hall).mono fun _ _ hx => hx.unren (fun _ _ h => h) fun _ _ => rfl
    have hold : ∀ j b, hGet hh j = some b → st.heap (ρ j) = some (b.ren ρ) := fun j b hg => hAll_ren hc.there (hGet_mem hg)
    have hN0 : Names (⟨⟨G.hw, fun k => G.ph (ρ k)⟩, fun k => G.reg (ρ k)⟩ : Gh) w hh := by
      refine ⟨fun nm blk hg => (hR.heap _ _ (hold nm blk hg)).unren rfl (fun _ => Iff.rfl) (fun _ _ h => h) (fun _ _ => rfl), fun nm blk k hg hk => ?_, fun nm nm' blk blk' k h1 h2 h3 h4 => ?_⟩
      · obtain ⟨q1, _, q3⟩ := hR.reg _ _ k (hold nm blk hg) hk
        exact ⟨q1, q3⟩
      · exact hc.inj nm (by simp only [List.mem_append]; exact .inl (hGet_key h1)) nm' (by simp only [List.mem_append]; exact .inl (hGet_key h2)) (hR.disj _ _ _ _ k (hold nm blk h1) (hold nm' blk' h2) h3 h4)
    refine (hspec w ⟨⟨G.hw, fun k => G.ph (ρ k)⟩, fun k => G.reg (ρ k)⟩ _ hall2 hN0 hR.hwNew).mono fun e w' ⟨v, G', he, hr, hN, hreg, hph, hkept, hwo, hwn⟩ => ?_
    subst he
    show Post cx K (a.put o.dst v) w'
    obtain ⟨G'', hR2, hhw2, hph2⟩ := hR.called hc hN hreg hph hkept hwo hwn
    refine putK_ok hR2 (resSV_q (ResR.ren (fun r hrm x hx => AVR.ren hx (fun v y hv => by rw [hhw2]; exact hv) fun nm hn => hph2 nm (hc.clean nm (.inl (hasA_mem hrm hn)))) hr)) hK
  · exact h.elim
end
end Go.Proofs.Ytgmjgognpabmdaa.Fx
