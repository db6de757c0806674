import Derived.Test.YteoddaeipckgcaaEv9
namespace Go.Proofs.Yteoddaeipckgcaa.Ev
open Go Go.RowKit
set_option linter.unusedSimpArgs false
set_option linter.unusedVariables false
variable {P : Program} {T : TypeId → Option TI}

/-- What a call answers: one value, or several. -/
def ResR (hw : Nat → Nat) (w : World) (v : Value) : List AV → Prop
  | [r] => AVR hw w r v
  | rs => ∃ vs : List Value, v = .tuple vs.toArray ∧ All2 (AVR hw w) rs vs

/-- A CONTRACT: called on these values, wherever they stand, the function answers those; old memory stays as it is. -/
def Spec (P : Program) (f : FuncId) (args : List AV) (res : List AV) : Prop :=
  ∀ (w : World) (hw : Nat → Nat) (vals : List Value), All2 (AVR hw w) args vals → (∀ b, w.heap.size ≤ b → hw b = 0) →
    Calls P f vals.toArray w fun e w' => ∃ v hw', e = .returned v ∧ ResR hw' w' v res ∧ (∀ b, b < w.heap.size → hw' b = hw b) ∧ (∀ b, w'.heap.size ≤ b → hw' b = 0) ∧ Below w.heap.size w w'

def Entered (P : Program) (f : FuncId) : Prop := ∀ args w, (callFunc f args).run P w = .ok (.enter f args) w

def resSV : List AV → SV
  | [r] => r.sv
  | rs => .tup rs

/-- An argument, as the callee sees it. -/
def argOf (heap : Nat → Option Blk) : SV → Option AV
  | .c v => some (.v v.tv)
  | .agg cs => some (.agg (cs.map CV.tv))
  | .mr nm lo len => match heap nm with
    | some blk => if lo + len ≤ blk.rows.length then some (.v (.sl blk.sz (((blk.rows.drop lo).take len).map (·.map CV.tv)))) else none
    | none => none
  | _ => none

def argsOf (T : TypeId → Option TI) (st : St) : List Operand → List TypeId → Option (List AV)
  | [], _ => some []
  | x :: xs, t :: ts => match argOf st.heap (rd T st t x), argsOf T st xs ts with
    | some v, some vs => some (v :: vs)
    | _, _ => none
  | _ :: _, [] => none

def isMr : SV → Bool
  | .mr _ _ _ => true
  | _ => false

def anyMr (T : TypeId → Option TI) (st : St) : List Operand → List TypeId → Bool
  | x :: xs, t :: ts => isMr (rd T st t x) || anyMr T st xs ts
  | _, _ => false

def TV.flat : TV → Bool
  | .sl _ _ => false
  | _ => true

def AV.flat : AV → Bool
  | .v x => x.flat
  | .agg cs => cs.all TV.flat

section
variable {n : Nat} {w0 : World} {hw0 : Nat → Nat} {G : Gh} {st : St} {a : Act} {w : World}

/-- The marks, those of the blocks that have a name at their whole size. -/
def fullHw (G : Gh) (w : World) : Nat → Nat := fun b => match w.heap[b]? with | some (.cells cs _ _) => max (G.hw b) cs.size | _ => G.hw b

theorem fullHw_le (G : Gh) (w : World) (b : Nat) : G.hw b ≤ fullHw G w b := by
  unfold fullHw
  split
  · exact Nat.le_max_left _ _
  · exact Nat.le_refl _

theorem TVR.full {v : TV} {x : Value} (h : TVR G.hw w v x) : TVR (fullHw G w) w v x := h.mono (fullHw_le G w) fun _ _ _ _ h => h

theorem flat_any {v : TV} (hf : v.flat = true) {hw hw' : Nat → Nat} {w w' : World} {x : Value} (h : TVR hw w v x) : TVR hw' w' v x := by
  cases h with
  | bool b => exact .bool b
  | int k n => exact .int k n
  | str s => exact .str s
  | nilp => exact .nilp
  | nil => simp [TV.flat] at hf
  | sl => simp [TV.flat] at hf

theorem flat_anyA {v : AV} (hf : v.flat = true) {hw hw' : Nat → Nat} {w w' : World} {x : Value} (h : AVR hw w v x) : AVR hw' w' v x := by
  cases v with
  | v t => exact flat_any hf h
  | agg cs =>
    obtain ⟨vs, rfl, hv⟩ := h
    refine ⟨vs, rfl, ?_⟩
    simp only [AV.flat] at hf
    induction cs generalizing vs with
    | nil => cases vs with
      | nil => trivial
      | cons _ _ => exact hv.elim
    | cons c cs ih =>
      cases vs with
      | nil => exact hv.elim
      | cons v vs =>
        simp only [List.all_cons, Bool.and_eq_true] at hf
        exact ⟨flat_any hf.1 hv.1, ih hf.2 vs hv.2⟩

theorem argOf_any (hR : R n w0 hw0 G st a w) {hw' : Nat → Nat} (hle : ∀ b, G.hw b ≤ hw' b) (hfull : ∀ nm blk cs el, st.heap nm = some blk → w.heap[(G.ph nm).1]? = some (Obj.cells cs el (0, 0)) → cs.size ≤ hw' (G.ph nm).1) {sv : SV} {x : Value} (hq : Q G w w0.heap.size st.heap sv x) {v : AV} (h : argOf st.heap sv = some v) : AVR hw' w v x ∧ (isMr sv = false → AVR G.hw w v x) := by
  cases sv with
  | c c =>
    simp only [argOf, Option.some.injEq] at h
    subst h
    have := (hq 0 : CVR G w w0.heap.size (.slot 0) c x).tree
    exact ⟨this.mono hle fun _ _ _ _ h => h, fun _ => this⟩
  | agg cs =>
    simp only [argOf, Option.some.injEq] at h
    subst h
    obtain ⟨vs, rfl, hv⟩ := hq 0
    have h1 : All2 (fun c x => TVR G.hw w (CV.tv c) x) cs vs := hv.mono fun _ _ h => h.tree
    exact ⟨⟨vs, rfl, All2.map_left (h1.mono fun _ _ h => h.mono hle fun _ _ _ _ h => h)⟩, fun _ => ⟨vs, rfl, All2.map_left h1⟩⟩
  | mr nm lo len =>
    simp only [argOf] at h
    split at h
    · rename_i blk hb
      split at h
      · rename_i hlen
        obtain rfl := Option.some.inj h
        refine ⟨?_, fun h => by simp [isMr] at h⟩
        obtain ⟨cap, cs, el, h1, h2, h3, h4, rfl⟩ := hq 0 blk hb
        obtain ⟨cs2, el2, g1, g2, g3, g4, g5, g6, g7⟩ := hR.heap nm blk hb
        rw [h3] at g1
        injection g1 with g1; injection g1 with g1 _ _
        subst g1
        have hl : (((blk.rows.drop lo).take len).map (·.map CV.tv)).length = len := by simp; omega
        by_cases h0 : len = 0
        · subst h0
          simp only [List.take_zero, List.map_nil]
          exact .nil _ _ _
        · show TVR _ _ _ _
          have : TVR hw' w (.sl blk.sz (((blk.rows.drop lo).take len).map (·.map CV.tv))) (.slice (some ⟨(G.ph nm).1, (G.ph nm).2 + lo * blk.sz, none⟩) (((blk.rows.drop lo).take len).map (·.map CV.tv)).length cap) := by
            refine .sl _ _ _ _ _ (fun i j => (cs[(G.ph nm).2 + ((lo + i) * blk.sz + j)]?).getD undef) g4 ?_ (by rw [hl]; exact h2) ?_ ?_ ?_
            · intro r hr
              obtain ⟨r', hr', rfl⟩ := List.mem_map.1 hr
              rw [List.length_map]
              exact g5 r' (List.mem_of_mem_drop (List.mem_of_mem_take hr'))
            · rw [hl]
              have := Nat.mul_le_mul_right blk.sz hlen
              rw [Nat.add_mul] at this
              exact Nat.le_trans (by omega) (hfull nm blk cs el hb h3)
            · intro i j hi hj
              rw [hl] at hi
              have hr : blk.rows[lo + i]? = some blk.rows[lo + i] := List.getElem?_eq_getElem (by omega)
              have hrl := g5 _ (List.getElem_mem (show lo + i < blk.rows.length by omega))
              obtain ⟨x, q1, q2⟩ := g7 (lo + i) _ j _ hr (List.getElem?_eq_getElem (by rw [hrl]; exact hj))
              simp only [World.cell?, h3, q1, Option.getD_some]
              rw [show (G.ph nm).2 + lo * blk.sz + (i * blk.sz + j) = (G.ph nm).2 + ((lo + i) * blk.sz + j) by rw [Nat.add_mul]; omega, q1]
              simp
            · intro i r j x hi hj
              rw [List.getElem?_map] at hi
              cases hr : ((blk.rows.drop lo).take len)[i]? with
              | none => simp [hr] at hi
              | some r' =>
                simp only [hr, Option.map_some, Option.some.injEq] at hi
                subst hi
                have hil : i < len := by have := (List.getElem?_eq_some_iff.1 hr).1; simp at this; omega
                rw [List.getElem?_take_of_lt hil, List.getElem?_drop] at hr
                rw [List.getElem?_map] at hj
                cases hc : r'[j]? with
                | none => simp [hc] at hj
                | some c =>
                  simp only [hc, Option.map_some, Option.some.injEq] at hj
                  subst hj
                  obtain ⟨x, q1, q2⟩ := g7 (lo + i) r' j c hr hc
                  rw [q1]
                  exact q2.tree.mono hle fun _ _ _ _ h => h
          rw [hl] at this
          exact this
      · cases h
    · cases h
  | _ => simp [argOf] at h

theorem argOf_r (hR : R n w0 hw0 G st a w) {sv : SV} {x : Value} (hq : Q G w w0.heap.size st.heap sv x) {v : AV} (h : argOf st.heap sv = some v) : AVR (fullHw G w) w v x ∧ (isMr sv = false → AVR G.hw w v x) :=
  argOf_any hR (fullHw_le G w) (fun nm blk cs el _ h => by unfold fullHw; rw [h]; exact Nat.le_max_right _ _) hq h

theorem argsOf_r (hR : R n w0 hw0 G st a w) : ∀ (xs : List Operand) (ts : List TypeId) (vs : List AV), argsOf T st xs ts = some vs →
    All2 (AVR (fullHw G w) w) vs (xs.map a.eval) ∧ (anyMr T st xs ts = false → All2 (AVR G.hw w) vs (xs.map a.eval))
  | [], _, vs, h => by simp only [argsOf, Option.some.injEq] at h; subst h; exact ⟨trivial, fun _ => trivial⟩
  | x :: xs, t :: ts, vs, h => by
    simp only [argsOf] at h
    split at h
    · rename_i v us hv hus
      obtain rfl := Option.some.inj h
      obtain ⟨h1, h2⟩ := argOf_r hR (rd_q (T := T) hR t x) hv
      obtain ⟨h3, h4⟩ := argsOf_r hR xs ts us hus
      refine ⟨⟨h1, h3⟩, fun hm => ?_⟩
      simp only [anyMr, Bool.or_eq_false_iff] at hm
      exact ⟨h2 hm.1, h4 hm.2⟩
    · cases h
  | _ :: _, [], vs, h => by simp [argsOf] at h

theorem resSV_q {hw : Nat → Nat} {base : Nat} {heap : Nat → Option Blk} {res : List AV} {v : Value} (hG : G.hw = hw) (h : ResR hw w v res) : Q G w base heap (resSV res) v := by
  subst hG
  unfold resSV
  split
  · exact AV.sv_q h
  · rename_i rs hrs
    unfold ResR at h
    split at h
    · rename_i r
      exact absurd rfl (hrs r)
    · exact fun _ => h
end
end Go.Proofs.Yteoddaeipckgcaa.Ev
