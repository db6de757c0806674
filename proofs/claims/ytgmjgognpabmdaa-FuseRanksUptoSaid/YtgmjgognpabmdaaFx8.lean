/- The evaluator's second make: contracts. -/
import Derived.Test.YtgmjgognpabmdaaFx7
namespace Go.Proofs.Ytgmjgognpabmdaa.Fx
open Go Go.RowKit
set_option linter.unusedSimpArgs false
set_option linter.unusedVariables false
variable {P : Program} {T : TypeId → Option TI} {w w' : World}

/-! A cell's value as a tree. -/
mutual
def CV.view : CV → Option TV
  | .t v => some v
  | .own sz rows => match viewRows rows with
    | some r => some (.sl sz r)
    | none => none
  | .mr _ _ _ => none
  | .mp _ _ _ => none
  | .mm _ => none
  | .fnc _ _ _ => none
  | .ifc _ _ _ => none
  | .dead => none
def viewL : List CV → Option (List TV)
  | [] => some []
  | c :: r => match c.view, viewL r with
    | some v, some vs => some (v :: vs)
    | _, _ => none
def viewRows : List (List CV) → Option (List (List TV))
  | [] => some []
  | r :: rs => match viewL r, viewRows rs with
    | some v, some vs => some (v :: vs)
    | _, _ => none
end

theorem viewL_get : ∀ {l : List CV} {r : List TV}, viewL l = some r → r.length = l.length ∧ ∀ (j : Nat) (v : TV), r[j]? = some v → ∃ c, l[j]? = some c ∧ c.view = some v
  | [], r, h => by simp only [viewL, Option.some.injEq] at h; subst h; exact ⟨rfl, fun j v h => by simp at h⟩
  | c :: l, r, h => by
    simp only [viewL] at h
    split at h
    · rename_i v vs h1 h2
      obtain rfl := Option.some.inj h
      obtain ⟨h3, h4⟩ := viewL_get h2
      refine ⟨by simp [h3], fun j u hj => ?_⟩
      cases j with
      | zero => simp only [List.getElem?_cons_zero, Option.some.injEq] at hj; subst hj; exact ⟨c, rfl, h1⟩
      | succ j => simpa using h4 j u (by simpa using hj)
    · cases h

theorem viewRows_get : ∀ {l : List (List CV)} {r : List (List TV)}, viewRows l = some r → r.length = l.length ∧ ∀ (i : Nat) (v : List TV), r[i]? = some v → ∃ c, l[i]? = some c ∧ viewL c = some v
  | [], r, h => by simp only [viewRows, Option.some.injEq] at h; subst h; exact ⟨rfl, fun j v h => by simp at h⟩
  | c :: l, r, h => by
    simp only [viewRows] at h
    split at h
    · rename_i v vs h1 h2
      obtain rfl := Option.some.inj h
      obtain ⟨h3, h4⟩ := viewRows_get h2
      refine ⟨by simp [h3], fun j u hj => ?_⟩
      cases j with
      | zero => simp only [List.getElem?_cons_zero, Option.some.injEq] at hj; subst hj; exact ⟨c, rfl, h1⟩
      | succ j => simpa using h4 j u (by simpa using hj)
    · cases h

theorem viewL_up : ∀ (l : List TV), viewL (l.map CV.t) = some l
  | [] => rfl
  | v :: l => by simp [viewL, CV.view, viewL_up l]
theorem viewRows_up : ∀ (rows : List (List TV)), viewRows (up rows) = some rows
  | [] => rfl
  | r :: rs => by
    have := viewRows_up rs
    simp only [up] at this
    simp [up, viewRows, viewL_up, this]
theorem viewL_append : ∀ {l m : List CV} {a b : List TV}, viewL l = some a → viewL m = some b → viewL (l ++ m) = some (a ++ b)
  | [], m, a, b, h1, h2 => by simp only [viewL, Option.some.injEq] at h1; subst h1; simpa using h2
  | c :: l, m, a, b, h1, h2 => by
    simp only [viewL] at h1
    split at h1
    · rename_i v vs h3 h4
      obtain rfl := Option.some.inj h1
      simp [viewL, h3, viewL_append h4 h2]
    · cases h1
theorem viewRows_append : ∀ {l m : List (List CV)} {a b : List (List TV)}, viewRows l = some a → viewRows m = some b → viewRows (l ++ m) = some (a ++ b)
  | [], m, a, b, h1, h2 => by simp only [viewRows, Option.some.injEq] at h1; subst h1; simpa using h2
  | c :: l, m, a, b, h1, h2 => by
    simp only [viewRows] at h1
    split at h1
    · rename_i v vs h3 h4
      obtain rfl := Option.some.inj h1
      simp [viewRows, h3, viewRows_append h4 h2]
    · cases h1

/-- A cell's tree stands in the world, its blocks being written for good. -/
theorem CVR.view {M : Mk} {S : Nat → Prop} {c : CV} {x : Value} (h : CVR M w S c x) {hw' : Nat → Nat} (hle : ∀ b, M.hw b ≤ hw' b) (hfull : ∀ k cs el, S k → w.heap[k]? = some (.cells cs el (0, 0)) → cs.size ≤ hw' k) {v : TV} (hv : c.view = some v) : TVR hw' w v x := by
  induction h generalizing v with
  | t h => simp only [CV.view, Option.some.injEq] at hv; subst hv; exact h.mono hle fun _ _ _ _ h => h
  | nil sz a => simp only [CV.view, viewRows, Option.some.injEq] at hv; subst hv; exact .nil _ _ _
  | own sz rows b o cap cs el f g hb hg hd h0 hl hne hc hh hfit h1 h2 ih =>
    simp only [CV.view] at hv
    split at hv
    · rename_i r hr
      obtain rfl := Option.some.inj hv
      obtain ⟨hlen, hget⟩ := viewRows_get hr
      rw [← hlen]
      refine .sl sz r b o cap f h0 (fun q hq => ?_) (by rw [hlen]; exact hc) ?_ (fun i j hi hj => ?_) (fun i q j y hi hj => ?_)
      · obtain ⟨i, hi, rfl⟩ := List.mem_iff_getElem.1 hq
        obtain ⟨q2, e1, e2⟩ := hget i _ (List.getElem?_eq_getElem hi)
        rw [(viewL_get e2).1]
        exact hl q2 (List.mem_of_getElem? e1)
      · rw [hlen]
        have := Nat.mul_le_mul_right sz hc
        exact Nat.le_trans (by omega) (hfull b cs el hb hh)
      · simp only [World.cell?, hh]
        rw [hlen] at hi
        simpa using h1 i j hi hj
      · obtain ⟨q2, e1, e2⟩ := hget i q hi
        obtain ⟨c, e3, e4⟩ := (viewL_get e2).2 j y hj
        exact ih i q2 j c e1 e3 (fun k cs el hk => hfull k cs el (hg i j k hk).1) e4
    · cases hv
  | mr0 => simp [CV.view] at hv
  | mr => simp [CV.view] at hv
  | mp => simp [CV.view] at hv
  | mm => simp [CV.view] at hv
  | fnc => simp [CV.view] at hv
  | ifcA => simp [CV.view] at hv
  | ifc => simp [CV.view] at hv
  | dead => simp [CV.view] at hv

/-- What a slot holds, as a tree. -/
def viewC (heap : Nat → Option Blk) : CV → Option TV
  | .mr nm lo len => match heap nm with
    | some (.cells sz rows) => if lo + len ≤ rows.length then (match viewRows ((rows.drop lo).take len) with
      | some r => some (.sl sz r)
      | none => none) else none
    | _ => none
  | .t v => some v
  | .own sz [] => some (.sl sz [])
  | _ => none

section
variable {cx : Cx} {G : Gh} {st : St} {a : Act}

theorem viewC_ok (hR : R cx G st a w) {c : CV} {x : Value} (h : CVR G.toMk w Emp c x) {hw' : Nat → Nat} (hle : ∀ b, G.hw b ≤ hw' b) (hfull : ∀ nm blk k cs el, st.heap nm = some blk → (∃ lo len, c = .mr nm lo len) → G.reg nm k → w.heap[k]? = some (.cells cs el (0, 0)) → cs.size ≤ hw' k) {v : TV} (hv : viewC st.heap c = some v) : TVR hw' w v x := by
  unfold viewC at hv
  split at hv
  · rename_i nm lo len
    split at hv
    · rename_i sz rows hb
      split at hv
      · rename_i hcnd
        split at hv
        · rename_i r hr
          obtain rfl := Option.some.inj hv
          obtain ⟨hlen, hget⟩ := viewRows_get hr
          have hln := sub_length hcnd
          rw [hln] at hlen
          cases h with
          | mr0 =>
            obtain rfl := List.eq_nil_of_length_eq_zero hlen
            exact .nil _ _ _
          | mr _ _ _ cap p hp h1 h2 h3 h4 =>
            have hB := hR.heap nm _ hb
            simp only [BlkR, hp] at hB
            obtain ⟨b1, b2, b3, b4, b5, cs, el, b6, b7, b8, g, g1, g2, g3⟩ := hB
            have hcell : ∀ i j, i < len → j < sz → ∃ q2 c, ((rows.drop lo).take len)[i]? = some q2 ∧ q2[j]? = some c ∧ rows[lo + i]? = some q2 := by
              intro i j hi hj
              have hx : rows[lo + i]? = some (rows[lo + i]'(by omega)) := List.getElem?_eq_getElem (by omega)
              refine ⟨rows[lo + i]'(by omega), (rows[lo + i]'(by omega))[j]'(by rw [b4 _ (List.getElem_mem _)]; exact hj), ?_, List.getElem?_eq_getElem _, hx⟩
              rw [List.getElem?_take_of_lt hi, List.getElem?_drop, hx]
            rw [← hlen] at h2 ⊢
            refine .sl sz r p.b (p.o + lo * p.sz) cap (fun i j => (cs[p.o + ((lo + i) * sz + j)]?).getD undef) b3 (fun q hq => ?_) h2 ?_ (fun i j hi hj => ?_) (fun i q j y hi hj => ?_)
            · obtain ⟨i, hi, rfl⟩ := List.mem_iff_getElem.1 hq
              obtain ⟨q2, e1, e2⟩ := hget i _ (List.getElem?_eq_getElem hi)
              rw [(viewL_get e2).1]
              exact b4 q2 (List.mem_of_mem_drop (List.mem_of_mem_take (List.mem_of_getElem? e1)))
            · have e9 := hfull nm _ p.b cs el hb ⟨lo, len, rfl⟩ b5 b6
              have := Nat.mul_le_mul_right sz hcnd
              rw [Nat.add_mul] at this
              rw [b1, hlen]
              omega
            · rw [hlen] at hi
              obtain ⟨q2, c, e1, e2, e3⟩ := hcell i j hi hj
              obtain ⟨u, e4, _⟩ := g3 _ _ _ _ e3 e2
              simp only [World.cell?, b6, e4, Option.getD_some]
              rw [show p.o + lo * p.sz + (i * sz + j) = p.o + ((lo + i) * sz + j) by rw [b1, Nat.add_mul]; omega, e4]
              simp
            · obtain ⟨q2, e1, e2⟩ := hget i q hi
              obtain ⟨c, e3, e4⟩ := (viewL_get e2).2 j y hj
              obtain ⟨_, e5⟩ := sub_get hcnd e1
              obtain ⟨u, e6, e7⟩ := g3 _ _ _ _ e5 e3
              rw [e6]
              exact e7.view hle (fun k cs el hk hh => hfull nm _ k cs el hb ⟨lo, len, rfl⟩ (g1 _ _ _ hk).1 hh) e4
        · cases hv
      · cases hv
    · cases hv
  · obtain rfl := Option.some.inj hv
    exact (cv_tv h).mono hle fun _ _ _ _ h => h
  · obtain rfl := Option.some.inj hv
    obtain ⟨_, a0, rfl⟩ := cv_own h
    exact .nil _ _ _
  · cases hv
end

def TV.flat : TV → Bool
  | .sl _ rows => rows.isEmpty
  | .slx _ _ _ => false
  | _ => true
def CV.flat : CV → Bool
  | .t v => v.flat
  | .own _ rows => rows.isEmpty
  | _ => false
def AV.flat : AV → Bool
  | .v x => x.flat
  | .agg cs => cs.all CV.flat

theorem TVR.flat {v : TV} (hf : v.flat = true) {hw hw' : Nat → Nat} {x : Value} (h : TVR hw w v x) : TVR hw' w' v x := by
  cases h with
  | bool b => exact .bool b
  | int k n => exact .int k n
  | str s => exact .str s
  | nilp => exact .nilp
  | nilf => exact .nilf
  | nili => exact .nili
  | nilm => exact .nilm
  | fn f => exact .fn f
  | nil sz a cap => exact .nil sz a cap
  | sl sz rows b o cap f h0 hl hc he h1 h2 =>
    cases rows with
    | nil => exact .nil _ _ _
    | cons _ _ => simp [TV.flat] at hf
  | slx sz rows L b o cap f h0 hl hL hc he h1 h2 => simp [TV.flat] at hf

theorem CVR.flat {c : CV} (hf : c.flat = true) {M M' : Mk} {S S' : Nat → Prop} {x : Value} (h : CVR M w S c x) : CVR M' w' S' c x := by
  cases h with
  | t h => exact .t (TVR.flat hf h)
  | nil sz a => exact .nil sz a
  | own sz rows b o cap cs el f g hb hg hd h0 hl hne => cases rows <;> simp [CV.flat] at hf hne
  | _ => simp [CV.flat] at hf

theorem AVR.flat {v : AV} (hf : v.flat = true) {M M' : Mk} {x : Value} (h : AVR M w v x) : AVR M' w' v x := by
  cases v with
  | v t => exact CVR.flat hf h
  | agg cs =>
    obtain ⟨vs, rfl, hv⟩ := h
    simp only [AV.flat, List.all_eq_true] at hf
    exact ⟨vs, rfl, hv.monoMem fun c hc b hb => CVR.flat (hf c hc) hb⟩

/-- What a call answers: one value, or several. -/
def ResR (M : Mk) (w : World) (v : Value) : List AV → Prop
  | [r] => AVR M w r v
  | rs => ∃ vs : List Value, v = .tuple vs.toArray ∧ All2 (AVR M w) rs vs

theorem ResR.mono {M M' : Mk} {v : Value} {res : List AV} (hi : ∀ r ∈ res, ∀ x, AVR M w r x → AVR M' w' r x) (h : ResR M w v res) : ResR M' w' v res := by
  match res, hi, h with
  | [], hi, h => obtain ⟨us, q1, q2⟩ := h; exact ⟨us, q1, q2.monoMem fun r hr b hb => hi r hr b hb⟩
  | [r], hi, h => exact hi r (by simp) _ h
  | r :: s :: t, hi, h => obtain ⟨us, q1, q2⟩ := h; exact ⟨us, q1, q2.monoMem fun r hr b hb => hi r hr b hb⟩

def hGet : List (Nat × Blk) → Nat → Option Blk
  | [], _ => none
  | (k, v) :: r, t => if t = k then some v else hGet r t

/-- Names with their blocks, as they stand in a world. -/
structure Names (G : Gh) (w : World) (h : List (Nat × Blk)) : Prop where
  blk : ∀ nm blk, hGet h nm = some blk → BlkR G w nm blk
  reg : ∀ nm blk k, hGet h nm = some blk → G.reg nm k → G.hw k = 0 ∧ k < w.heap.size
  disj : ∀ nm nm' blk blk' k, hGet h nm = some blk → hGet h nm' = some blk' → G.reg nm k → G.reg nm' k → nm = nm'

def mineOf (G : Gh) (h : List (Nat × Blk)) (b : Nat) : Prop := ∃ nm blk, hGet h nm = some blk ∧ G.reg nm b

/-- A CONTRACT: called on these values, wherever they stand, with these names, the function answers those, with those names; other old memory stays as it is. -/
def Spec (P : Program) (f : FuncId) (args : List AV) (h : List (Nat × Blk)) (res : List AV) (h' : List (Nat × Blk)) : Prop :=
  ∀ (w : World) (G : Gh) (vals : List Value), All2 (AVR G.toMk w) args vals → Names G w h → (∀ b, w.heap.size ≤ b → G.hw b = 0) →
    Calls P f vals.toArray w fun e w' => ∃ v G', e = .returned v ∧ ResR G'.toMk w' v res ∧ Names G' w' h' ∧ (∀ nm blk k, hGet h' nm = some blk → G'.reg nm k → mineOf G h k ∨ w.heap.size ≤ k) ∧
      (∀ nm blk blk', hGet h nm = some blk → hGet h' nm = some blk' → G'.ph nm = G.ph nm) ∧ Kept (mineOf G h) w w' ∧ (∀ b, b < w.heap.size → ¬ mineOf G h b → G'.hw b = G.hw b) ∧ (∀ b, w'.heap.size ≤ b → G'.hw b = 0)

def Entered (P : Program) (f : FuncId) : Prop := ∀ args w, (callFunc f args).run P w = .ok (.enter f args) w

def resSV : List AV → SV
  | [r] => r.sv
  | rs => .tup rs

theorem resSV_q {M : Mk} {res : List AV} {v : Value} (h : ResR M w v res) : SVR M w (resSV res) v := by
  unfold resSV
  split
  · exact AV.sv_q h
  · rename_i rs hrs
    unfold ResR at h
    split at h
    · rename_i r
      exact absurd rfl (hrs r)
    · exact h
end Go.Proofs.Ytgmjgognpabmdaa.Fx
