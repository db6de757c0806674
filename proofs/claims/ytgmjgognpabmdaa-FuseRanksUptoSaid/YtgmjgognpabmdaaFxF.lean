/- The evaluator's second make: a list written for good. -/
import Derived.Test.YtgmjgognpabmdaaFxM
namespace Go.Proofs.Ytgmjgognpabmdaa.Fx
open Go Go.RowKit
set_option linter.unusedSimpArgs false
set_option linter.unusedVariables false
variable {P : Program} {T : TypeId → Option TI} {w w' : World}
section
variable {cx : Cx} {G : Gh} {st : St} {a : Act}
/-! A name's block, written for good. -/
def CV.frz (nm sz : Nat) (rows : List (List TV)) (c : CV) : CV :=
  match c with
  | .t v => .t v
  | .own s [] => .own s []
  | .mr k lo len => if k = nm then (if lo + len ≤ rows.length then .t (.sl sz ((rows.drop lo).take len)) else .dead) else .mr k lo len
  | .mp k i o => if k = nm then .dead else .mp k i o
  | .mm k => if k = nm then .dead else .mm k
  | c => if c.has nm = true then .dead else c
def SV.frz (nm sz : Nat) (rows : List (List TV)) : SV → SV
  | .undef => .undef
  | .c v => .c (v.frz nm sz rows)
  | .agg cs => .agg (cs.map (CV.frz nm sz rows))
  | .tup vs => if hasA nm vs = true then .undef else .tup vs
  | .fp cs => .fp cs
def St.freeze (st : St) (nm sz : Nat) (rows : List (List TV)) : St := { slots := fun t => (st.slots t).frz nm sz rows, heap := fun k => if k = nm then none else st.heap k }

theorem viewRows_sub {rows : List (List CV)} {trows : List (List TV)} (h : viewRows rows = some trows) (lo len : Nat) : viewRows ((rows.drop lo).take len) = some ((trows.drop lo).take len) := by
  have hd : ∀ (lo : Nat) (rows : List (List CV)) (trows : List (List TV)), viewRows rows = some trows → viewRows (rows.drop lo) = some (trows.drop lo) := by
    intro lo
    induction lo with
    | zero => intro rows trows h; simpa using h
    | succ lo ih =>
      intro rows trows h
      cases rows with
      | nil => simp only [viewRows, Option.some.injEq] at h; subst h; rfl
      | cons r rs =>
        simp only [viewRows] at h
        split at h
        · rename_i v vs h1 h2
          obtain rfl := Option.some.inj h
          simpa using ih rs vs h2
        · cases h
  have ht : ∀ (len : Nat) (rows : List (List CV)) (trows : List (List TV)), viewRows rows = some trows → viewRows (rows.take len) = some (trows.take len) := by
    intro len
    induction len with
    | zero => intro rows trows h; rfl
    | succ len ih =>
      intro rows trows h
      cases rows with
      | nil => simp only [viewRows, Option.some.injEq] at h; subst h; rfl
      | cons r rs =>
        simp only [viewRows] at h
        split at h
        · rename_i v vs h1 h2
          obtain rfl := Option.some.inj h
          simp [viewRows, h1, ih rs vs h2]
        · cases h
  exact ht len _ _ (hd lo _ _ h)

theorem R.freeze (hR : R cx G st a w) {nm sz : Nat} {rows : List (List CV)} {trows : List (List TV)} (hb : st.heap nm = some (.cells sz rows)) (hv : viewRows rows = some trows) : ∃ G', R cx G' (st.freeze nm sz trows) a w := by
  classical
  let hw' : Nat → Nat := fun b => if G.reg nm b then fullHw G w b else G.hw b
  have hle : ∀ b, G.hw b ≤ hw' b := by
    intro b
    show _ ≤ if _ then _ else _
    split
    · exact fullHw_le _ _ _
    · exact Nat.le_refl _
  have hln := (viewRows_get hv).1
  refine ⟨⟨⟨hw', G.ph⟩, G.reg⟩, ?_⟩
  refine hR.change (fun b => G.reg nm b) (fun k => k = nm) (fun b h => ⟨nm, _, rfl, hb, h⟩) (Kept.refl _ _) (fun b _ ho => if_neg ho) (fun b hb' => ?_) ?_ (fun k h => absurd rfl h) ?_ ?_ ?_ (fun _ _ => rfl) hR.tmps hR.defers
  · show (if _ then _ else _) = 0
    split
    · exact fullHw_new _ _ hb' (hR.hwNew b hb')
    · exact hR.hwNew b hb'
  · intro k blk hD hk
    simp only [St.freeze, if_neg hD] at hk
    exact ⟨hk, rfl, fun _ => Iff.rfl⟩
  · intro k blk hD hk
    subst hD
    simp [St.freeze] at hk
  · intro k k' blk blk' b hD hD' hk
    subst hD
    simp [St.freeze] at hk
  · intro t hs
    have ht : ∀ v y, TVR G.hw w v y → TVR hw' w v y := fun v y h => h.mono hle fun _ _ _ _ h => h
    have hcv : ∀ (c : CV) (x : Value), CVR G.toMk w Emp c x → CVR (⟨hw', G.ph⟩ : Mk) w Emp (c.frz nm sz trows) x := by
      intro c x h
      have hmv : CVR (⟨hw', G.ph⟩ : Mk) w Emp c x := CVR.move h ht (fun _ h => h.elim) (fun _ _ => rfl)
      unfold CV.frz
      split
      · exact hmv
      · exact hmv
      · split
        · rename_i lo len hk
          subst hk
          split
          · rename_i hle2
            refine .t (viewC_ok hR h (hw' := hw') hle (fun nm' blk k cs el h1 h2 h3 h4 => ?_) ?_)
            · obtain ⟨_, _, h2⟩ := h2
              injection h2 with h2
              subst h2
              show _ ≤ if _ then _ else _
              rw [if_pos h3]
              unfold fullHw; rw [h4]; exact Nat.le_max_right _ _
            · simp only [viewC, hb]
              rw [if_pos (by omega), viewRows_sub hv]
          · exact .dead _
        · exact hmv
      · split
        · exact .dead _
        · exact hmv
      · split
        · exact .dead _
        · exact hmv
      · split
        · exact .dead _
        · exact hmv
    simp only [St.freeze]
    cases hst : st.slots t with
    | undef => trivial
    | c c => rw [hst] at hs; exact hcv c _ hs
    | agg cs =>
      rw [hst] at hs
      obtain ⟨us, h1, h2⟩ := hs
      exact ⟨us, h1, All2.map_left (h2.mono hcv)⟩
    | tup vs =>
      rw [hst] at hs
      simp only [SV.frz]
      split
      · trivial
      · obtain ⟨us, h1, h2⟩ := hs
        exact ⟨us, h1, h2.mono fun _ _ h => AVR.move (M := G.toMk) (M' := ⟨hw', G.ph⟩) h ht fun _ _ => rfl⟩
    | fp cs =>
      rw [hst] at hs
      exact SVR.move (M := G.toMk) (M' := ⟨hw', G.ph⟩) (s := .fp cs) hs hle (fun _ _ _ _ h => h) (fun _ _ => rfl)
theorem cfrz_id {c : CV} {d sz : Nat} {rows : List (List TV)} (h : c.has d = false) : c.frz d sz rows = c := by
  unfold CV.frz
  split
  · rfl
  · rfl
  · rw [if_neg]; intro e; subst e; simp [CV.has] at h
  · rw [if_neg]; intro e; subst e; simp [CV.has] at h
  · rw [if_neg]; intro e; subst e; simp [CV.has] at h
  · rw [h]; rfl
theorem sfrz_id {s : SV} {d sz : Nat} {rows : List (List TV)} (h : s.has d = false) : s.frz d sz rows = s := by
  cases s with
  | undef => rfl
  | c v => simp only [SV.frz]; rw [cfrz_id h]
  | agg cs =>
    simp only [SV.frz]
    congr 1
    have : ∀ l : List CV, hasL d l = false → l.map (CV.frz d sz rows) = l := by
      intro l
      induction l with
      | nil => intro _; rfl
      | cons c r ih =>
        intro h
        simp only [hasL, Bool.or_eq_false_iff] at h
        rw [List.map_cons, cfrz_id h.1, ih h.2]
    exact this cs h
  | tup vs => simp only [SV.frz]; rw [if_neg]; simpa [SV.has] using h
  | fp cs => rfl
theorem kill_has {s : SV} {d : Nat} : (s.kill d).has d = false := by
  unfold SV.kill
  split
  · rfl
  · rename_i h; simpa using h
theorem kill_id {s : SV} {d : Nat} (h : s.has d = false) : s.kill d = s := by unfold SV.kill; rw [if_neg]; simpa using h
def CV.leaf : CV → Bool
  | .t _ => true
  | _ => false
def leafRows (rows : List (List CV)) : Bool := rows.all (·.all CV.leaf)
theorem leaf_up (rows : List (List TV)) : leafRows (up rows) = true := by
  simp [leafRows, up, CV.leaf]
theorem leaf_has {d : Nat} : ∀ {rows : List (List CV)}, leafRows rows = true → hasRows d rows = false := by
  have h1 : ∀ c : CV, c.leaf = true → c.has d = false := fun c h => by cases c <;> first | rfl | (simp [CV.leaf] at h; done)
  have h2 : ∀ l : List CV, l.all CV.leaf = true → hasL d l = false := by
    intro l
    induction l with
    | nil => intro _; rfl
    | cons c r ih =>
      intro h
      simp only [List.all_cons, Bool.and_eq_true] at h
      simp only [hasL, h1 c h.1, ih h.2, Bool.or_self]
  intro rows
  induction rows with
  | nil => intro _; rfl
  | cons r rs ih =>
    intro h
    unfold leafRows at h ih
    simp only [List.all_cons, Bool.and_eq_true] at h
    simp only [hasRows, h2 r h.1, ih h.2, Bool.or_self]
/-- A list just grown, written for good: its name is left with nothing. -/
theorem R.give_tree {nm : Option Nat} {d sz : Nat} {rows : List (List CV)} {trows : List (List TV)} (hR : R cx G ((st.give nm d (.cells sz rows)).put d (.c (.mr d 0 rows.length))) a w) (hdn : d < cx.n) (hv : viewRows rows = some trows) (hf : Fresh2 st nm d) :
    ∃ G', R cx G' ((st.give nm d (.cells sz [])).put d (.c (.t (.sl sz trows)))) a w := by
  obtain ⟨G1, hR1⟩ := hR.freeze (nm := d) (sz := sz) (rows := rows) (trows := trows) (by simp [St.put, St.give]) hv
  obtain ⟨G2, hR2, hph, hhw, hoth⟩ := hR1.give (w' := w) (nm := none) (d := d) (blk := .cells sz []) hdn none Emp (fun _ h => by cases h) (Kept.refl _ _) (fun k blk h1 _ h2 => by
    simp only [St.freeze, St.put, St.give, if_neg h1] at h2
    by_cases hk : nm = some k
    · rw [if_pos hk] at h2; cases h2
    · rw [if_neg hk] at h2; exact hf k blk h1 hk h2) rfl (fun _ h => h.elim) (fun G' _ e2 _ _ => by simp only [BlkR, e2])
  have hln := (viewRows_get hv).1
  have hh : ∀ k, ((st.give nm d (.cells sz [])).put d (.c (.t (.sl sz trows)))).heap k = (St.give (St.freeze ((st.give nm d (.cells sz rows)).put d (.c (.mr d 0 rows.length))) d sz trows) none d (.cells sz [])).heap k := fun k => by
    simp only [St.put, St.give, St.freeze]
    split <;> rfl
  refine ⟨G2, { hR2 with slots := fun t => ?_, heap := fun k blk h => hR2.heap k blk (by rw [← hh]; exact h), reg := fun k blk j h => hR2.reg k blk j (by rw [← hh]; exact h), disj := fun k k' b b' j h h' => hR2.disj k k' b b' j (by rw [← hh]; exact h) (by rw [← hh]; exact h') }⟩
  have h1 := hR2.slots t
  simp only [St.put, St.give, St.freeze] at h1 ⊢
  by_cases ht : t = d
  · rw [if_pos ht] at h1 ⊢
    have e1 : (SV.frz d sz trows (.c (.mr d 0 rows.length))).kill d = .c (.t (.sl sz trows)) := by
      simp only [SV.frz, CV.frz, if_pos, Nat.zero_add]
      rw [if_pos (by omega), List.drop_zero, List.take_of_length_le (by omega)]
      rfl
    rw [e1] at h1
    exact h1
  · rw [if_neg ht] at h1 ⊢
    rw [sfrz_id kill_has, kill_id kill_has] at h1
    exact h1
end
end Go.Proofs.Ytgmjgognpabmdaa.Fx
