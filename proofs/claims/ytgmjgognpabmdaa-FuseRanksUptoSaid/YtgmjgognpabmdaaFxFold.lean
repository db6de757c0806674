/- A list in a cell, held by the cell, whether it is empty or not. -/
import Derived.Test.YtgmjgognpabmdaaFxTree
namespace Go.Proofs.Ytgmjgognpabmdaa.Fx
open Go Go.RowKit
set_option maxRecDepth 100000
set_option linter.unusedSimpArgs false
set_option linter.unusedVariables false
/-- What a cell holds that alone leads to a list. -/
def lcell (sz : Nat) (rows : List (List CV)) : CV := if rows = [] then .t (.sl sz []) else .own sz rows
theorem lcell_cons (sz : Nat) (r : List CV) (rows : List (List CV)) : lcell sz (r :: rows) = .own sz (r :: rows) := rfl
theorem lcell_nil (sz : Nat) : lcell sz [] = .t (.sl sz []) := rfl
theorem lcell_own {sz : Nat} {rows : List (List CV)} (h : rows ≠ []) : lcell sz rows = .own sz rows := if_neg h
variable {cx : Cx} {G : Gh} {st : St} {a : Act} {n : Nat} {w : World}
theorem R.foldL (hR : R cx G st a w) {k i j nm sz sz' : Nat} {rows rows' : List (List CV)} {row : List CV} (hne : k ≠ nm) (hk : st.heap k = some (.cells sz rows)) (hn : st.heap nm = some (.cells sz' rows')) (hi : rows[i]? = some row) (hj : row[j]? = some (.mr nm 0 rows'.length)) :
    ∃ G', R cx G' (st.fold k i j nm sz rows (lcell sz' rows')) a w := by
  by_cases hr : rows' = []
  case neg => rw [lcell_own hr]; exact hR.fold hne hk hn hi hj hr
  rw [lcell, if_pos hr]
  generalize hc0 : CV.t (.sl sz' []) = c
  have hkk := hR.heap k _ hk
  have hrne : rows ≠ [] := by rintro rfl; simp at hi
  simp only [BlkR] at hkk
  cases hp : G.ph k with
  | none => rw [hp] at hkk; exact absurd hkk hrne
  | some p =>
    rw [hp] at hkk
    obtain ⟨b1, b2, b3, b4, b5, cs, el, b6, b7, b8, g, g1, g2, g3⟩ := hkk
    obtain ⟨x, hx, hcx⟩ := g3 i row j _ hi hj
    have hdj : ∀ b, G.reg k b → G.reg nm b → False := fun b h1 h2 => hne (hR.disj k nm _ _ b hk hn h1 h2)
    have hown : CVR G.toMk w (G.reg nm) c x := by
      subst hr; subst hc0
      simp only [List.length_nil] at hcx
      cases hcx with
      | mr0 => exact .t (.nil _ _ _)
      | mr => exact .t (.nil _ _ _)
    refine ⟨⟨G.toMk, fun t b => if t = k then G.reg k b ∨ G.reg nm b else G.reg t b⟩, ?_⟩
    refine hR.change (fun b => G.reg k b ∨ G.reg nm b) (fun t => t = k ∨ t = nm) ?_ (Kept.refl _ _) (fun _ _ _ => rfl) hR.hwNew ?_ (fun t h => absurd rfl h) ?_ ?_ (fun t h => h) (fun _ _ => rfl) hR.tmps hR.defers
    · rintro b (h | h)
      · exact ⟨k, _, .inl rfl, hk, h⟩
      · exact ⟨nm, _, .inr rfl, hn, h⟩
    · intro t blk hD hb
      have h1 : t ≠ k := fun e => hD (.inl e)
      have h2 : t ≠ nm := fun e => hD (.inr e)
      simp only [St.fold, if_neg h1, if_neg h2] at hb
      exact ⟨hb, rfl, fun b => by simp [h1]⟩
    · intro t blk hD hb
      have htk : t = k := by
        rcases hD with h | h
        · exact h
        · subst h
          simp [St.fold, Ne.symm hne] at hb
      subst htk
      simp only [St.fold, if_pos] at hb
      obtain rfl := Option.some.inj hb
      refine ⟨?_, fun b hb' => ?_⟩
      · simp only [BlkR, hp]
        refine ⟨b1, by simpa using b2, b3, modify_rows b4, by simp only [if_true]; exact .inl b5, cs, el, b6, b7, by simpa using b8, fun i' j' b => (i' = i ∧ j' = j ∧ G.reg nm b) ∨ (¬ (i' = i ∧ j' = j) ∧ g i' j' b), ?_, ?_, ?_⟩
        · rintro i' j' b (⟨_, _, h⟩ | ⟨_, h⟩)
          · simp only [if_true]
            exact ⟨.inr h, fun e => by subst e; exact hdj _ b5 h⟩
          · simp only [if_true]
            exact ⟨.inl (g1 _ _ _ h).1, (g1 _ _ _ h).2⟩
        · rintro i1 j1 i2 j2 b (⟨q1, q2, q3⟩ | ⟨q1, q2⟩) (⟨r1, r2, r3⟩ | ⟨r1, r2⟩)
          · exact ⟨q1.trans r1.symm, q2.trans r2.symm⟩
          · exact (hdj b (g1 _ _ _ r2).1 q3).elim
          · exact (hdj b (g1 _ _ _ q2).1 r3).elim
          · exact g2 _ _ _ _ _ q2 r2
        · intro i' r j' c' hi' hj'
          rcases modify_get hi hi' hj' with ⟨rfl, rfl, rfl⟩ | ⟨hno, r0, q1, q2, _⟩
          · exact ⟨x, hx, hown.wide fun b hb => .inl ⟨rfl, rfl, hb⟩⟩
          · obtain ⟨u, q3, q4⟩ := g3 i' r0 j' c' q1 q2
            exact ⟨u, q3, q4.wide fun b hb => .inr ⟨hno, hb⟩⟩
      · simp only [if_true] at hb'
        have hreg : G.hw b = 0 ∧ b < w.heap.size := by
          rcases hb' with h | h
          · exact ⟨(hR.reg _ _ b hk h).1, (hR.reg _ _ b hk h).2.2⟩
          · exact ⟨(hR.reg _ _ b hn h).1, (hR.reg _ _ b hn h).2.2⟩
        exact ⟨hreg.1, hreg.2, .inl hb'⟩
    · intro t t' blk blk' b hD hD' hb hb' _ _
      have : ∀ s bl, (s = k ∨ s = nm) → (st.fold k i j nm sz rows c).heap s = some bl → s = k := by
        intro s bl hs hbl
        rcases hs with h | h
        · exact h
        · subst h; simp [St.fold, Ne.symm hne] at hbl
      rw [this t blk hD hb, this t' blk' hD' hb']

theorem gho_foldL {k i j nm sz sz' : Nat} {rows rows' : List (List CV)} {row : List CV} (hne : k ≠ nm) (hk : st.heap k = some (.cells sz rows)) (hn : st.heap nm = some (.cells sz' rows')) (hi : rows[i]? = some row) (hj : row[j]? = some (.mr nm 0 rows'.length)) :
    Gho n st (st.fold k i j nm sz rows (lcell sz' rows')) := fun cx G a w _ hR => hR.foldL hne hk hn hi hj
theorem lcell_view {sz : Nat} {rows : List (List CV)} {r : List (List TV)} (h : viewRows rows = some r) : (lcell sz rows).view = some (.sl sz r) := by
  unfold lcell
  split
  · rename_i e; subst e; simp [viewRows] at h; subst h; rfl
  · simp only [CV.view, h]
theorem lcell_has {sz nm : Nat} {rows : List (List TV)} : (lcell sz (up rows)).has nm = false := by
  unfold lcell
  split
  · rfl
  · simp only [CV.has]; exact hasRows_up _ _
/-- Lists in cells, each held by its cell. -/
def lrows (sz : Nat) (ls : List (List (List TV))) : List (List CV) := ls.map fun l => [lcell sz (up l)]
theorem lrows_view (sz : Nat) (ls : List (List (List TV))) : viewRows (lrows sz ls) = some (ls.map fun l => [.sl sz l]) := by
  induction ls with
  | nil => rfl
  | cons a t ih =>
    have h1 : viewL [lcell sz (up a)] = some [TV.sl sz a] := by simp only [viewL, lcell_view (viewRows_up a)]
    have h2 : viewRows (lrows sz t) = some (t.map fun l => [.sl sz l]) := ih
    simp only [lrows, List.map_cons, viewRows]
    rw [h1]
    simp only [lrows] at h2
    rw [h2]
theorem lrows_has {sz nm : Nat} {ls : List (List (List TV))} : hasRows nm (lrows sz ls) = false := by
  induction ls with
  | nil => rfl
  | cons a t ih =>
    simp only [lrows, List.map_cons, hasRows, hasL, lcell_has, Bool.or_self, Bool.false_or] at ih ⊢
    exact ih
theorem lrows_length {sz : Nat} {ls : List (List (List TV))} : (lrows sz ls).length = ls.length := by simp [lrows]
/-- A list in a cell of a list just built, held by the cell: ahead of an operation. -/
theorem s_fold {E : Env} {T : TypeId → Option TI} {K : St → Prop} {ds : List (Option Nat)} {o : Oper} {l : List Oper} {ls : List (Nat × SV)} {hs : List (Nat × Blk)} (k i nm : Nat) {sz sz' : Nat} {rows rows' : List (List CV)} {row : List CV}
    (hk : hL hs k = some (.cells sz rows)) (hi : rows[i]? = some row) (hj : row[0]? = some (.mr nm 0 rows'.length)) (hn : hL hs nm = some (.cells sz' rows')) (hne : k ≠ nm)
    (hx : wpS E T n ds (o :: l) K (mk ls (ins k (.cells sz (rows.modify i (·.set 0 (lcell sz' rows')))) (del nm hs)))) : wpS E T n ds (o :: l) K (mk ls hs) := by
  refine s_ghost _ (gho_foldL (k := k) (i := i) (j := 0) (nm := nm) (sz := sz) (sz' := sz') (rows := rows) (rows' := rows') (row := row) hne (by rw [mk_heap, hk]) (by rw [mk_heap, hn]) hi hj) ?_
  rw [mk_fold]; exact hx
/-- A list just built, written for good. -/
theorem s_frz {E : Env} {T : TypeId → Option TI} {K : St → Prop} {ds : List (Option Nat)} {o : Oper} {l : List Oper} {ls : List (Nat × SV)} {hs : List (Nat × Blk)} (nm : Nat) {sz : Nat} {rows : List (List CV)} {trows : List (List TV)}
    (hb : hL hs nm = some (.cells sz rows)) (hv : viewRows rows = some trows) (hx : wpS E T n ds (o :: l) K (mk (mapV (SV.frz nm sz trows) ls) (del nm hs))) : wpS E T n ds (o :: l) K (mk ls hs) := by
  refine s_ghost _ (gho_freeze (nm := nm) (sz := sz) (rows := rows) (trows := trows) (by rw [mk_heap, hb]) hv) ?_
  rw [mk_freeze]; exact hx
end Go.Proofs.Ytgmjgognpabmdaa.Fx
