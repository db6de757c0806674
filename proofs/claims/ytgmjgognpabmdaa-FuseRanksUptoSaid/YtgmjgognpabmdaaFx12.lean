/- The evaluator's second make: what is known, turned. -/
import Derived.Test.YtgmjgognpabmdaaFx11
namespace Go.Proofs.Ytgmjgognpabmdaa.Fx
open Go Go.RowKit
set_option linter.unusedSimpArgs false
set_option linter.unusedVariables false
variable {P : Program} {T : TypeId → Option TI} {w w' : World}

/-- Only some slots and names kept. -/
def St.keep (st : St) (ts ns : List Nat) : St := { slots := fun t => if t ∈ ts then st.slots t else .undef, heap := fun k => if k ∈ ns then st.heap k else none }

section
variable {cx : Cx} {G : Gh} {st : St} {a : Act} {n : Nat}

theorem R.keep (hR : R cx G st a w) (ts ns : List Nat) : R cx G (st.keep ts ns) a w := by
  have hh : ∀ k b, (st.keep ts ns).heap k = some b → st.heap k = some b := by
    intro k b h
    simp only [St.keep] at h
    split at h
    · exact h
    · cases h
  refine { hR with slots := ?_, heap := fun k b h => hR.heap k b (hh k b h), reg := fun k b j h => hR.reg k b j (hh k b h), disj := fun k k' b b' j h h' => hR.disj k k' b b' j (hh k b h) (hh k' b' h') }
  intro t
  simp only [St.keep]
  split
  · exact hR.slots t
  · trivial

theorem gho_keep (ts ns : List Nat) : Gho n st (st.keep ts ns) := fun cx G a w _ hR => ⟨G, hR.keep ts ns⟩

theorem gho_freeze {nm sz : Nat} {rows : List (List CV)} {trows : List (List TV)} (hb : st.heap nm = some (.cells sz rows)) (hv : viewRows rows = some trows) : Gho n st (st.freeze nm sz trows) := fun cx G a w _ hR => hR.freeze hb hv

/-! A list that is none, with a name. -/
def St.nilName (st : St) (s d sz : Nat) : St := { slots := fun t => if t = s then .c (.mr d 0 0) else (st.slots t).kill d, heap := fun k => if k = d then some (.cells sz []) else st.heap k }

theorem R.nilName (hR : R cx G st a w) {s d sz : Nat} (hd : d < cx.n) (hs : ∃ sz', st.slots s = .c (.own sz' [])) (hf : Fresh st d) : ∃ G', R cx G' (st.nilName s d sz) a w := by
  obtain ⟨sz', hs⟩ := hs
  obtain ⟨G', hR', hph, hhw, hoth⟩ := hR.give (w' := w) (nm := none) (d := d) (blk := .cells sz []) hd none Emp (fun _ h => by cases h) (Kept.refl _ _) (fun k blk h1 _ h2 => hf k blk h1 h2) rfl (fun _ h => h.elim) (fun G' _ e2 _ _ => by simp only [BlkR, e2])
  refine ⟨G', { hR' with slots := fun t => ?_, heap := fun k blk h => hR'.heap k blk ?_, reg := fun k blk j h => hR'.reg k blk j ?_, disj := fun k k' b b' j h h' => hR'.disj k k' b b' j ?_ ?_ }⟩
  · simp only [St.nilName]
    split
    · rename_i e
      subst e
      have h1 := hR.slots t
      rw [hs] at h1
      obtain ⟨_, a0, hx⟩ := cv_own h1
      rw [hx]
      exact CVR.mr0 _ _ _
    · exact hR'.slots t
  · simpa [St.give, St.nilName] using h
  · simpa [St.give, St.nilName] using h
  · simpa [St.give, St.nilName] using h
  · simpa [St.give, St.nilName] using h'

theorem gho_nilName {s d sz : Nat} (hd : d < n) (hs : ∃ sz', st.slots s = .c (.own sz' [])) (hf : Fresh st d) : Gho n st (st.nilName s d sz) := fun cx G a w hn hR => hR.nilName (by rw [hn]; exact hd) hs hf

/-! A list in a cell: with a name of its own, or held by the cell. -/
def St.fold (st : St) (k i j nm : Nat) (sz : Nat) (rows : List (List CV)) (c : CV) : St := { slots := st.slots, heap := fun t => if t = k then some (.cells sz (rows.modify i (·.set j c))) else if t = nm then none else st.heap t }

theorem R.fold (hR : R cx G st a w) {k i j nm sz sz' : Nat} {rows rows' : List (List CV)} {row : List CV} (hne : k ≠ nm) (hk : st.heap k = some (.cells sz rows)) (hn : st.heap nm = some (.cells sz' rows')) (hi : rows[i]? = some row) (hj : row[j]? = some (.mr nm 0 rows'.length)) (hr : rows' ≠ []) :
    ∃ G', R cx G' (st.fold k i j nm sz rows (.own sz' rows')) a w := by
  have hkk := hR.heap k _ hk
  have hnn := hR.heap nm _ hn
  have hrne : rows ≠ [] := by rintro rfl; simp at hi
  simp only [BlkR] at hkk
  cases hp : G.ph k with
  | none => rw [hp] at hkk; exact absurd hkk hrne
  | some p =>
    rw [hp] at hkk
    obtain ⟨b1, b2, b3, b4, b5, cs, el, b6, b7, b8, g, g1, g2, g3⟩ := hkk
    obtain ⟨x, hx, hcx⟩ := g3 i row j _ hi hj
    have hdj : ∀ b, G.reg k b → G.reg nm b → False := fun b h1 h2 => hne (hR.disj k nm _ _ b hk hn h1 h2)
    -- the cell's list, as held
    have hown : CVR G.toMk w (G.reg nm) (.own sz' rows') x := by
      generalize hL : rows'.length = L at hcx
      cases hcx with
      | mr0 => exact absurd (List.eq_nil_of_length_eq_zero hL) hr
      | mr _ _ _ cap q hq h1 h2 h3 h4 =>
        simp only [BlkR, hq] at hnn
        obtain ⟨d1, d2, d3, d4, d5, ks, el', d6, d7, d8, g', e1, e2, e3⟩ := hnn
        have h00 : q.o + 0 * q.sz = q.o := by simp
        rw [h00]
        rw [← hL]
        have hcell : ∀ i j, i < rows'.length → j < sz' → ∃ c r, rows'[i]? = some r ∧ r[j]? = some c := fun i j hi hj => ⟨_, _, List.getElem?_eq_getElem hi, List.getElem?_eq_getElem (by rw [d4 _ (List.getElem_mem hi)]; exact hj)⟩
        refine .own sz' rows' q.b q.o cap ks el' (fun i j => (ks[q.o + (i * sz' + j)]?).getD undef) g' d5 (fun i j b hb => ⟨(e1 i j b hb).1, (e1 i j b hb).2⟩) e2 d3 d4 hr (by rw [hL]; exact h2) d6 (by rw [d7, ← d1]; simpa using h4) (fun i j hi hj => ?_) (fun i r j c hi hj => ?_)
        · obtain ⟨c, r, q1, q2⟩ := hcell i j hi hj
          obtain ⟨u, q3, _⟩ := e3 i r j c q1 q2
          rw [q3]; rfl
        · obtain ⟨u, q3, q4⟩ := e3 i r j c hi hj
          rw [q3]; exact q4
    refine ⟨⟨G.toMk, fun t b => if t = k then G.reg k b ∨ G.reg nm b else G.reg t b⟩, ?_⟩
    refine hR.change (fun b => G.reg k b ∨ G.reg nm b) (fun t => t = k ∨ t = nm) ?_ (Kept.refl _ _) (fun _ _ _ => rfl) hR.hwNew ?_ (fun t h => absurd rfl h) ?_ ?_ (fun t h => h) (fun _ _ => rfl) hR.tmps hR.defers
    · rintro b (h | h)
      · exact ⟨k, _, .inl rfl, hk, h⟩
      · exact ⟨nm, _, .inr rfl, hn, h⟩
    · intro t blk hD hb
      have h1 : t ≠ k := fun e => hD (.inl e)
      have h2 : t ≠ nm := fun e => hD (.inr e)
      simp only [St.fold, if_neg h1, if_neg h2] at hb
      exact ⟨hb, rfl, fun b => by simp [h1]⟩
    · intro t blk hD hb
      have htk : t = k := by
        rcases hD with h | h
        · exact h
        · subst h
          simp [St.fold, Ne.symm hne] at hb
      subst htk
      simp only [St.fold, if_pos] at hb
      obtain rfl := Option.some.inj hb
      refine ⟨?_, fun b hb' => ?_⟩
      · simp only [BlkR, hp]
        refine ⟨b1, by simpa using b2, b3, modify_rows b4, by simp only [if_true]; exact .inl b5, cs, el, b6, b7, by simpa using b8, fun i' j' b => (i' = i ∧ j' = j ∧ G.reg nm b) ∨ (¬ (i' = i ∧ j' = j) ∧ g i' j' b), ?_, ?_, ?_⟩
        · rintro i' j' b (⟨_, _, h⟩ | ⟨_, h⟩)
          · simp only [if_true]
            exact ⟨.inr h, fun e => by subst e; exact hdj _ b5 h⟩
          · simp only [if_true]
            exact ⟨.inl (g1 _ _ _ h).1, (g1 _ _ _ h).2⟩
        · rintro i1 j1 i2 j2 b (⟨q1, q2, q3⟩ | ⟨q1, q2⟩) (⟨r1, r2, r3⟩ | ⟨r1, r2⟩)
          · exact ⟨q1.trans r1.symm, q2.trans r2.symm⟩
          · exact (hdj b (g1 _ _ _ r2).1 q3).elim
          · exact (hdj b (g1 _ _ _ q2).1 r3).elim
          · exact g2 _ _ _ _ _ q2 r2
        · intro i' r j' c hi' hj'
          rcases modify_get hi hi' hj' with ⟨rfl, rfl, rfl⟩ | ⟨hno, r0, q1, q2, _⟩
          · exact ⟨x, hx, hown.wide fun b hb => .inl ⟨rfl, rfl, hb⟩⟩
          · obtain ⟨u, q3, q4⟩ := g3 i' r0 j' c q1 q2
            exact ⟨u, q3, q4.wide fun b hb => .inr ⟨hno, hb⟩⟩
      · simp only [if_true] at hb'
        have hreg : G.hw b = 0 ∧ b < w.heap.size := by
          rcases hb' with h | h
          · exact ⟨(hR.reg _ _ b hk h).1, (hR.reg _ _ b hk h).2.2⟩
          · exact ⟨(hR.reg _ _ b hn h).1, (hR.reg _ _ b hn h).2.2⟩
        exact ⟨hreg.1, hreg.2, .inl hb'⟩
    · intro t t' blk blk' b hD hD' hb hb' _ _
      have : ∀ s bl, (s = k ∨ s = nm) → (st.fold k i j nm sz rows (.own sz' rows')).heap s = some bl → s = k := by
        intro s bl hs hbl
        rcases hs with h | h
        · exact h
        · subst h; simp [St.fold, Ne.symm hne] at hbl
      rw [this t blk hD hb, this t' blk' hD' hb']

theorem gho_fold {k i j nm sz sz' : Nat} {rows rows' : List (List CV)} {row : List CV} (hne : k ≠ nm) (hk : st.heap k = some (.cells sz rows)) (hn : st.heap nm = some (.cells sz' rows')) (hi : rows[i]? = some row) (hj : row[j]? = some (.mr nm 0 rows'.length)) (hr : rows' ≠ []) :
    Gho n st (st.fold k i j nm sz rows (.own sz' rows')) := fun cx G a w _ hR => hR.fold hne hk hn hi hj hr

theorem gho_unfold {k i j nm sz sz' : Nat} {rows rows' : List (List CV)} {row : List CV} (hd : nm < n) (hne : k ≠ nm) (hk : st.heap k = some (.cells sz rows)) (hi : rows[i]? = some row) (hj : row[j]? = some (.own sz' rows')) (hf : Fresh st nm) (hf2 : (Blk.cells sz' rows').has nm = false) :
    Gho n st (st.unfold k i j nm sz rows sz' rows') := fun cx G a w hn hR => hR.unfold (by rw [hn]; exact hd) hne hk hi hj hf hf2
end
end Go.Proofs.Ytgmjgognpabmdaa.Fx
