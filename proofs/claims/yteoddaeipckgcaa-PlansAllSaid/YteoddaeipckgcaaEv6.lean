import Derived.Test.YteoddaeipckgcaaEv5
namespace Go.Proofs.Yteoddaeipckgcaa.Ev
open Go Go.RowKit
set_option linter.unusedSimpArgs false
set_option linter.unusedVariables false
variable {P : Program} {T : TypeId → Option TI}

def St.put (st : St) (d : Nat) (v : SV) : St := { st with slots := fun t => if t = d then v else st.slots t }

section
variable {n : Nat} {w0 : World} {hw0 : Nat → Nat} {G : Gh} {st : St} {a : Act} {w : World}

/-- A slot written with what may lie there. -/
theorem R.put (hR : R n w0 hw0 G st a w) {d : Nat} (hd : d < n) {sv : SV} {x : Value} (h : SVR G w w0.heap.size st.heap d sv x) : R n w0 hw0 G (st.put d sv) (a.put (some d) x) w := by
  refine { hR with tmps := ?_, defers := ?_, slots := ?_ }
  · simp [Act.put, hR.tmps]
  · simp [Act.put, hR.defers]
  · intro t
    simp only [St.put, Act.put]
    by_cases ht : t = d
    · subst ht
      rw [if_pos rfl, Array.getD_eq_getD_getElem?, Array.getElem?_setIfInBounds_self_of_lt (by rw [hR.tmps]; exact hd)]
      exact h
    · rw [if_neg ht]
      have := hR.slots t
      rw [Array.getD_eq_getD_getElem?] at this ⊢
      rw [Array.getElem?_setIfInBounds_ne (Ne.symm ht)]
      exact this

theorem R.putNone (hR : R n w0 hw0 G st a w) {x : Value} : R n w0 hw0 G st (a.put none x) w := hR

/-- A slot forgotten, or its room behind a list. -/
theorem R.weaken (hR : R n w0 hw0 G st a w) {slots' : Nat → SV} (h : ∀ t x, SVR G w w0.heap.size st.heap t (st.slots t) x → SVR G w w0.heap.size st.heap t (slots' t) x) :
    R n w0 hw0 G { st with slots := slots' } a w := { hR with slots := fun t => h t _ (hR.slots t) }

/-- What is known stays known where memory grew only: old blocks as they were, old marks as they were. -/
structure Grew (G G' : Gh) (st : St) (w w' : World) : Prop where
  below : Below w.heap.size w w'
  hw : ∀ k, k < w.heap.size → G'.hw k = G.hw k
  new : ∀ k, w'.heap.size ≤ k → G'.hw k = 0
  ph : ∀ nm blk, st.heap nm = some blk → G'.ph nm = G.ph nm
  own : ∀ k, k < w.heap.size → G'.own k = G.own k

theorem cell_lt {w : World} {b j : Nat} {u : Value} (h : w.cell? ⟨b, j, none⟩ = some u) : b < w.heap.size := World.block_lt_of_cell? w _ h

theorem block_lt {w : World} {b : Nat} {o : Obj} (h : w.heap[b]? = some o) : b < w.heap.size := (Array.getElem?_eq_some_iff.1 h).1

theorem OwnR.move {G G' : Gh} {w w' : World} {base : Nat} {loc : Loc} {sz : Nat} {rows : List (List TV)} {x : Value} (h : OwnR G w base loc sz rows x)
    (ht : TVR G.hw w (.sl sz rows) x → TVR G'.hw w' (.sl sz rows) x) (hb : ∀ b cs el, w.heap[b]? = some (.cells cs el (0, 0)) → 0 < G.hw b → G.own b = some loc → G'.hw b = G.hw b ∧ G'.own b = G.own b ∧ ∃ cs', w'.heap[b]? = some (.cells cs' el (0, 0)) ∧ cs'.size = cs.size) :
    OwnR G' w' base loc sz rows x := by
  rcases h with h | ⟨b, o, cap, cs, el, hne, rfl, hT, hhw, how, hbase, hh, hsz⟩
  · exact .inl h
  · have hpos : 0 < G.hw b := by
      cases hT with
      | nil => exact absurd rfl hne
      | sl _ _ _ _ _ f h0 hl hc he h1 h2 =>
        have : 0 < rows.length := List.length_pos_iff.2 hne
        have := Nat.mul_pos this h0
        omega
    obtain ⟨e1, e2, cs', e3, e4⟩ := hb b cs el hh hpos how
    exact .inr ⟨b, o, cap, cs', el, hne, rfl, ht hT, by rw [e1, hhw], by rw [e2, how], hbase, e3, by rw [e4]; exact hsz⟩

theorem CVR.move {G G' : Gh} {w w' : World} {base : Nat} {loc : Loc} {c : CV} {x : Value} (h : CVR G w base loc c x)
    (ht : ∀ v y, TVR G.hw w v y → TVR G'.hw w' v y) (hb : ∀ b cs el, w.heap[b]? = some (.cells cs el (0, 0)) → 0 < G.hw b → G.own b = some loc → G'.hw b = G.hw b ∧ G'.own b = G.own b ∧ ∃ cs', w'.heap[b]? = some (.cells cs' el (0, 0)) ∧ cs'.size = cs.size) :
    CVR G' w' base loc c x := by
  cases c with
  | t v => exact ht _ _ h
  | own sz rows => exact OwnR.move h (ht _ _) hb

theorem AggR.move {hw hw' : Nat → Nat} {w w' : World} (ht : ∀ v y, TVR hw w v y → TVR hw' w' v y) {c : CV} {x : Value} (h : AggR hw w c x) : AggR hw' w' c x := by
  cases c with
  | t v => exact ht _ _ h
  | own sz rows => exact h

theorem AVR.move {hw hw' : Nat → Nat} {w w' : World} (ht : ∀ v y, TVR hw w v y → TVR hw' w' v y) {c : AV} {x : Value} (h : AVR hw w c x) : AVR hw' w' c x := by
  cases c with
  | v t => exact ht _ _ h
  | agg cs => obtain ⟨vs, rfl, hv⟩ := h; exact ⟨vs, rfl, hv.mono ht⟩

/-- Memory grew. -/
theorem R.grow (hR : R n w0 hw0 G st a w) {G' : Gh} {w' : World} (hg : Grew G G' st w w') : R n w0 hw0 G' st a w' := by
  have hle : ∀ b, G.hw b ≤ G'.hw b := by
    intro b
    by_cases hb : b < w.heap.size
    · rw [hg.hw b hb]; exact Nat.le_refl _
    · rw [hR.hwNew b (by omega)]; exact Nat.zero_le _
  have hcell : ∀ b j u, w.cell? ⟨b, j, none⟩ = some u → w'.cell? ⟨b, j, none⟩ = some u := by
    intro b j u hu
    rw [World.cell?_of_block (w := w) (hg.below.block b (cell_lt hu)), hu]
  have ht : ∀ v y, TVR G.hw w v y → TVR G'.hw w' v y := fun v y h => h.mono hle fun b j u _ hu => hcell b j u hu
  have hb : ∀ loc b cs el, w.heap[b]? = some (.cells cs el (0, 0)) → 0 < G.hw b → G.own b = some loc → G'.hw b = G.hw b ∧ G'.own b = G.own b ∧ ∃ cs', w'.heap[b]? = some (.cells cs' el (0, 0)) ∧ cs'.size = cs.size :=
    fun loc b cs el h _ _ => ⟨hg.hw b (block_lt h), hg.own b (block_lt h), cs, by rw [hg.below.block b (block_lt h), h], rfl⟩
  refine { below := hR.below.trans (hg.below.mono hR.below.size), hwOld := ?_, hwNew := hg.new, tmps := hR.tmps, defers := hR.defers, slots := ?_, heap := ?_, inj := ?_ }
  · intro b hb'
    rw [hg.hw b (Nat.lt_of_lt_of_le hb' hR.below.size)]
    exact hR.hwOld b hb'
  · intro t
    have h := hR.slots t
    cases hs : st.slots t with
    | undef => trivial
    | c v => rw [hs] at h; exact CVR.move h ht (hb _)
    | agg cs => rw [hs] at h; obtain ⟨vs, h1, h2⟩ := h; exact ⟨vs, h1, h2.mono fun _ _ => AggR.move ht⟩
    | tup vs => rw [hs] at h; obtain ⟨us, h1, h2⟩ := h; exact ⟨us, h1, h2.mono fun _ _ => AVR.move ht⟩
    | fp cells =>
      rw [hs] at h
      obtain ⟨b, o, h1, h2, h3⟩ := h
      exact ⟨b, o, h1, Nat.le_trans h2 (hle b), fun j v hj => by obtain ⟨u, g1, g2⟩ := h3 j v hj; exact ⟨u, hcell _ _ _ g1, ht _ _ g2⟩⟩
    | mr nm lo len =>
      rw [hs] at h
      intro blk hblk
      obtain ⟨cap, cs, el, h1, h2, h3, h4, h5⟩ := h blk hblk
      rw [hg.ph nm blk hblk]
      exact ⟨cap, cs, el, h1, h2, by rw [hg.below.block _ (block_lt h3), h3], h4, h5⟩
    | mp nm i o =>
      rw [hs] at h
      intro blk hblk
      rw [hg.ph nm blk hblk]
      exact h blk hblk
  · intro nm blk hblk
    obtain ⟨cs, el, h1, h2, h3, h4, h5, h6, h7⟩ := hR.heap nm blk hblk
    simp only [BlkR, hg.ph nm blk hblk]
    refine ⟨cs, el, by rw [hg.below.block _ (block_lt h1), h1], by rw [hg.hw _ (block_lt h1), h2], h3, h4, h5, h6, fun i r j c hi hj => ?_⟩
    obtain ⟨x, g1, g2⟩ := h7 i r j c hi hj
    exact ⟨x, g1, CVR.move g2 ht (hb _)⟩
  · intro nm nm' blk blk' h1 h2 he
    rw [hg.ph nm blk h1, hg.ph nm' blk' h2] at he
    exact hR.inj nm nm' blk blk' h1 h2 he

/-- One block written between two places. -/
structure Wrote (b lo hi : Nat) (w w' : World) : Prop where
  os : w'.os = w.os
  tape : w'.tape = w.tape
  output : w'.output = w.output
  size : w'.heap.size = w.heap.size
  other : ∀ k, k ≠ b → w'.heap[k]? = w.heap[k]?
  block : ∀ cs el fr, w.heap[b]? = some (.cells cs el fr) → ∃ cs', w'.heap[b]? = some (.cells cs' el fr) ∧ cs'.size = cs.size ∧ ∀ j, j < lo ∨ hi ≤ j → cs'[j]? = cs[j]?

theorem Wrote.cells (b : Nat) : ∀ (vs : List Value) (o : Nat) (w : World), Wrote b o (o + vs.length) w (w.setCells b o vs)
  | [], o, w => ⟨rfl, rfl, rfl, rfl, fun _ _ => rfl, fun cs el fr h => ⟨cs, h, rfl, fun _ _ => rfl⟩⟩
  | v :: r, o, w => by
    have ih := Wrote.cells b r (o + 1) (w.setCell ⟨b, o, none⟩ v)
    refine ⟨ih.os, ih.tape, ih.output, ih.size.trans (by simp), fun k hk => (ih.other k hk).trans (Below.heap_setCell _ _ _ _ hk), fun cs el fr h => ?_⟩
    obtain ⟨cs', h1, h2, h3⟩ := ih.block (cs.setIfInBounds o v) el fr (by simp [World.setCell, Array.getElem?_modify, h])
    refine ⟨cs', h1, by simpa using h2, fun j hj => ?_⟩
    rw [h3 j (by simp at hj; omega), Array.getElem?_setIfInBounds_ne (by simp at hj; omega)]

theorem Wrote.cellKept {b lo hi : Nat} {w w' : World} (h : Wrote b lo hi w w') {k j : Nat} {u : Value} (hj : k = b → j < lo ∨ hi ≤ j) (hc : w.cell? ⟨k, j, none⟩ = some u) : w'.cell? ⟨k, j, none⟩ = some u := by
  by_cases hk : k = b
  · subst hk
    unfold World.cell? at hc
    split at hc
    · rename_i cs el fr hh
      obtain ⟨cs', h1, h2, h3⟩ := h.block cs el fr hh
      simp only [World.cell?, h1]
      simp only [Option.isSome_none, Bool.false_eq_true, if_false] at hc ⊢
      rw [h3 j (hj rfl)]; exact hc
    · cases hc
  · rw [World.cell?_of_block (w := w) (h.other k hk), hc]

theorem Wrote.below {b lo hi : Nat} {w w' : World} (h : Wrote b lo hi w w') {B : Nat} (hB : B ≤ b) : Below B w w' :=
  ⟨h.os, h.tape, h.output, by rw [h.size]; exact Nat.le_refl _, fun k hk => h.other k (by omega)⟩

/-- Written behind the mark of a block that is no name's. -/
theorem R.tail (hR : R n w0 hw0 G st a w) {b lo hi : Nat} {w' : World} (hw : Wrote b lo hi w w') (hm : G.hw b ≤ lo) (hp : 0 < G.hw b) (hbase : w0.heap.size ≤ b) : R n w0 hw0 G st a w' := by
  have hcell : ∀ k j u, j < G.hw k → w.cell? ⟨k, j, none⟩ = some u → w'.cell? ⟨k, j, none⟩ = some u := fun k j u hj hu => hw.cellKept (fun e => by subst e; omega) hu
  have ht : ∀ v y, TVR G.hw w v y → TVR G.hw w' v y := fun v y h => h.mono (fun _ => Nat.le_refl _) hcell
  have hh : ∀ (k : Nat) (cs : Array Value) (el : TypeId), w.heap[k]? = some (Obj.cells cs el (0, 0)) → ∃ cs' : Array Value, w'.heap[k]? = some (Obj.cells cs' el (0, 0)) ∧ cs'.size = cs.size := by
    intro k cs el h
    by_cases hk : k = b
    · subst hk
      obtain ⟨cs', h1, h2, _⟩ := hw.block cs el _ h
      exact ⟨cs', h1, h2⟩
    · exact ⟨cs, by rw [hw.other k hk, h], rfl⟩
  have hb : ∀ loc k cs el, w.heap[k]? = some (.cells cs el (0, 0)) → 0 < G.hw k → G.own k = some loc → G.hw k = G.hw k ∧ G.own k = G.own k ∧ ∃ cs', w'.heap[k]? = some (.cells cs' el (0, 0)) ∧ cs'.size = cs.size :=
    fun loc k cs el h _ _ => ⟨rfl, rfl, hh k cs el h⟩
  refine { below := hR.below.trans (hw.below hbase), hwOld := hR.hwOld, hwNew := fun k hk => hR.hwNew k (by rw [hw.size] at hk; exact hk), tmps := hR.tmps, defers := hR.defers, slots := ?_, heap := ?_, inj := hR.inj }
  · intro t
    have h := hR.slots t
    cases hs : st.slots t with
    | undef => trivial
    | c v => rw [hs] at h; exact CVR.move h ht (hb _)
    | agg cs => rw [hs] at h; obtain ⟨vs, h1, h2⟩ := h; exact ⟨vs, h1, h2.mono fun _ _ => AggR.move ht⟩
    | tup vs => rw [hs] at h; obtain ⟨us, h1, h2⟩ := h; exact ⟨us, h1, h2.mono fun _ _ => AVR.move ht⟩
    | fp cells =>
      rw [hs] at h
      obtain ⟨b, o, h1, h2, h3⟩ := h
      exact ⟨b, o, h1, h2, fun j v hj => by
        obtain ⟨u, g1, g2⟩ := h3 j v hj
        have := (List.getElem?_eq_some_iff.1 hj).1
        exact ⟨u, hcell _ _ _ (by omega) g1, ht _ _ g2⟩⟩
    | mr nm lo len =>
      rw [hs] at h
      intro blk hblk
      obtain ⟨cap, cs, el, h1, h2, h3, h4, h5⟩ := h blk hblk
      obtain ⟨cs', g1, g2⟩ := hh _ _ _ h3
      exact ⟨cap, cs', el, h1, h2, g1, by rw [g2]; exact h4, h5⟩
    | mp nm i o => rw [hs] at h; exact h
  · intro nm blk hblk
    obtain ⟨cs, el, h1, h2, h3, h4, h5, h6, h7⟩ := hR.heap nm blk hblk
    have hne : (G.ph nm).1 ≠ b := fun e => by rw [e] at h2; omega
    refine ⟨cs, el, by rw [hw.other _ hne, h1], h2, h3, h4, h5, h6, fun i r j c hi hj => ?_⟩
    obtain ⟨x, g1, g2⟩ := h7 i r j c hi hj
    exact ⟨x, g1, CVR.move g2 ht (hb _)⟩
end
end Go.Proofs.Yteoddaeipckgcaa.Ev
