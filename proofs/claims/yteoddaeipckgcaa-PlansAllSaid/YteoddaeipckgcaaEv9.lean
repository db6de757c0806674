import Derived.Test.YteoddaeipckgcaaEv8
namespace Go.Proofs.Yteoddaeipckgcaa.Ev
open Go Go.RowKit
set_option linter.unusedSimpArgs false
set_option linter.unusedVariables false
variable {P : Program} {T : TypeId → Option TI}
section
variable {n : Nat} {w0 : World} {hw0 : Nat → Nat} {G : Gh} {st : St} {a : Act} {w : World}

/-- The room behind a list given from one place to another. -/
theorem R.give (hR : R n w0 hw0 G st a w) {l l' : Loc} {sz : Nat} {rows : List (List TV)} {x : Value} (hx : OwnR G w w0.heap.size l sz rows x)
    (hs : ∀ t sz' rows', st.slots t = .c (.own sz' rows') → l ≠ .slot t) (hc : ∀ nm blk i r j sz rows, st.heap nm = some blk → blk.rows[i]? = some r → r[j]? = some (.own sz rows) → l ≠ .cell nm i j) :
    ∃ G', R n w0 hw0 G' st a w ∧ OwnR G' w w0.heap.size l' sz rows x ∧ G'.ph = G.ph := by
  rcases hx with h | ⟨b, o, cap, cs, el, hne, rfl, hT, hhw, how, hbase, hh, hfit⟩
  · exact ⟨G, hR, .inl h, rfl⟩
  · have hp : 0 < G.hw b := by
      have := Nat.mul_pos (List.length_pos_iff.2 hne) (hT.len.2 hne)
      omega
    have heq : (G.mark b (G.hw b) (some l')).hw = G.hw := by
      funext k; simp only [Gh.mark]; split <;> simp_all
    refine ⟨_, hR.reown (v := G.hw b) (l := some l') (Nat.le_refl _) hp hbase (block_lt hh) (fun t sz' rows' hst e => ?_) (fun nm blk i r j sz' rows' h1 h2 h3 e => ?_), .inr ⟨b, o, cap, cs, el, hne, rfl, by rw [heq]; exact hT, by rw [heq, hhw], by simp [Gh.mark], hbase, hh, hfit⟩, rfl⟩
    · rw [how] at e; injection e with e; exact hs t sz' rows' hst e
    · rw [how] at e; injection e with e; exact hc nm blk i r j sz' rows' h1 h2 h3 e

theorem dropSlot_ne (st : St) (s : Nat) (sz : Nat) (rows : List (List TV)) : (st.dropSlot s).slots s ≠ .c (.own sz rows) := by
  simp only [St.dropSlot, if_pos]
  cases st.slots s <;> simp [SV.drop]

/-- A list moved from a slot to another with the room behind it. -/
theorem R.moveSlot (hR : R n w0 hw0 G st a w) {s d : Nat} (hd : d < n) {v : CV} (hv : st.slots s = .c v) :
    ∃ G', R n w0 hw0 G' ((st.dropSlot s).put d (.c v)) (a.put (some d) (a.tmps.getD s undef)) w := by
  have hs := hR.slots s
  rw [hv] at hs
  have hR1 := hR.dropSlot s
  cases v with
  | t v => exact ⟨G, hR1.put hd hs⟩
  | own sz rows =>
    obtain ⟨G', h1, h2, _⟩ := hR1.give (l' := .slot d) hs (fun t sz' rows' h e => by injection e with e; subst e; exact dropSlot_ne _ _ _ _ h) (fun _ _ _ _ _ _ _ _ _ _ e => by cases e)
    exact ⟨G', h1.put hd h2⟩

/-- A cell of a block changed. -/
def Blk.set (blk : Blk) (i o : Nat) (cs : List CV) : Blk := { blk with rows := blk.rows.set i (lay ((blk.rows[i]?).getD []) o cs) }

theorem lay_get {zs cs : List CV} {o : Nat} (h : o + cs.length ≤ zs.length) (j : Nat) : (lay zs o cs)[j]? = if o ≤ j ∧ j < o + cs.length then cs[j - o]? else zs[j]? := by
  simp only [lay]
  by_cases h1 : j < o
  · rw [if_neg (by omega), List.append_assoc, List.getElem?_append_left (by simp; omega), List.getElem?_take_of_lt h1]
  · by_cases h2 : j < o + cs.length
    · rw [if_pos (by omega), List.append_assoc, List.getElem?_append_right (by simp; omega), List.getElem?_append_left (by simp; omega)]
      congr 1; simp; omega
    · rw [if_neg (by omega), List.append_assoc, List.getElem?_append_right (by simp; omega), List.getElem?_append_right (by simp; omega), List.getElem?_drop]
      congr 1; simp; omega

theorem lay_length {zs cs : List CV} {o : Nat} (h : o + cs.length ≤ zs.length) : (lay zs o cs).length = zs.length := by simp [lay]; omega

/-- Cells of a name's block written. -/
theorem R.store (hR : R n w0 hw0 G st a w) {nm i o : Nat} {blk : Blk} (hb : st.heap nm = some blk) {row : List CV} (hi : blk.rows[i]? = some row) {cs : List CV} {vs : List Value} (hle : o + cs.length ≤ row.length) (hlen : vs.length = cs.length)
    (hv : ∀ j c x, cs[j]? = some c → vs[j]? = some x → CVR G w w0.heap.size (.cell nm i (o + j)) c x) :
    R n w0 hw0 G { st with heap := fun k => if k = nm then some (blk.set i o cs) else st.heap k } a (w.setCells (G.ph nm).1 ((G.ph nm).2 + (i * blk.sz + o)) vs) := by
  obtain ⟨bcs, el, h1, h2, h3, h4, h5, h6, h7⟩ := hR.heap nm blk hb
  have hrl := h5 row (List.mem_of_getElem? hi)
  have hil := (List.getElem?_eq_some_iff.1 hi).1
  have hw := Wrote.cells (G.ph nm).1 vs ((G.ph nm).2 + (i * blk.sz + o)) w
  have hcell : ∀ k j u, j < G.hw k → w.cell? ⟨k, j, none⟩ = some u → (w.setCells (G.ph nm).1 ((G.ph nm).2 + (i * blk.sz + o)) vs).cell? ⟨k, j, none⟩ = some u :=
    fun k j u hj hu => hw.cellKept (fun e => by subst e; omega) hu
  have ht : ∀ v y, TVR G.hw w v y → TVR G.hw (w.setCells (G.ph nm).1 ((G.ph nm).2 + (i * blk.sz + o)) vs) v y := fun v y h => h.mono (fun _ => Nat.le_refl _) hcell
  have hh : ∀ (k : Nat) (cs : Array Value) (el : TypeId), w.heap[k]? = some (Obj.cells cs el (0, 0)) → ∃ cs' : Array Value, (w.setCells (G.ph nm).1 ((G.ph nm).2 + (i * blk.sz + o)) vs).heap[k]? = some (Obj.cells cs' el (0, 0)) ∧ cs'.size = cs.size := by
    intro k cs el h
    by_cases hk : k = (G.ph nm).1
    · subst hk
      obtain ⟨cs', g1, g2, _⟩ := hw.block cs el _ h
      exact ⟨cs', g1, g2⟩
    · exact ⟨cs, by rw [hw.other k hk, h], rfl⟩
  have hbo : ∀ loc (k : Nat) (cs : Array Value) (el : TypeId), w.heap[k]? = some (Obj.cells cs el (0, 0)) → 0 < G.hw k → G.own k = some loc →
      G.hw k = G.hw k ∧ G.own k = G.own k ∧ ∃ cs', (w.setCells (G.ph nm).1 ((G.ph nm).2 + (i * blk.sz + o)) vs).heap[k]? = some (Obj.cells cs' el (0, 0)) ∧ cs'.size = cs.size := fun loc k cs el h _ _ => ⟨rfl, rfl, hh k cs el h⟩
  refine { below := hR.below.trans (hw.below h3), hwOld := hR.hwOld, hwNew := fun k hk => hR.hwNew k (by rw [hw.size] at hk; exact hk), tmps := hR.tmps, defers := hR.defers, slots := ?_, heap := ?_, inj := ?_ }
  · intro t
    have h := hR.slots t
    cases hs : st.slots t with
    | undef => trivial
    | c v => rw [hs] at h; exact CVR.move h ht (hbo _)
    | agg cs => rw [hs] at h; obtain ⟨vs, h1, h2⟩ := h; exact ⟨vs, h1, h2.mono fun _ _ => AggR.move ht⟩
    | tup vs => rw [hs] at h; obtain ⟨us, h1, h2⟩ := h; exact ⟨us, h1, h2.mono fun _ _ => AVR.move ht⟩
    | fp cells =>
      rw [hs] at h
      obtain ⟨b, o, h1, h2, h3⟩ := h
      exact ⟨b, o, h1, h2, fun j v hj => by
        obtain ⟨u, g1, g2⟩ := h3 j v hj
        have := (List.getElem?_eq_some_iff.1 hj).1
        exact ⟨u, hcell _ _ _ (by omega) g1, ht _ _ g2⟩⟩
    | mr k lo len =>
      rw [hs] at h
      intro blk' hblk
      simp only at hblk
      by_cases hk : k = nm
      · subst hk
        rw [if_pos rfl] at hblk
        obtain rfl := Option.some.inj hblk
        obtain ⟨cap, cs, el, h1, h2, h3, h4, h5⟩ := h blk hb
        obtain ⟨cs', g1, g2⟩ := hh _ _ _ h3
        exact ⟨cap, cs', el, by simpa [Blk.set] using h1, h2, g1, by rw [g2]; exact h4, h5⟩
      · rw [if_neg hk] at hblk
        obtain ⟨cap, cs, el, h1, h2, h3, h4, h5⟩ := h blk' hblk
        obtain ⟨cs', g1, g2⟩ := hh _ _ _ h3
        exact ⟨cap, cs', el, h1, h2, g1, by rw [g2]; exact h4, h5⟩
    | mp k i' o' =>
      rw [hs] at h
      intro blk' hblk
      simp only at hblk
      by_cases hk : k = nm
      · subst hk
        rw [if_pos rfl] at hblk
        obtain rfl := Option.some.inj hblk
        exact h blk hb
      · rw [if_neg hk] at hblk
        exact h blk' hblk
  · intro k blk' hblk
    simp only at hblk
    by_cases hk : k = nm
    · subst hk
      rw [if_pos rfl] at hblk
      obtain rfl := Option.some.inj hblk
      obtain ⟨cs', g1, g2, g3⟩ := hw.block bcs el _ h1
      have hlay : ∀ r ∈ (blk.set i o cs).rows, r.length = blk.sz := by
        intro r hr
        simp only [Blk.set, hi, Option.getD_some] at hr
        rcases List.mem_or_eq_of_mem_set hr with hr | rfl
        · exact h5 r hr
        · rw [lay_length hle, hrl]
      refine ⟨cs', el, g1, h2, h3, h4, hlay, by simpa [Blk.set, g2] using h6, ?_⟩
      intro i' r j c hi' hj
      have hin := World.cell?_setCells_in (G.ph k).1 vs ((G.ph k).2 + (i * blk.sz + o)) w (by
        intro j' hj'
        simp only [World.cell?, h1]
        have := row_lt (j := o + j') hil (show o + j' < blk.sz by omega)
        simp
        omega)
      have hcs : ∀ j' x, (w.setCells (G.ph k).1 ((G.ph k).2 + (i * blk.sz + o)) vs).cell? ⟨(G.ph k).1, j', none⟩ = some x → cs'[j']? = some x := by
        intro j' x hx
        simp only [World.cell?, g1] at hx
        simpa using hx
      have hcv : ∀ loc c x, CVR G w w0.heap.size loc c x → CVR G (w.setCells (G.ph k).1 ((G.ph k).2 + (i * blk.sz + o)) vs) w0.heap.size loc c x := fun loc c x h => CVR.move h ht (hbo _)
      by_cases hii : i' = i
      · subst hii
        have hr : r = lay row o cs := by
          simp only [Blk.set, hi, Option.getD_some, List.getElem?_set_self hil] at hi'
          exact (Option.some.inj hi').symm
        subst hr
        rw [lay_get hle] at hj
        by_cases hjj : o ≤ j ∧ j < o + cs.length
        · rw [if_pos hjj] at hj
          have hjv : j - o < vs.length := by omega
          refine ⟨vs[j - o], hcs _ _ ?_, hcv _ _ _ ?_⟩
          · have := hin (j - o) hjv
            rw [show (G.ph k).2 + (i' * blk.sz + o) + (j - o) = (G.ph k).2 + (i' * blk.sz + j) by omega] at this
            exact this
          · have := hv (j - o) c _ hj (List.getElem?_eq_getElem hjv)
            rw [show o + (j - o) = j by omega] at this
            exact this
        · rw [if_neg hjj] at hj
          obtain ⟨x, q1, q2⟩ := h7 i' row j c hi hj
          exact ⟨x, by show cs'[_]? = _; rw [g3 _ (by rw [hlen]; have : blk.sz = (blk.set i' o cs).sz := rfl; simp only [Blk.set]; omega)]; exact q1, hcv _ _ _ q2⟩
      · have hr : blk.rows[i']? = some r := by
          simp only [Blk.set] at hi'
          rw [List.getElem?_set_ne (Ne.symm hii)] at hi'
          exact hi'
        obtain ⟨x, q1, q2⟩ := h7 i' r j c hr hj
        have hjl := (List.getElem?_eq_some_iff.1 hj).1
        rw [h5 r (List.mem_of_getElem? hr)] at hjl
        refine ⟨x, ?_, hcv _ _ _ q2⟩
        show cs'[(G.ph k).2 + (i' * blk.sz + j)]? = _
        rw [g3 _ ?_]
        · exact q1
        · rw [hlen]
          rcases Nat.lt_or_ge i' i with hlt | hge
          · have := Nat.mul_le_mul_right blk.sz (show i' + 1 ≤ i by omega)
            rw [Nat.succ_mul] at this
            left; omega
          · have := Nat.mul_le_mul_right blk.sz (show i + 1 ≤ i' by omega)
            rw [Nat.succ_mul] at this
            right; omega
    · rw [if_neg hk] at hblk
      obtain ⟨cs, el, g1, g2, g3, g4, g5, g6, g7⟩ := hR.heap k blk' hblk
      have hne : (G.ph k).1 ≠ (G.ph nm).1 := fun e => hk (hR.inj k nm blk' blk hblk hb e)
      refine ⟨cs, el, by rw [hw.other _ hne, g1], g2, g3, g4, g5, g6, fun i r j c hi hj => ?_⟩
      obtain ⟨x, q1, q2⟩ := g7 i r j c hi hj
      exact ⟨x, q1, CVR.move q2 ht (hbo _)⟩
  · intro k k' bl bl' e1 e2 he
    simp only at e1 e2
    have : ∀ k bl, (if k = nm then some (blk.set i o cs) else st.heap k) = some bl → ∃ bl', st.heap k = some bl' := by
      intro k bl h
      split at h
      · rename_i hk; subst hk; exact ⟨blk, hb⟩
      · exact ⟨bl, h⟩
    obtain ⟨q1, r1⟩ := this k bl e1
    obtain ⟨q2, r2⟩ := this k' bl' e2
    exact hR.inj k k' q1 q2 r1 r2 he
end
end Go.Proofs.Yteoddaeipckgcaa.Ev
