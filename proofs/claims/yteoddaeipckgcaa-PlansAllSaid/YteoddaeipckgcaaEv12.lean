import Derived.Test.YteoddaeipckgcaaEv11
namespace Go.Proofs.Yteoddaeipckgcaa.Ev
open Go Go.RowKit
set_option linter.unusedSimpArgs false
set_option linter.unusedVariables false
variable {P : Program} {T : TypeId → Option TI}
section
variable {n : Nat} {w0 : World} {hw0 : Nat → Nat} {G : Gh} {st : St} {a : Act} {w : World} {E : Env}

theorem one_row {R : CV → Value → Prop} {cs : List CV} {vs : Array Value} (h : All2 R cs vs.toList) : ∀ i r j c, ([cs] : List (List CV))[i]? = some r → r[j]? = some c → ∃ x, vs[i * cs.length + j]? = some x ∧ R c x := by
  intro i r j c hi hj
  cases i with
  | zero =>
    simp at hi; subst hi
    obtain ⟨x, q1, q2⟩ := h.get _ _ hj
    exact ⟨x, by simpa using q1, q2⟩
  | succ i => simp at hi

theorem alloc_ok (hT : TOk P T) (hR : R n w0 hw0 G st a w) {o : Oper} {t : TypeId} (ho : o.op = .alloc t) {ti : TI} (ht : T t = some ti) (h0 : 0 < ti.zero.length) {K : St → Prop} {Q : Exit → Act → World → Prop}
    (h : nameK n o.dst ⟨ti.zero.length, [ti.zero]⟩ (.mp · 0 0) K st) : o.wp P a w (Post n w0 hw0 K) Q := by
  obtain ⟨info, z, hi, hsz, hby, hz, hzr, _⟩ := (hT _ _ ht).info
  have hzr' : All2 (AggR G.hw w) ti.zero z.cells.toList := hzr.mono fun _ _ => zero_agg
  have hl := All2.toList hzr'
  have hrun : (execOp a.eval o).run P w = .ok (.value (.pointer (some ⟨w.heap.size, 0, none⟩))) (w.alloc (.cells z.cells t (0, 0))) := by
    simp only [execOp, ho]
    simp [Instr.alloc, zeroValue, typeInfo, hi, hz, newVar, newRow]
  exact Oper.wp_value hrun (nameK_ok hR h h0 (fun r hr => by simp at hr; rw [hr]) (by simp [hl]) (one_row hzr') (fun d G' hph blk hb => by
    simp only [if_pos] at hb
    obtain rfl := Option.some.inj hb
    rw [hph d]; simp))

theorem box_ok (hT : TOk P T) (hR : R n w0 hw0 G st a w) {o : Oper} {t : TypeId} {x : Operand} (ho : o.op = .box t x) {cs : List CV} (hc : cells (rd T st t x) = some cs) (h0 : 0 < cs.length) {K : St → Prop} {Q : Exit → Act → World → Prop}
    (h : nameK n o.dst ⟨cs.length, [cs]⟩ (.mp · 0 0) K st) : o.wp P a w (Post n w0 hw0 K) Q := by
  have hcr := cells_q (rd_q (T := T) hR t x) hc
  have hl := All2.toList hcr
  have hrun : (execOp a.eval o).run P w = .ok (.value (.pointer (some ⟨w.heap.size, 0, none⟩))) (w.alloc (.cells (a.eval x).cells t (0, 0))) := by
    simp only [execOp, ho]
    simp [Instr.box, newVar, newRow]
  exact Oper.wp_value hrun (nameK_ok hR h h0 (fun r hr => by simp at hr; rw [hr]) (by simp [hl]) (one_row hcr) (fun d G' hph blk hb => by
    simp only [if_pos] at hb
    obtain rfl := Option.some.inj hb
    rw [hph d]; simp))

theorem moveTake_ok (hR : R n w0 hw0 G st a w) {o : Oper} {s d : Nat} (ho : o.op = .move (.tmp s) ∨ o.op = .assign (.tmp s)) (hd : o.dst = some d) (hn : d < n) {c : CV} (hc : st.slots s = .c c) {K : St → Prop} {Q : Exit → Act → World → Prop}
    (h : K ((st.dropSlot s).put d (.c c))) : o.wp P a w (Post n w0 hw0 K) Q := by
  obtain ⟨G', hR'⟩ := hR.moveSlot hn hc
  have hrun : (execOp a.eval o).run P w = .ok (.value (a.tmps.getD s undef)) w := by
    rcases ho with ho | ho <;> (simp only [execOp, ho]; rfl)
  refine Oper.wp_value hrun ?_
  rw [hd]
  exact ⟨G', _, hR', h⟩

theorem loadTake_ok (hT : TOk P T) (hR : R n w0 hw0 G st a w) {o : Oper} {t : TypeId} {x : Operand} {d : Nat} (ho : o.op = .load t x) (hd : o.dst = some d) (hn : d < n) {ti : TI} (ht : T t = some ti) (ha : ti.k.isAgg = false) {nm i o0 : Nat} (hx : rd T st 0 x = .mp nm i o0)
    {blk : Blk} (hb : st.heap nm = some blk) {row : List CV} (hi : blk.rows[i]? = some row) {c : CV} (hc : row[o0]? = some c) {K : St → Prop} {Q : Exit → Act → World → Prop}
    (h : K (({ st with heap := fun k => if k = nm then some (blk.set i o0 [.t c.tv]) else st.heap k } : St).put d (.c c))) : o.wp P a w (Post n w0 hw0 K) Q := by
  have hq := rd_q (T := T) hR 0 x
  rw [hx] at hq
  have hxe := hq 0 blk hb
  obtain ⟨u, hu, hcu⟩ := blk_cell hR hb hi o0 0 c (by rw [List.getElem?_drop]; simpa using hc)
  simp only [Nat.add_zero] at hu hcu
  have hrun : (execOp a.eval o).run P w = .ok (.value u) w := by
    simp only [execOp, ho]
    refine run_value _ _ _ ?_
    rw [hxe]
    simp [Instr.loadAt, Instr.sureAddr, loadVar, run_agg (hT _ _ ht), ha, hu]
  refine Oper.wp_value hrun ?_
  rw [hd]
  have hil := (List.getElem?_eq_some_iff.1 hi).1
  have hol := (List.getElem?_eq_some_iff.1 hc).1
  -- the cell told without its room: the world as it is
  have hcs : ∀ j c', (lay row o0 [.t c.tv])[j]? = some c' → (j = o0 ∧ c' = .t c.tv) ∨ (j ≠ o0 ∧ row[j]? = some c') := by
    intro j c' hj
    rw [lay_get (by simp; omega)] at hj
    by_cases hjo : j = o0
    · subst hjo
      rw [if_pos (by simp)] at hj
      simp at hj
      exact .inl ⟨rfl, hj.symm⟩
    · rw [if_neg (by simp; omega)] at hj
      exact .inr ⟨hjo, hj⟩
  have hR1 : R n w0 hw0 G { st with heap := fun k => if k = nm then some (blk.set i o0 [.t c.tv]) else st.heap k } a w := by
    refine { hR with slots := ?_, heap := ?_, inj := ?_ }
    · intro t'
      have hs := hR.slots t'
      cases hst : st.slots t' with
      | mr k lo len =>
        rw [hst] at hs
        intro blk' hblk
        simp only at hblk
        by_cases hk : k = nm
        · subst hk
          rw [if_pos rfl] at hblk
          obtain rfl := Option.some.inj hblk
          obtain ⟨cap, cs, el, h1, h2, h3, h4, h5⟩ := hs blk hb
          exact ⟨cap, cs, el, by simpa [Blk.set] using h1, h2, h3, h4, h5⟩
        · rw [if_neg hk] at hblk
          exact hs blk' hblk
      | mp k i' o' =>
        rw [hst] at hs
        intro blk' hblk
        simp only at hblk
        by_cases hk : k = nm
        · subst hk
          rw [if_pos rfl] at hblk
          obtain rfl := Option.some.inj hblk
          exact hs blk hb
        · rw [if_neg hk] at hblk
          exact hs blk' hblk
      | _ => rw [hst] at hs; exact hs
    · intro k blk' hblk
      simp only at hblk
      by_cases hk : k = nm
      · subst hk
        rw [if_pos rfl] at hblk
        obtain rfl := Option.some.inj hblk
        obtain ⟨cs, el, h1, h2, h3, h4, h5, h6, h7⟩ := hR.heap k blk hb
        refine ⟨cs, el, h1, h2, h3, h4, ?_, by simpa [Blk.set] using h6, ?_⟩
        · intro r hr
          simp only [Blk.set, hi, Option.getD_some] at hr
          rcases List.mem_or_eq_of_mem_set hr with hr | rfl
          · exact h5 r hr
          · rw [lay_length (by simp; omega)]; exact h5 row (List.mem_of_getElem? hi)
        · intro i' r j c' hi' hj
          by_cases hii : i' = i
          · subst hii
            simp only [Blk.set, hi, Option.getD_some, List.getElem?_set_self hil] at hi'
            obtain rfl := Option.some.inj hi'
            rcases hcs j c' hj with ⟨rfl, rfl⟩ | ⟨_, hj'⟩
            · obtain ⟨x', q1, q2⟩ := h7 i' row _ c hi hc
              exact ⟨x', q1, q2.tree⟩
            · exact h7 i' row j c' hi hj'
          · simp only [Blk.set] at hi'
            rw [List.getElem?_set_ne (Ne.symm hii)] at hi'
            exact h7 i' r j c' hi' hj
      · rw [if_neg hk] at hblk
        exact hR.heap k blk' hblk
    · intro k k' bl bl' e1 e2 he
      have : ∀ k bl, (if k = nm then some (blk.set i o0 [.t c.tv]) else st.heap k) = some bl → ∃ bl', st.heap k = some bl' := by
        intro k bl h
        split at h
        · rename_i hk; subst hk; exact ⟨blk, hb⟩
        · exact ⟨bl, h⟩
      obtain ⟨q1, r1⟩ := this k bl e1
      obtain ⟨q2, r2⟩ := this k' bl' e2
      exact hR.inj k k' q1 q2 r1 r2 he
  cases c with
  | t v => exact ⟨G, _, hR1.put (sv := .c (.t v)) hn hcu, h⟩
  | own sz rows =>
    obtain ⟨G', g1, g2, _⟩ := hR1.give (l' := .slot d) hcu (fun _ _ _ _ e => by cases e) (fun nm' blk' i' r' j' sz' rows' e1 e2 e3 e => by
      injection e with q1 q2 q3
      subst q1 q2 q3
      simp only [if_pos] at e1
      obtain rfl := Option.some.inj e1
      simp only [Blk.set, hi, Option.getD_some, List.getElem?_set_self hil] at e2
      obtain rfl := Option.some.inj e2
      rcases hcs _ _ e3 with ⟨_, h9⟩ | ⟨h9, _⟩
      · cases h9
      · exact h9 rfl)
    exact ⟨G', _, g1.put (sv := .c (.own sz rows)) hn g2, h⟩

/-- The cells of a variable stored. -/
theorem storeVar_run (hT : TOk P T) {t : TypeId} {ti : TI} (ht : T t = some ti) {b o : Nat} {v : Value} (hsz : v.cells.size = ti.size) (hc : ∀ j, j < v.cells.size → (w.cell? ⟨b, o + j, none⟩).isSome = true) (hf : ∀ j, j < v.cells.size → w.frozen? ⟨b, o + j, none⟩ = false)
    (h1 : ∀ u ∈ v.cells.toList, u.oneCell' = true) : (storeVar t ⟨b, o, none⟩ v).run P w = .ok () (w.setCells b o v.cells.toList) := by
  have := run_storeCells_cells (P := P) b o v.cells.toList 0 w (by simpa using hc) (by simpa using hf) h1
  simp only [Nat.add_zero] at this
  simp [storeVar, run_size (hT _ _ ht), hsz, this]

theorem aggr_one {hw : Nat → Nat} {c : CV} {x : Value} (h : AggR hw w c x) : x.oneCell' = true := by
  cases c with
  | t v => exact TVR.oneCell h
  | own sz rows => obtain ⟨_, rfl⟩ := h; rfl

theorem store_ok (hT : TOk P T) (hR : R n w0 hw0 G st a w) {o : Oper} {t : TypeId} {x v : Operand} (ho : o.op = .store t x v) (hd : o.dst = none) {ti : TI} (ht : T t = some ti) {nm i o0 : Nat} (hx : rd T st 0 x = .mp nm i o0) {cs : List CV} (hv : cells (rd T st t v) = some cs)
    {blk : Blk} (hb : st.heap nm = some blk) {row : List CV} (hi : blk.rows[i]? = some row) (hl : cs.length = ti.size) (hle : o0 + cs.length ≤ row.length) {K : St → Prop} {Q : Exit → Act → World → Prop} :
    (K { st with heap := fun k => if k = nm then some (blk.set i o0 cs) else st.heap k } → o.wp P a w (Post n w0 hw0 K) Q) ∧
    (∀ s c, v = .tmp s → st.slots s = .c c → K { (st.dropSlot s) with heap := fun k => if k = nm then some (blk.set i o0 [c]) else st.heap k } → o.wp P a w (Post n w0 hw0 K) Q) := by
  have hq := rd_q (T := T) hR 0 x
  rw [hx] at hq
  have hxe := hq 0 blk hb
  have hcr := cells_q (rd_q (T := T) hR t v) hv
  have hcl := All2.toList hcr
  obtain ⟨bcs, el, g1, g2, g3, g4, g5, g6, g7⟩ := hR.heap nm blk hb
  have hrl := g5 row (List.mem_of_getElem? hi)
  have hil := (List.getElem?_eq_some_iff.1 hi).1
  have hrun : (execOp a.eval o).run P w = .ok .skip (w.setCells (G.ph nm).1 ((G.ph nm).2 + (i * blk.sz + o0)) (a.eval v).cells.toList) := by
    simp only [execOp, ho]
    have := storeVar_run (w := w) hT ht (b := (G.ph nm).1) (o := (G.ph nm).2 + (i * blk.sz + o0)) (v := a.eval v) (by rw [← hcl, hl]) (fun j hj => by
        have := row_lt (j := o0 + j) hil (show o0 + j < blk.sz by omega)
        simp only [World.cell?, g1]
        simp
        omega) (fun j hj => by simp [World.frozen?, g1]) (fun u hu => by
        obtain ⟨k, hk⟩ := List.getElem?_of_mem hu
        have : k < cs.length := by rw [hcr.length]; exact (List.getElem?_eq_some_iff.1 hk).1
        obtain ⟨y, q1, q2⟩ := hcr.get k _ (List.getElem?_eq_getElem this)
        rw [hk] at q1
        obtain rfl := Option.some.inj q1
        exact aggr_one q2)
    rw [hxe]
    simp [Instr.storeAt, Instr.sureAddr, this]
  constructor
  · intro hK
    refine Oper.wp_skip hrun ?_
    rw [hd]
    refine ⟨G, _, hR.store hb hi hle (by simpa using hcl.symm) (fun j c y hj hy => ?_), hK⟩
    obtain ⟨y', q1, q2⟩ := hcr.get j c hj
    rw [hy] at q1
    obtain rfl := Option.some.inj q1
    cases c with
    | t v => exact q2
    | own sz rows => exact .inl q2
  · intro s c hvs hsc hK
    refine Oper.wp_skip hrun ?_
    rw [hd]
    subst hvs
    have hsv := hR.slots s
    rw [hsc] at hsv
    have hcs : cs = [.t c.tv] := by
      simp only [rd, hsc, SV.drop, cells, Option.some.injEq] at hv
      exact hv.symm
    subst hcs
    have hvc : (a.eval (.tmp s)).cells.toList = [a.tmps.getD s undef] := by
      obtain ⟨q1, q2⟩ := (show All2 (AggR G.hw w) [CV.t c.tv] (a.eval (.tmp s)).cells.toList from hcr).get 0 _ rfl
      have h1 : (a.tmps.getD s undef).oneCell' = true := by
        cases c with
        | t v => exact TVR.oneCell hsv
        | own sz rows => exact (OwnR.tree hsv).oneCell
      show (a.tmps.getD s undef).cells.toList = _
      generalize a.tmps.getD s undef = z at h1
      cases z <;> first | rfl | (simp [Value.oneCell'] at h1)
    rw [hvc]
    cases c with
    | t v =>
      have hR1 := (hR.dropSlot s).store (cs := [.t v]) hb hi hle (vs := [a.tmps.getD s undef]) rfl (fun j c' y hj hy => by
        cases j with
        | zero => obtain rfl := Option.some.inj hj; obtain rfl := Option.some.inj hy; exact hsv
        | succ j => simp at hj)
      exact ⟨G, _, hR1, hK⟩
    | own sz rows =>
      obtain ⟨G', k1, k2, k3⟩ := (hR.dropSlot s).give (l' := .cell nm i o0) hsv (fun t' sz' rows' h e => by injection e with e; subst e; exact dropSlot_ne _ _ _ _ h) (fun _ _ _ _ _ _ _ _ _ _ e => by cases e)
      have hR1 := k1.store (cs := [.own sz rows]) hb hi hle (vs := [a.tmps.getD s undef]) rfl (fun j c' y hj hy => by
        cases j with
        | zero => obtain rfl := Option.some.inj hj; obtain rfl := Option.some.inj hy; exact k2
        | succ j => simp at hj)
      rw [k3] at hR1
      exact ⟨G', _, hR1, hK⟩
end
end Go.Proofs.Yteoddaeipckgcaa.Ev
