import Derived.Test.YteoddaeipckgcaaEv4
namespace Go.Proofs.Yteoddaeipckgcaa.Ev
open Go Go.RowKit
set_option linter.unusedSimpArgs false
set_option linter.unusedVariables false
variable {P : Program} {T : TypeId → Option TI}

theorem AV.sv_q {G : Gh} {w : World} {base : Nat} {heap : Nat → Option Blk} {v : AV} {x : Value} (h : AVR G.hw w v x) : Q G w base heap v.sv x := by
  cases v with
  | v t => exact Q.tv.2 h
  | agg cs => obtain ⟨vs, rfl, hv⟩ := h; exact fun _ => ⟨vs, rfl, All2.map_left hv⟩

theorem run_value' (s : Sem Value) (x : Value) (w w' : World) (h : s.run P w = .ok x w') : ((do pure (Next.value (← s))) : Sem Next).run P w = .ok (.value x) w' := by
  simp [h]

theorem run_value (s : Sem Value) (x : Value) (w : World) (h : s.run P w = .ok x w) : ((do pure (Next.value (← s))) : Sem Next).run P w = .ok (.value x) w := by
  simp [h]

section
variable {n : Nat} {w0 : World} {hw0 : Nat → Nat} {G : Gh} {st : St} {a : Act} {w : World}

theorem kind_slice (hT : TOk P T) {t : TypeId} {ti : TI} {e : TypeId} (ht : T t = some ti) (hk : ti.k = .slice e) : P.underlying t = some (.slice e) := by
  obtain ⟨d, hd, hf⟩ := (hT _ _ ht).kind
  simp only [hk, TK.fits] at hf; subst hf; exact hd

theorem kind_struct (hT : TOk P T) {t : TypeId} {ti : TI} {fs : List (TypeId × Nat)} (ht : T t = some ti) (hk : ti.k = .struct fs) {f : Nat} {ft : TypeId} {off : Nat} (hf : fs[f]? = some (ft, off)) :
    ∃ (fields : Array Field) (fl : Field), P.underlying t = some (.struct fields) ∧ fields[f]? = some fl ∧ fl.type = ft ∧ fl.offset = off := by
  obtain ⟨d, hd, hft⟩ := (hT _ _ ht).kind
  simp only [hk, TK.fits] at hft
  obtain ⟨fields, rfl, hfs, _⟩ := hft
  rw [← hfs, List.getElem?_map] at hf
  cases hff : fields.toList[f]? with
  | none => simp [hff] at hf
  | some fl =>
    simp only [hff, Option.map_some, Option.some.injEq, Prod.mk.injEq] at hf
    exact ⟨fields, fl, hd, by simpa using hff, hf.1, hf.2⟩

theorem kind_arr (hT : TOk P T) {t : TypeId} {ti : TI} {m : Nat} {e : TypeId} (ht : T t = some ti) (hk : ti.k = .arr m e) : P.underlying t = some (.array m e) := by
  obtain ⟨d, hd, hf⟩ := (hT _ _ ht).kind
  simp only [hk, TK.fits] at hf; subst hf; exact hd

theorem kind_str (hT : TOk P T) {t : TypeId} {ti : TI} (ht : T t = some ti) (hk : ti.k = .str) : P.underlying t = some .string := by
  obtain ⟨d, hd, hf⟩ := (hT _ _ ht).kind
  simp only [hk, TK.fits] at hf; subst hf; exact hd

theorem kind_int (hT : TOk P T) {t : TypeId} {ti : TI} {k : IntKind} (ht : T t = some ti) (hk : ti.k = .int k) : P.underlying t = some (.int k) := by
  obtain ⟨d, hd, hf⟩ := (hT _ _ ht).kind
  simp only [hk, TK.fits] at hf; subst hf; exact hd

/-- A list of cells in the world. -/
theorem load_agg {R : TV → Value → Prop} {w : World} {b o : Nat} {cs : List TV} {m : Nat} (hm : m ≤ cs.length) (h : ∀ j v, cs[j]? = some v → ∃ u, w.cell? ⟨b, o + j, none⟩ = some u ∧ R v u) :
    ∃ us : List Value, (loadCells ⟨b, o, none⟩ m).run P w = .ok us.toArray w ∧ All2 R (cs.take m) us := by
  refine ⟨(List.range m).map fun j => (w.cell? ⟨b, o + j, none⟩).getD undef, run_loadCells w _ m _ (fun j hj => ?_), All2.of_get (by simp [hm]) ?_⟩
  · obtain ⟨u, hu, _⟩ := h j cs[j] (List.getElem?_eq_getElem (by omega))
    rw [add_at, hu]; rfl
  · intro i x y hx hy
    have hi : i < m := by
      have := (List.getElem?_eq_some_iff.1 hx).1
      simp at this; omega
    rw [List.getElem?_take_of_lt hi] at hx
    obtain ⟨u, hu, hr⟩ := h i x hx
    rw [List.getElem?_map, List.getElem?_range hi] at hy
    simp only [Option.map_some, Option.some.injEq, hu, Option.getD_some] at hy
    exact hy ▸ hr

theorem load_ok (hT : TOk P T) {t : TypeId} {ti : TI} (ht : T t = some ti) {R : TV → Value → Prop} {w : World} {b o : Nat} {cs : List TV} (h : ∀ j v, cs[j]? = some v → ∃ u, w.cell? ⟨b, o + j, none⟩ = some u ∧ R v u) :
    (ti.k.isAgg = true → ti.size ≤ cs.length → ∃ us : List Value, (loadVar t ⟨b, o, none⟩).run P w = .ok (.agg us.toArray) w ∧ All2 R (cs.take ti.size) us) ∧
    (ti.k.isAgg = false → ∀ v, cs[0]? = some v → ∃ u, (loadVar t ⟨b, o, none⟩).run P w = .ok u w ∧ R v u) := by
  constructor
  · intro ha hs
    obtain ⟨us, hl, hr⟩ := load_agg (P := P) hs h
    exact ⟨us, by simp [loadVar, run_agg (hT _ _ ht), ha, run_size (hT _ _ ht), hl], hr⟩
  · intro ha v hv
    obtain ⟨u, hu, hr⟩ := h 0 v hv
    exact ⟨u, by simp only [loadVar, run_agg (hT _ _ ht), ha, Sem.run_bind, Result.andThen_ok, Bool.false_eq_true, if_false]; simp only [Nat.add_zero] at hu; simp [hu], hr⟩

theorem blk_cell (hR : R n w0 hw0 G st a w) {nm : Nat} {blk : Blk} (hb : st.heap nm = some blk) {i : Nat} {row : List CV} (hi : blk.rows[i]? = some row) (o0 : Nat) :
    ∀ j c, (row.drop o0)[j]? = some c → ∃ u, w.cell? ⟨(G.ph nm).1, (G.ph nm).2 + (i * blk.sz + o0) + j, none⟩ = some u ∧ CVR G w w0.heap.size (.cell nm i (o0 + j)) c u := by
  intro j c hc
  rw [List.getElem?_drop] at hc
  obtain ⟨cs, el, hh, _, _, _, _, _, hcell⟩ := hR.heap nm blk hb
  obtain ⟨x, hx, hr⟩ := hcell i row _ _ hi hc
  refine ⟨x, ?_, hr⟩
  simp only [World.cell?, hh]
  rw [show (G.ph nm).2 + (i * blk.sz + o0) + j = (G.ph nm).2 + (i * blk.sz + (o0 + j)) by omega, hx]
  simp

theorem tvr_slice {hw : Nat → Nat} {w : World} {sz sz' : Nat} {rows : List (List TV)} {a0 : Option Addr} {cap l h : Nat} (hr : TVR hw w (.sl sz rows) (.slice a0 rows.length cap)) (h1 : l ≤ h) (h2 : h ≤ rows.length) (hs : sz' = sz) :
    TVR hw w (.sl sz ((rows.take h).drop l)) (.slice (if cap = l then a0 else a0.map (·.add (l * sz'))) (h - l) (cap - l)) := by
  subst hs
  by_cases he : h = l
  · subst he
    rw [List.drop_of_length_le (by simp; omega), Nat.sub_self]
    exact .nil _ _ _
  · generalize hn : rows.length = len at hr
    cases hr with
    | nil sz a cap => simp at h2; omega
    | sl _ _ b o cap f h0 hl hc he' g1 g2 =>
      rw [if_neg (by omega)]
      have e1 : ((rows.take h).drop l).length = h - l := by simp; omega
      rw [← e1]
      simp only [Option.map_some, add_at]
      refine .sl _ _ _ _ _ (fun i j => f (l + i) j) h0 (fun r hr => hl r (List.mem_of_mem_take (List.mem_of_mem_drop hr))) (by rw [e1]; omega) ?_ ?_ ?_
      · rw [e1]
        have e2 : l * sz' + (h - l) * sz' ≤ rows.length * sz' := by rw [← Nat.add_mul]; exact Nat.mul_le_mul_right _ (by omega)
        omega
      · intro i j hi hj
        rw [e1] at hi
        have := g1 (l + i) j (by omega) hj
        rw [Nat.add_mul] at this
        rw [show o + l * sz' + (i * sz' + j) = o + (l * sz' + i * sz' + j) by omega]
        exact this
      · intro i r j x hi hj
        rw [List.getElem?_drop] at hi
        have hlt : l + i < h := by
          have := (List.getElem?_eq_some_iff.1 hi).1
          simp at this; omega
        rw [List.getElem?_take_of_lt hlt] at hi
        exact g2 _ _ _ _ hi hj

theorem quietCall_ok (hT : TOk P T) (hR : R n w0 hw0 G st a w) {ty : TypeId} {c : Call} {sv : SV} (h : quietCall T st ty c = some sv) :
    ∃ x, ((do let d ← resolve a.eval c ty; invoke d.target d.args) : Sem Next).run P w = .ok (.value x) w ∧ Q G w w0.heap.size st.heap sv x := by
  have hrd := fun ty x => rd_q (T := T) hR ty x
  obtain ⟨cal, args, ats⟩ := c
  unfold quietCall at h
  split at h
  · rename_i b hb
    simp only at hb
    subst hb
    simp only at h
    split at h
    · rename_i x t ha hat
      obtain rfl : args = #[x] := by rw [← Array.toArray_toList (xs := args), ha]
      obtain rfl : ats = #[t] := by rw [← Array.toArray_toList (xs := ats), hat]
      have hg : ∀ v, (Builtin.len_ #[t] ty #[a.eval x]).run P w = .ok v w → ((do let d ← resolve a.eval { callee := .builtin .len, args := #[x], argTypes := #[t] } ty; invoke d.target d.args) : Sem Next).run P w = .ok (.value v) w := by
        intro v hv
        simp only [resolve, Sem.run_bind, Sem.run_pure, Result.andThen_ok, invoke, builtin]
        simp [hv]
      split at h
      · rename_i ti sz rows ht hx
        have hc := hrd t x
        rw [hx] at hc
        split at h
        · rename_i e hk
          obtain rfl := Option.some.inj h
          have hc2 := Q.tv.1 hc
          refine ⟨.int .i64 rows.length, hg _ ?_, Q.tv.2 (.int _ _)⟩
          generalize a.eval x = X at hc2 ⊢
          cases hc2 <;> simp [Builtin.len_, run_under (kind_slice hT ht hk), goInt]
        · cases h
      · rename_i ti s ht hx
        have hc := hrd t x
        rw [hx] at hc
        split at h
        · rename_i hk
          obtain rfl := Option.some.inj h
          refine ⟨.int .i64 s.size, hg _ ?_, Q.tv.2 (.int _ _)⟩
          rw [tvr_str (Q.tv.1 hc)]
          simp [Builtin.len_, run_under (kind_str hT ht hk), goInt]
        · cases h
      · rename_i ti nm lo len ht hx
        have hc := hrd t x
        rw [hx] at hc
        split at h
        · rename_i e hk
          split at h
          · rename_i blk hb
            obtain rfl := Option.some.inj h
            obtain ⟨cap, cs, el, h1, h2, h3, h4, hxe⟩ := hc 0 blk hb
            refine ⟨.int .i64 len, hg _ ?_, Q.tv.2 (.int _ _)⟩
            rw [hxe]
            simp [Builtin.len_, run_under (kind_slice hT ht hk), goInt]
          · cases h
        · cases h
      · cases h
    · rename_i x y ha
      obtain rfl : args = #[x, y] := by rw [← Array.toArray_toList (xs := args), ha]
      split at h
      · rename_i k p k' q hx hy
        obtain rfl := Option.some.inj h
        have hcx := hrd ty x
        rw [hx] at hcx
        have hcy := hrd ty y
        rw [hy] at hcy
        refine ⟨_, ?_, Q.tv.2 (.int _ _)⟩
        simp only [resolve, Sem.run_bind, Sem.run_pure, Result.andThen_ok, invoke, builtin]
        simp [tvr_int (Q.tv.1 hcx), tvr_int (Q.tv.1 hcy), Builtin.min_, Builtin.min2]
      · cases h
    · rename_i x y ha
      obtain rfl : args = #[x, y] := by rw [← Array.toArray_toList (xs := args), ha]
      split at h
      · rename_i k p k' q hx hy
        obtain rfl := Option.some.inj h
        have hcx := hrd ty x
        rw [hx] at hcx
        have hcy := hrd ty y
        rw [hy] at hcy
        refine ⟨_, ?_, Q.tv.2 (.int _ _)⟩
        simp only [resolve, Sem.run_bind, Sem.run_pure, Result.andThen_ok, invoke, builtin]
        simp [tvr_int (Q.tv.1 hcx), tvr_int (Q.tv.1 hcy), Builtin.max_, Builtin.max2]
      · cases h
    · cases h
  · cases h

theorem quiet_ok (hT : TOk P T) (hR : R n w0 hw0 G st a w) {o : Oper} {sv : SV} (h : quiet T st o = some sv) :
    ∃ x, (execOp a.eval o).run P w = .ok (.value x) w ∧ Q G w w0.heap.size st.heap sv x := by
  have hrd := fun ty x => rd_q (T := T) hR ty x
  unfold quiet at h
  split at h
  · rename_i x hop
    obtain rfl := Option.some.inj h
    exact ⟨_, by simp [execOp, hop], hrd _ _⟩
  · rename_i x hop
    obtain rfl := Option.some.inj h
    exact ⟨_, by simp [execOp, hop], hrd _ _⟩
  · rename_i c x y hop
    split at h
    · rename_i B hB
      obtain rfl := Option.some.inj h
      have hc := hrd o.type c
      rw [hB] at hc
      have hcb := tvr_bool (Q.tv.1 hc)
      refine ⟨if B then a.eval x else a.eval y, by simp [execOp, hop, hcb, asBool], ?_⟩
      cases B
      · exact hrd _ _
      · exact hrd _ _
    · cases h
  · rename_i op ty x y _ hop
    split at h
    · rename_i v hv
      obtain rfl := Option.some.inj h
      obtain ⟨r, hr, hv⟩ := binS_ok hT hv x y (hrd _ _) (hrd _ _)
      exact ⟨r, by simp only [execOp, hop]; exact run_value _ _ _ hr, Q.tv.2 hv⟩
    · cases h
  · rename_i op ty x hop
    split at h
    · rename_i v hv
      obtain rfl := Option.some.inj h
      obtain ⟨r, hr, hv⟩ := unS_ok (P := P) hv (hrd _ _)
      exact ⟨r, by simp only [execOp, hop]; exact run_value _ _ _ hr, Q.tv.2 hv⟩
    · cases h
  · rename_i s d x hop
    split at h
    · rename_i ts td k m hs hd hx
      split at h
      · rename_i k' hk
        obtain rfl := Option.some.inj h
        have hc := hrd s x
        rw [hx] at hc
        obtain ⟨ds, hds, _⟩ := (hT _ _ hs).kind
        refine ⟨_, by simp only [execOp, hop]; exact run_value _ _ _ (by rw [tvr_int (Q.tv.1 hc)]; simp [convert, run_under hds, run_under (kind_int hT hd hk), Conv.intToInt] <;> rfl), Q.tv.2 (.int _ _)⟩
      · cases h
    · rename_i ts td b hs hd hx
      split at h
      · rename_i hk
        obtain rfl := Option.some.inj h
        have hc := hrd s x
        rw [hx] at hc
        obtain ⟨ds, hds, _⟩ := (hT _ _ hs).kind
        refine ⟨_, by simp only [execOp, hop]; exact run_value _ _ _ (by rw [tvr_str (Q.tv.1 hc)]; simp [convert, run_under hds, run_under (kind_str hT hd hk)] <;> rfl), Q.tv.2 (.str _)⟩
      · cases h
    · cases h
  · rename_i t parts hop
    split at h
    · rename_i ti ht
      split at h
      · rename_i ha
        split at h
        · rename_i cs hcs
          obtain rfl := Option.some.inj h
          obtain ⟨vs, hv, hr⟩ := build_ok hT ht ha hcs (ρ := a.eval) (hw := G.hw) (w := w) (fun x cs hc => cells_q (hrd 0 x) hc)
          exact ⟨_, by simp only [execOp, hop]; exact run_value _ _ _ hv, fun _ => ⟨vs, rfl, hr⟩⟩
        · cases h
      · cases h
    · cases h
  · rename_i t x f hop
    split at h
    · rename_i ti cs ht hx
      have hc := hrd t x
      rw [hx] at hc
      obtain ⟨vs, hvx, hvs⟩ := hc 0
      split at h
      · rename_i fs hk
        split at h
        · rename_i ft off hf
          obtain ⟨fields, fl, hu, hfl, rfl, rfl⟩ := kind_struct hT ht hk hf
          split at h
          · rename_i te hte
            split at h
            · rename_i ha
              obtain rfl := Option.some.inj h
              refine ⟨.agg ((vs.drop fl.offset).take te.size).toArray, by simp only [execOp, hop]; exact run_value _ _ _ (by simp [Instr.field, run_under hu, hfl, hvx, asAgg, part, run_agg (hT _ _ hte), ha, run_size (hT _ _ hte)]), fun _ => ⟨_, rfl, (hvs.drop _).take _⟩⟩
            · rename_i ha
              split at h
              · rename_i c hco
                obtain rfl := Option.some.inj h
                obtain ⟨u, hu', hru⟩ := hvs.get _ _ hco
                refine ⟨u, by simp only [execOp, hop]; exact run_value _ _ _ (by simp [Instr.field, run_under hu, hfl, hvx, asAgg, part, run_agg (hT _ _ hte), ha, run_size (hT _ _ hte), hu']), Q.tv.2 hru.tree⟩
              · cases h
          · cases h
        · cases h
      · cases h
    · cases h
  · rename_i t i hop
    split at h
    · rename_i vs hx
      have hc := hrd 0 t
      rw [hx] at hc
      obtain ⟨us, hux, hus⟩ := hc 0
      split at h
      · rename_i v hv
        obtain rfl := Option.some.inj h
        obtain ⟨u, hu, hru⟩ := hus.get _ _ hv
        exact ⟨u, by simp only [execOp, hop]; exact run_value _ _ _ (by simp [Instr.extract, hux, hu]), AV.sv_q hru⟩
      · cases h
    · cases h
  · rename_i t x i hop
    split at h
    · rename_i ti s k m ht hx hi
      have hc := hrd t x
      rw [hx] at hc
      have hci := hrd 0 i
      rw [hi] at hci
      split at h
      · rename_i hk
        split at h
        · rename_i h0
          split at h
          · rename_i b hb
            obtain rfl := Option.some.inj h
            have hb' : s[m.toNat]? = some b := hb
            refine ⟨_, by simp only [execOp, hop]; exact run_value _ _ _ (by rw [tvr_str (Q.tv.1 hc), tvr_int (Q.tv.1 hci)]; simp [Instr.index, asIntOf, run_under (kind_str hT ht hk), h0, hb'] <;> rfl), Q.tv.2 (.int _ _)⟩
          · cases h
        · cases h
      · cases h
    · cases h
  · rename_i t x i hop
    split at h
    · rename_i ti sz rows k m ht hx hi
      have hc := hrd t x
      rw [hx] at hc
      have hci := tvr_int (Q.tv.1 (by have h9 := hrd 0 i; rw [hi] at h9; exact h9))
      split at h
      · rename_i e hk
        split at h
        · rename_i te hte
          split at h
          · rename_i hcnd
            split at h
            · rename_i row hrow
              obtain rfl := Option.some.inj h
              have hlt := (List.getElem?_eq_some_iff.1 hrow).1
              have hu := kind_slice hT ht hk
              have hc2 := Q.tv.1 hc
              have hx9 : (execOp a.eval o).run P w = ((do pure (Next.value (← Instr.indexAt t (a.eval x) (a.eval i)))) : Sem Next).run P w := by simp only [execOp, hop]
              rw [hx9]
              generalize a.eval x = X at hc2 ⊢
              cases hc2 with
              | nil sz a cap => simp at hlt
              | sl _ _ b o cap f h0 hl hcp he h1 h2 =>
                refine ⟨.pointer (some ⟨b, o + m.toNat * te.size, none⟩), by exact run_value _ _ _ (by rw [hci]; simp [Instr.indexAt, asIntOf, run_under hu, hcnd.2, show m < (rows.length : Int) by omega, run_size (hT _ _ hte), add_at]), fun _ => ⟨b, o + m.toNat * te.size, rfl, ?_, ?_⟩⟩
                · have hrl := hl row (List.mem_of_getElem? hrow)
                  have := Nat.mul_le_mul_right sz (show m.toNat + 1 ≤ rows.length by omega)
                  rw [Nat.succ_mul] at this
                  rw [hcnd.1]; omega
                · intro j v hj
                  have hjl := (List.getElem?_eq_some_iff.1 hj).1
                  rw [hl row (List.mem_of_getElem? hrow)] at hjl
                  exact ⟨_, by rw [hcnd.1, Nat.add_assoc]; exact h1 m.toNat j hlt hjl, h2 _ _ _ _ hrow hj⟩
            · cases h
          · cases h
        · cases h
      · cases h
    · rename_i ti nm lo len k m ht hx hi
      have hc := hrd t x
      rw [hx] at hc
      have hci := tvr_int (Q.tv.1 (by have h9 := hrd 0 i; rw [hi] at h9; exact h9))
      split at h
      · rename_i e blk hk hb
        split at h
        · rename_i te hte
          split at h
          · rename_i hcnd
            obtain rfl := Option.some.inj h
            obtain ⟨cap, cs, el, h1, h2, h3, h4, hxe⟩ := hc 0 blk hb
            have hu := kind_slice hT ht hk
            refine ⟨_, by simp only [execOp, hop]; exact run_value _ _ _ (by rw [hci, hxe]; simp [Instr.indexAt, asIntOf, run_under hu, hcnd.2, run_size (hT _ _ hte), add_at] <;> rfl), fun _ blk' hb' => ?_⟩
            rw [hb] at hb'
            obtain rfl := Option.some.inj hb'
            rw [hcnd.1, Nat.add_mul]; simp [Nat.add_assoc]
          · cases h
        · cases h
      · cases h
    · rename_i ti nm i0 o0 k m ht hx hi
      have hc := hrd t x
      rw [hx] at hc
      have hci := tvr_int (Q.tv.1 (by have h9 := hrd 0 i; rw [hi] at h9; exact h9))
      split at h
      · rename_i q e blk hk hb
        split at h
        · rename_i te hte
          split at h
          · rename_i hcnd
            obtain rfl := Option.some.inj h
            have hu := kind_arr hT ht hk
            · have hxe := hc 0 blk hb
              refine ⟨_, by simp only [execOp, hop]; exact run_value _ _ _ (by rw [hci, hxe]; simp [Instr.indexAt, Instr.sureAddr, asIntOf, run_under hu, hcnd, run_size (hT _ _ hte), add_at] <;> rfl), fun _ blk' hb' => ?_⟩
              rw [hb] at hb'
              obtain rfl := Option.some.inj hb'
              simp [Nat.add_assoc]
          · cases h
        · cases h
      · cases h
    · cases h
  · rename_i t x f hop
    split at h
    · rename_i ti nm i0 o0 ht hx
      have hc := hrd t x
      rw [hx] at hc
      split at h
      · rename_i fs blk hk hb
        split at h
        · rename_i ft off hf
          obtain ⟨fields, fl, hu, hfl, rfl, rfl⟩ := kind_struct hT ht hk hf
          split at h
          · rename_i te hte
            split at h
            · cases h
            · rename_i hz
              obtain rfl := Option.some.inj h
              · have hxe := hc 0 blk hb
                refine ⟨_, by simp only [execOp, hop]; exact run_value _ _ _ (by rw [hxe]; simp [Instr.fieldAt, Instr.sureAddr, run_under hu, hfl, fieldPlace, run_size (hT _ _ hte), hz, add_at] <;> rfl), fun _ blk' hb' => ?_⟩
                rw [hb] at hb'
                obtain rfl := Option.some.inj hb'
                simp [Nat.add_assoc]
          · cases h
        · cases h
      · cases h
    · rename_i ti cs ht hx
      have hc := hrd t x
      rw [hx] at hc
      obtain ⟨b, o, hxe, hle, hcell⟩ := hc 0
      split at h
      · rename_i fs hk
        split at h
        · rename_i ft off hf
          obtain ⟨fields, fl, hu, hfl, rfl, rfl⟩ := kind_struct hT ht hk hf
          split at h
          · rename_i te hte
            split at h
            · cases h
            · rename_i hz
              obtain rfl := Option.some.inj h
              have hz1 : ¬ te.size = 0 := fun e => hz (.inl e)
              have hz2 : fl.offset ≤ cs.length := Nat.le_of_not_lt fun e => hz (.inr e)
              refine ⟨_, by simp only [execOp, hop]; exact run_value _ _ _ (by rw [hxe]; simp [Instr.fieldAt, Instr.sureAddr, run_under hu, hfl, fieldPlace, run_size (hT _ _ hte), hz1, add_at] <;> rfl), fun _ => ⟨b, o + fl.offset, rfl, by rw [List.length_drop]; omega, fun j v hj => ?_⟩⟩
              rw [List.getElem?_drop] at hj
              rw [Nat.add_assoc]
              exact hcell _ _ hj
          · cases h
        · cases h
      · cases h
    · cases h
  · rename_i t x hop
    split at h
    · rename_i ti cs ht hx
      have hc := hrd 0 x
      rw [hx] at hc
      obtain ⟨b, o, hxe, hle, hcell⟩ := hc 0
      obtain ⟨l1, l2⟩ := load_ok hT ht hcell
      split at h
      · rename_i ha
        split at h
        · rename_i hs
          obtain rfl := Option.some.inj h
          obtain ⟨us, hl, hr⟩ := l1 ha hs
          exact ⟨_, by simp only [execOp, hop]; exact run_value _ _ _ (by rw [hxe]; simp [Instr.loadAt, Instr.sureAddr, hl] <;> rfl), fun _ => ⟨us, rfl, All2.map_left hr⟩⟩
        · cases h
      · rename_i ha
        split at h
        · rename_i v hv
          obtain rfl := Option.some.inj h
          obtain ⟨u, hl, hr⟩ := l2 (by simpa using ha) v hv
          exact ⟨u, by simp only [execOp, hop]; exact run_value _ _ _ (by rw [hxe]; simp [Instr.loadAt, Instr.sureAddr, hl]), Q.tv.2 hr⟩
        · cases h
    · rename_i ti nm i0 o0 ht hx
      have hc := hrd 0 x
      rw [hx] at hc
      split at h
      · rename_i blk hb
        have hxe := hc 0 blk hb
        split at h
        · rename_i row hrow
          have hcell := blk_cell hR hb hrow o0
          have hcell' : ∀ j v, ((row.drop o0).map CV.tv)[j]? = some v → ∃ u, w.cell? ⟨(G.ph nm).1, (G.ph nm).2 + (i0 * blk.sz + o0) + j, none⟩ = some u ∧ TVR G.hw w v u := by
            intro j v hv
            rw [List.getElem?_map] at hv
            cases hj : (row.drop o0)[j]? with
            | none => simp [hj] at hv
            | some c =>
              simp only [hj, Option.map_some, Option.some.injEq] at hv
              subst hv
              obtain ⟨u, h1, h2⟩ := hcell j c hj
              exact ⟨u, h1, h2.tree⟩
          obtain ⟨l1, l2⟩ := load_ok hT ht hcell'
          split at h
          · rename_i ha
            split at h
            · rename_i hs
              obtain rfl := Option.some.inj h
              obtain ⟨us, hl, hr⟩ := l1 ha (by simp; omega)
              refine ⟨_, by simp only [execOp, hop]; exact run_value _ _ _ (by rw [hxe]; simp [Instr.loadAt, Instr.sureAddr, hl] <;> rfl), fun _ => ⟨us, rfl, ?_⟩⟩
              rw [← List.map_take] at hr
              have hr2 : All2 (AggR G.hw w) (((((row.drop o0).take ti.size).map CV.tv)).map CV.t) us := All2.map_left hr
              rw [List.map_map] at hr2
              exact hr2
            · cases h
          · rename_i ha
            split at h
            · rename_i c hcv
              obtain rfl := Option.some.inj h
              obtain ⟨u, hl, hr⟩ := l2 (by simpa using ha) c.tv (by simp [hcv])
              exact ⟨u, by simp only [execOp, hop]; exact run_value _ _ _ (by rw [hxe]; simp [Instr.loadAt, Instr.sureAddr, hl]), Q.tv.2 hr⟩
            · cases h
        · cases h
      · cases h
    · cases h
  · rename_i c hop
    obtain ⟨x, hx, hq⟩ := quietCall_ok hT hR h
    exact ⟨x, by simp only [execOp, hop]; exact hx, hq⟩
  · rename_i t x lo hi mx hop
    split at h
    · rename_i ti sz rows ht hx
      split at h
      · rename_i e l hh hk hl hh'
        split at h
        · rename_i te hte
          split at h
          · rename_i hc
            obtain rfl := Option.some.inj h
            obtain ⟨hsz, hle, hlen⟩ := hc
            have hcx := hrd t x
            rw [hx] at hcx
            have h2 := Q.tv.1 hcx
            have hu := kind_slice hT ht hk
            have hx9 : (execOp a.eval o).run P w = ((do pure (Next.value (← Instr.sliceAt t (a.eval x) (lo.map a.eval) (hi.map a.eval) none))) : Sem Next).run P w := by simp only [execOp, hop, Option.map_none]
            rw [hx9]
            generalize a.eval x = X at h2 ⊢
            have hX : ∃ a0 cap, X = .slice a0 rows.length cap ∧ rows.length ≤ cap := by cases h2 <;> exact ⟨_, _, rfl, by first | assumption | simp⟩
            obtain ⟨a0, cap, rfl, hcap⟩ := hX
            have bl : ∀ (y : Option Operand) (q : Nat), (match y with | none => some 0 | some l => match rd T st 0 l with | .c (.t (.int _ n)) => if 0 ≤ n then some n.toNat else none | _ => none) = some q → ∀ (m : Nat) code, q ≤ m →
                (match y.map a.eval with | some v => Instr.sliceBound v m code | none => pure 0 : Sem Nat).run P w = .ok q w := by
              intro y q hy m code hm
              cases y with
              | none => simp only [Option.some.injEq] at hy; subst hy; rfl
              | some z =>
                simp only at hy
                split at hy
                · rename_i k n' hz
                  split at hy
                  · rename_i h0
                    obtain rfl := Option.some.inj hy
                    have hq := hrd 0 z
                    rw [hz] at hq
                    simp only [Option.map_some, tvr_int (Q.tv.1 hq), Instr.sliceBound, asIntOf, Sem.run_bind, Sem.run_pure, Result.andThen_ok]
                    rw [if_pos ⟨h0, by omega⟩]; rfl
                  · cases hy
                · cases hy
            have bh : ∀ (m : Nat) code, hh ≤ m → (match hi.map a.eval with | some v => Instr.sliceBound v m code | none => pure rows.length : Sem Nat).run P w = .ok hh w := by
              intro m code hm
              cases hi with
              | none => simp only [Option.some.injEq] at hh'; subst hh'; rfl
              | some z =>
                simp only at hh'
                split at hh'
                · rename_i k n' hz
                  split at hh'
                  · rename_i h0
                    obtain rfl := Option.some.inj hh'
                    have hq := hrd 0 z
                    rw [hz] at hq
                    simp only [Option.map_some, tvr_int (Q.tv.1 hq), Instr.sliceBound, asIntOf, Sem.run_bind, Sem.run_pure, Result.andThen_ok]
                    rw [if_pos ⟨h0, by omega⟩]; rfl
                  · cases hh'
                · cases hh'
            have hb : (Instr.sliceBounds true rows.length cap (lo.map a.eval) (hi.map a.eval) none).run P w = .ok (l, hh, cap) w := by
              unfold Instr.sliceBounds
              have b1 := bl lo l hl hh .sliceB hle
              have b2 := bh cap .sliceAcap (by omega)
              cases lo <;> cases hi <;> simp_all
            refine ⟨_, run_value _ _ _ (by simp [Instr.sliceAt, Instr.slice, run_under hu, hb, run_size (hT _ _ hte)] <;> rfl), Q.tv.2 (tvr_slice h2 hle hlen ?_)⟩
            exact hsz
          · cases h
        · cases h
      · cases h
    · cases h
  · cases h
end
end Go.Proofs.Yteoddaeipckgcaa.Ev
