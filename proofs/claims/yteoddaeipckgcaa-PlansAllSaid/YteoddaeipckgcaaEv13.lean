import Derived.Test.YteoddaeipckgcaaEv12
import Derived.IntWalk
namespace Go.Proofs.Yteoddaeipckgcaa.Ev
open Go Go.RowKit
set_option linter.unusedSimpArgs false
set_option linter.unusedVariables false
variable {P : Program} {T : TypeId → Option TI}
section
variable {n : Nat} {w0 : World} {hw0 : Nat → Nat} {G : Gh} {st : St} {a : Act} {w : World} {E : Env}

theorem chunk_spec (sz : Nat) : ∀ (k : Nat) (cs : List CV), cs.length = k * sz → (chunk sz k cs).length = k ∧ (∀ r ∈ chunk sz k cs, r.length = sz) ∧ ∀ i r j v, (chunk sz k cs)[i]? = some r → r[j]? = some v → ∃ c, cs[i * sz + j]? = some c ∧ c.tv = v
  | 0, cs, _ => ⟨rfl, by simp [chunk], by simp [chunk]⟩
  | k + 1, cs, h => by
    have hl : (cs.drop sz).length = k * sz := by rw [List.length_drop, h, Nat.succ_mul]; omega
    obtain ⟨h1, h2, h3⟩ := chunk_spec sz k (cs.drop sz) hl
    have hsz : sz ≤ cs.length := by rw [h, Nat.succ_mul]; omega
    refine ⟨by simp [chunk, h1], ?_, ?_⟩
    · intro r hr
      simp only [chunk, List.mem_cons] at hr
      rcases hr with rfl | hr
      · simp; omega
      · exact h2 r hr
    · intro i r j v hi hj
      cases i with
      | zero =>
        simp only [chunk, List.getElem?_cons_zero, Option.some.injEq] at hi
        subst hi
        rw [List.getElem?_map] at hj
        cases hc : (cs.take sz)[j]? with
        | none => simp [hc] at hj
        | some c =>
          simp only [hc, Option.map_some, Option.some.injEq] at hj
          have hjl := (List.getElem?_eq_some_iff.1 hc).1
          simp at hjl
          rw [List.getElem?_take_of_lt (by omega)] at hc
          exact ⟨c, by simpa using hc, hj⟩
      | succ i =>
        simp only [chunk, List.getElem?_cons_succ] at hi
        obtain ⟨c, q1, q2⟩ := h3 i r j v hi hj
        rw [List.getElem?_drop] at q1
        exact ⟨c, by rw [show (i + 1) * sz + j = sz + (i * sz + j) by rw [Nat.succ_mul]; omega]; exact q1, q2⟩

theorem zeros_get (z : Array Value) (m k : Nat) (hz : 0 < z.size) (hk : k < m * z.size) : ((Array.range (m * z.size)).map (z[· % z.size]!))[k]? = z[k % z.size]? := by
  have hlt : k % z.size < z.size := Nat.mod_lt _ hz
  simp [hk, Array.getElem?_eq_getElem hlt, getElem!_pos z (k % z.size) hlt]

theorem flat_get {α : Type} (zs : List α) (h0 : 0 < zs.length) : ∀ (m k : Nat), k < m * zs.length → (List.replicate m zs).flatten[k]? = zs[k % zs.length]?
  | 0, k, h => by simp at h
  | m + 1, k, h => by
    rw [List.replicate_succ, List.flatten_cons]
    by_cases hk : k < zs.length
    · rw [List.getElem?_append_left hk, Nat.mod_eq_of_lt hk]
    · rw [List.getElem?_append_right (by omega), flat_get zs h0 m (k - zs.length) (by rw [Nat.succ_mul] at h; omega)]
      congr 1
      rw [Nat.mod_eq_sub_mod (show k ≥ zs.length by omega)]

theorem buildSlice_ok (hT : TOk P T) (hR : R n w0 hw0 G st a w) {o : Oper} {t e : TypeId} {len : Nat} {parts : Array (Nat × Operand)} (ho : o.op = .buildSlice t len parts) {ti te : TI} (ht : T t = some ti) (hk : ti.k = .slice e) (he : T e = some te) (h0 : 0 < te.size) (hl0 : 0 < len)
    (hbig : len * te.size ≤ 16777216) {cs : List CV} (hcs : layParts T (fun i => some (i * te.size, te.size)) (rd T st e) ((List.replicate len te.zero).flatten) parts.toList = some cs) {K : St → Prop} {Q : Exit → Act → World → Prop}
    (h : putK n o.dst (.c (.own te.size (chunk te.size len cs))) K st) : o.wp P a w (Post n w0 hw0 K) Q := by
  obtain ⟨info, z, hi, hsz, hby, hz, hzr, _⟩ := (hT _ _ he).info
  have hu := kind_slice hT ht hk
  have hzl := All2.toList hzr
  rw [(hT _ _ he).zlen] at hzl
  have hzr' : All2 (AggR G.hw w) te.zero z.cells.toList := hzr.mono fun _ _ => zero_agg
  have hfl : ((List.replicate len te.zero).flatten).length = len * te.size := by simp [(hT _ _ he).zlen]
  have hbase : All2 (AggR G.hw w) ((List.replicate len te.zero).flatten) ((Array.range (len * info.size)).map (z.cells[· % z.cells.size]!)).toList := by
    refine All2.of_get (by simp [(hT _ _ he).zlen, hsz]) (fun i c x hc hx => ?_)
    have hil := (List.getElem?_eq_some_iff.1 hc).1
    rw [hfl] at hil
    rw [flat_get te.zero (by rw [(hT _ _ he).zlen]; exact h0) len i (by rw [(hT _ _ he).zlen]; exact hil), (hT _ _ he).zlen] at hc
    rw [hsz, hzl, Array.getElem?_toList, zeros_get z.cells len i (by omega) (by rw [← hzl]; exact hil), ← hzl] at hx
    obtain ⟨y, q1, q2⟩ := hzr'.get _ _ hc
    rw [Array.getElem?_toList, hx] at q1
    exact Option.some.inj q1 ▸ q2
  obtain ⟨B, hB, hRB⟩ := fill_lay (place' := fun i => some (i * info.size, info.size)) (ρ := a.eval) (fun i x hx => by rw [hsz]; exact hx) (fun x cs hc => cells_q (rd_q (T := T) hR e x) hc) parts.toList _ cs _ hbase hcs
  have hrun := run_buildSlice (P := P) w t e len (parts.map fun (i, x) => (i, a.eval x)) B info z hu hi hz (by rw [hsz]; omega) (by rw [hsz]; exact Nat.pos_iff_ne_zero.1 (Nat.mul_pos hl0 h0)) (by rw [← hB]; congr 1; simp)
  have hBl := All2.toList hRB
  have hcl : cs.length = len * te.size := by
    have : ∀ (ps : List (Nat × Operand)) (zs cs : List CV), layParts T (fun i => some (i * te.size, te.size)) (rd T st e) zs ps = some cs → cs.length = zs.length := by
      intro ps
      induction ps with
      | nil => intro zs cs h; simp only [layParts, Option.some.injEq] at h; rw [h]
      | cons p ps ih =>
        intro zs cs h
        obtain ⟨i, x⟩ := p
        simp only [layParts] at h
        split at h
        · split at h
          · rename_i hle
            rw [ih _ _ h, lay_length (by omega)]
          · cases h
        · cases h
    rw [this _ _ _ hcs, hfl]
  obtain ⟨c1, c2, c3⟩ := chunk_spec te.size len cs hcl
  have hne : chunk te.size len cs ≠ [] := by intro e; rw [e] at c1; simp at c1; omega
  cases hd : o.dst with
  | none =>
    rw [hd] at h
    have hfr := R.fresh hR (w1 := w) (.inl rfl) h0 hne c2 (cs := B) (el := e) (cap := len) (by omega) (by omega) (fun i r j v hi' hj => by
      obtain ⟨c, q1, rfl⟩ := c3 i r j v hi' hj
      obtain ⟨u, p1, p2⟩ := hRB.get _ _ q1
      exact ⟨u, by simpa using p1, p2.tree⟩) (.slot 0)
    refine Oper.wp_value (by simp only [execOp, ho]; exact run_value' _ _ _ _ hrun) ?_
    rw [hd]
    exact ⟨_, _, hfr.1, h⟩
  | some d =>
    rw [hd] at h
    simp only [putK] at h
    split at h
    · rename_i hdn
      have hfr := R.fresh hR (w1 := w) (.inl rfl) h0 hne c2 (cs := B) (el := e) (cap := len) (by omega) (by omega) (fun i r j v hi' hj => by
        obtain ⟨c, q1, rfl⟩ := c3 i r j v hi' hj
        obtain ⟨u, p1, p2⟩ := hRB.get _ _ q1
        exact ⟨u, by simpa using p1, p2.tree⟩) (.slot d)
      refine Oper.wp_value (by simp only [execOp, ho]; exact run_value' _ _ _ _ hrun) ?_
      rw [hd]
      rw [c1] at hfr
      exact ⟨_, _, hfr.1.put (sv := .c (.own te.size (chunk te.size len cs))) hdn hfr.2, h⟩
    · exact h.elim

theorem makeSlice_ok (hT : TOk P T) (hR : R n w0 hw0 G st a w) {o : Oper} {t e : TypeId} {l c : Operand} (ho : o.op = .makeSlice t l c) {ti te : TI} (ht : T t = some ti) (hk : ti.k = .slice e) (he : T e = some te) {k k' : IntKind} {m : Int} (hl : rd T st 0 l = .c (.t (.int k m))) (hc : rd T st 0 c = .c (.t (.int k' m)))
    (h0 : 0 < te.size) (hm : 0 ≤ m) (hmx : m ≤ 9223372036854775807) (hb : m * te.bytes ≤ 140737488355328) {K : St → Prop} {X : Exit → Act → World → Prop}
    (h : nameK n o.dst ⟨te.size, List.replicate m.toNat te.zero⟩ (.mr · 0 m.toNat) K st) : o.wp P a w (Post n w0 hw0 K) X := by
  obtain ⟨info, z, hi, hsz, hby, hz, hzr, _⟩ := (hT _ _ he).info
  have hu := kind_slice hT ht hk
  have hzl := All2.toList hzr
  rw [(hT _ _ he).zlen] at hzl
  have hzr' : All2 (AggR G.hw w) te.zero z.cells.toList := hzr.mono fun _ _ => zero_agg
  have e1 := tvr_int (Q.tv.1 (by have h9 := rd_q (T := T) hR 0 l; rw [hl] at h9; exact h9))
  have e2 := tvr_int (Q.tv.1 (by have h9 := rd_q (T := T) hR 0 c; rw [hc] at h9; exact h9))
  have hwrap : IntKind.i64.wrap m = m := IntWalk.i64_in m ⟨by omega, hmx⟩
  have hb2 : ¬ ((te.bytes : Int) * m > 2 ^ 48) := by rw [Int.mul_comm]; omega
  have hrun : (Instr.makeSlice t (.int k m) (.int k' m)).run P w = .ok (.slice (some ⟨w.heap.size, 0, none⟩) m.toNat m.toNat) (w.alloc (.cells ((Array.range (m.toNat * te.size)).map (z.cells[· % z.cells.size]!)) e (0, 0))) := by
    by_cases hz0 : m.toNat * te.size = 0
    · have hm0 : m = 0 := by
        rcases Nat.mul_eq_zero.1 hz0 with h | h <;> omega
      subst hm0
      simp [Instr.makeSlice, run_under hu, typeInfo, hi, asInt, asIntOf, hwrap, hby, sizeOf, hsz, newRow]
      rw [show Array.range 0 = #[] from by simp]
      simp
    · simp [Instr.makeSlice, run_under hu, typeInfo, hi, asInt, asIntOf, hwrap, hby, hb2, hm, sizeOf, hsz, newRow, zeroValue, hz, hz0]
      intro hx
      exfalso
      have : (2 : Int) ^ 48 = 281474976710656 := by decide
      omega
  refine Oper.wp_value (by simp only [execOp, ho]; exact run_value' _ _ _ _ (by rw [e1, e2]; exact hrun)) ?_
  refine nameK_ok hR h h0 (fun r hr => ?_) (by simp) ?_ (fun d G' hph blk hb' => ?_)
  · obtain ⟨_, rfl⟩ := List.mem_replicate.1 hr
    exact (hT _ _ he).zlen
  · intro i r j c' hi' hj
    have hil := (List.getElem?_eq_some_iff.1 hi').1
    simp only [List.length_replicate] at hil
    rw [List.getElem?_replicate, if_pos hil] at hi'
    obtain rfl := Option.some.inj hi'
    have hjl := (List.getElem?_eq_some_iff.1 hj).1
    rw [(hT _ _ he).zlen] at hjl
    obtain ⟨x, q1, q2⟩ := hzr'.get _ _ hj
    refine ⟨x, ?_, q2⟩
    have hlt := row_lt hil hjl
    have := zeros_get z.cells m.toNat (i * te.size + j) (by omega) (by rw [← hzl]; exact hlt)
    rw [← hzl] at this
    simp only
    rw [← hzl, this]
    rw [show (i * te.size + j) % te.size = j by rw [Nat.add_comm, Nat.add_mul_mod_self_right, Nat.mod_eq_of_lt hjl]]
    simpa using q1
  · simp only [if_pos] at hb'
    obtain rfl := Option.some.inj hb'
    refine ⟨m.toNat, (Array.range (m.toNat * te.size)).map (z.cells[· % z.cells.size]!), e, by simp, Nat.le_refl _, ?_, ?_, ?_⟩
    · rw [hph d, if_pos rfl]
      show (w.heap.push _)[w.heap.size]? = _
      simp
    · rw [hph d, if_pos rfl]; simp
    · rw [hph d, if_pos rfl]; simp
end
end Go.Proofs.Yteoddaeipckgcaa.Ev
