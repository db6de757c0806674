/- The evaluator's second make: operations that only read, run. -/
import Derived.Test.YtgmjgognpabmdaaFx3
namespace Go.Proofs.Ytgmjgognpabmdaa.Fx
open Go Go.RowKit
set_option linter.unusedSimpArgs false
set_option linter.unusedVariables false
variable {P : Program} {T : TypeId → Option TI} {M : Mk} {w : World} {S : Nat → Prop}

theorem AV.sv_q {v : AV} {x : Value} (h : AVR M w v x) : SVR M w v.sv x := by
  cases v with
  | v t => exact h
  | agg cs => exact h

theorem run_value' (s : Sem Value) (x : Value) (w w' : World) (h : s.run P w = .ok x w') : ((do pure (Next.value (← s))) : Sem Next).run P w = .ok (.value x) w' := by
  simp [h]

theorem run_value (s : Sem Value) (x : Value) (w : World) (h : s.run P w = .ok x w) : ((do pure (Next.value (← s))) : Sem Next).run P w = .ok (.value x) w := by
  simp [h]

theorem kind_slice (hT : TOk P T) {t : TypeId} {ti : TI} {e : TypeId} (ht : T t = some ti) (hk : ti.k = .slice e) : P.underlying t = some (.slice e) := by
  obtain ⟨d, hd, hf⟩ := (hT _ _ ht).kind
  simp only [hk, TK.fits] at hf; subst hf; exact hd

theorem kind_struct (hT : TOk P T) {t : TypeId} {ti : TI} {fs : List (TypeId × Nat)} (ht : T t = some ti) (hk : ti.k = .struct fs) {f : Nat} {ft : TypeId} {off : Nat} (hf : fs[f]? = some (ft, off)) :
    ∃ (fields : Array Field) (fl : Field), P.underlying t = some (.struct fields) ∧ fields[f]? = some fl ∧ fl.type = ft ∧ fl.offset = off := by
  obtain ⟨d, hd, hft⟩ := (hT _ _ ht).kind
  simp only [hk, TK.fits] at hft
  obtain ⟨fields, rfl, hfs, _⟩ := hft
  rw [← hfs, List.getElem?_map] at hf
  cases hff : fields.toList[f]? with
  | none => simp [hff] at hf
  | some fl =>
    simp only [hff, Option.map_some, Option.some.injEq, Prod.mk.injEq] at hf
    exact ⟨fields, fl, hd, by simpa using hff, hf.1, hf.2⟩

theorem kind_arr (hT : TOk P T) {t : TypeId} {ti : TI} {m : Nat} {e : TypeId} (ht : T t = some ti) (hk : ti.k = .arr m e) : P.underlying t = some (.array m e) := by
  obtain ⟨d, hd, hf⟩ := (hT _ _ ht).kind
  simp only [hk, TK.fits] at hf; subst hf; exact hd

theorem kind_str (hT : TOk P T) {t : TypeId} {ti : TI} (ht : T t = some ti) (hk : ti.k = .str) : P.underlying t = some .string := by
  obtain ⟨d, hd, hf⟩ := (hT _ _ ht).kind
  simp only [hk, TK.fits] at hf; subst hf; exact hd

theorem kind_int (hT : TOk P T) {t : TypeId} {ti : TI} {k : IntKind} (ht : T t = some ti) (hk : ti.k = .int k) : P.underlying t = some (.int k) := by
  obtain ⟨d, hd, hf⟩ := (hT _ _ ht).kind
  simp only [hk, TK.fits] at hf; subst hf; exact hd

theorem kind_map (hT : TOk P T) {t : TypeId} {ti : TI} {k e : TypeId} (ht : T t = some ti) (hk : ti.k = .map k e) : P.underlying t = some (.map k e) := by
  obtain ⟨d, hd, hf⟩ := (hT _ _ ht).kind
  simp only [hk, TK.fits] at hf; subst hf; exact hd

/-- A list of cells in the world. -/
theorem load_agg {α : Type} {R : α → Value → Prop} {w : World} {b o : Nat} {cs : List α} {m : Nat} (hm : m ≤ cs.length) (h : ∀ j v, cs[j]? = some v → ∃ u, w.cell? ⟨b, o + j, none⟩ = some u ∧ R v u) :
    ∃ us : List Value, (loadCells ⟨b, o, none⟩ m).run P w = .ok us.toArray w ∧ All2 R (cs.take m) us := by
  refine ⟨(List.range m).map fun j => (w.cell? ⟨b, o + j, none⟩).getD undef, run_loadCells w _ m _ (fun j hj => ?_), All2.of_get (by simp [hm]) ?_⟩
  · obtain ⟨u, hu, _⟩ := h j cs[j] (List.getElem?_eq_getElem (by omega))
    rw [add_at, hu]; rfl
  · intro i x y hx hy
    have hi : i < m := by
      have := (List.getElem?_eq_some_iff.1 hx).1
      simp at this; omega
    rw [List.getElem?_take_of_lt hi] at hx
    obtain ⟨u, hu, hr⟩ := h i x hx
    rw [List.getElem?_map, List.getElem?_range hi] at hy
    simp only [Option.map_some, Option.some.injEq, hu, Option.getD_some] at hy
    exact hy ▸ hr

theorem load_ok (hT : TOk P T) {t : TypeId} {ti : TI} (ht : T t = some ti) {α : Type} {R : α → Value → Prop} {w : World} {b o : Nat} {cs : List α} (h : ∀ j v, cs[j]? = some v → ∃ u, w.cell? ⟨b, o + j, none⟩ = some u ∧ R v u) :
    (ti.k.isAgg = true → ti.size ≤ cs.length → ∃ us : List Value, (loadVar t ⟨b, o, none⟩).run P w = .ok (.agg us.toArray) w ∧ All2 R (cs.take ti.size) us) ∧
    (ti.k.isAgg = false → ∀ v, cs[0]? = some v → ∃ u, (loadVar t ⟨b, o, none⟩).run P w = .ok u w ∧ R v u) := by
  constructor
  · intro ha hs
    obtain ⟨us, hl, hr⟩ := load_agg (P := P) hs h
    exact ⟨us, by simp [loadVar, run_agg (hT _ _ ht), ha, run_size (hT _ _ ht), hl], hr⟩
  · intro ha v hv
    obtain ⟨u, hu, hr⟩ := h 0 v hv
    exact ⟨u, by simp only [loadVar, run_agg (hT _ _ ht), ha, Sem.run_bind, Result.andThen_ok, Bool.false_eq_true, if_false]; simp only [Nat.add_zero] at hu; simp [hu], hr⟩

section
variable {cx : Cx} {G : Gh} {st : St} {a : Act}

/-- A name's cells in the world. -/
theorem blk_cell (hR : R cx G st a w) {nm sz : Nat} {rows : List (List CV)} (hb : st.heap nm = some (.cells sz rows)) {p : PH} (hp : G.ph nm = some p) {i : Nat} {row : List CV} (hi : rows[i]? = some row) (o0 : Nat) :
    ∀ j c, (row.drop o0)[j]? = some c → ∃ u, w.cell? ⟨p.b, p.o + (i * p.sz + o0) + j, none⟩ = some u ∧ ∃ S, CVR G.toMk w S c u := by
  intro j c hc
  rw [List.getElem?_drop] at hc
  have h := hR.heap nm _ hb
  simp only [BlkR, hp] at h
  obtain ⟨h1, h2, h3, h4, h5, cs, el, h6, h7, h8, g, _, _, h9⟩ := h
  obtain ⟨x, hx, hr⟩ := h9 i row _ _ hi hc
  refine ⟨x, ?_, _, hr⟩
  simp only [World.cell?, h6]
  rw [show p.o + (i * p.sz + o0) + j = p.o + (i * sz + (o0 + j)) by rw [h1]; omega, hx]
  simp

theorem blk_ph (hR : R cx G st a w) {nm sz : Nat} {rows : List (List CV)} (hb : st.heap nm = some (.cells sz rows)) (hne : rows ≠ []) : ∃ p, G.ph nm = some p ∧ p.sz = sz ∧ p.len = rows.length := by
  have h := hR.heap nm _ hb
  simp only [BlkR] at h
  split at h
  · exact absurd h hne
  · rename_i p hp; exact ⟨p, hp, h.1, h.2.1⟩

theorem blk_some (hR : R cx G st a w) {nm sz : Nat} {rows : List (List CV)} (hb : st.heap nm = some (.cells sz rows)) {p : PH} (hp : G.ph nm = some p) : p.sz = sz ∧ p.len = rows.length := by
  have h := hR.heap nm _ hb
  simp only [BlkR, hp] at h
  exact ⟨h.1, h.2.1⟩

theorem tvr_slice {hw : Nat → Nat} {w : World} {sz sz' : Nat} {rows : List (List TV)} {a0 : Option Addr} {cap l h : Nat} (hr : TVR hw w (.sl sz rows) (.slice a0 rows.length cap)) (h1 : l ≤ h) (h2 : h ≤ rows.length) (hs : sz' = sz) :
    TVR hw w (.sl sz ((rows.take h).drop l)) (.slice (if cap = l then a0 else a0.map (·.add (l * sz'))) (h - l) (cap - l)) := by
  subst hs
  by_cases he : h = l
  · subst he
    rw [List.drop_of_length_le (by simp; omega), Nat.sub_self]
    exact .nil _ _ _
  · generalize hn : rows.length = len at hr
    cases hr with
    | nil sz a cap => simp at h2; omega
    | sl _ _ b o cap f h0 hl hc he' g1 g2 =>
      rw [if_neg (by omega)]
      have e1 : ((rows.take h).drop l).length = h - l := by simp; omega
      rw [← e1]
      simp only [Option.map_some, add_at]
      refine .sl _ _ _ _ _ (fun i j => f (l + i) j) h0 (fun r hr => hl r (List.mem_of_mem_take (List.mem_of_mem_drop hr))) (by rw [e1]; omega) ?_ ?_ ?_
      · rw [e1]
        have e2 : l * sz' + (h - l) * sz' ≤ rows.length * sz' := by rw [← Nat.add_mul]; exact Nat.mul_le_mul_right _ (by omega)
        omega
      · intro i j hi hj
        rw [e1] at hi
        have := g1 (l + i) j (by omega) hj
        rw [Nat.add_mul] at this
        rw [show o + l * sz' + (i * sz' + j) = o + (l * sz' + i * sz' + j) by omega]
        exact this
      · intro i r j x hi hj
        rw [List.getElem?_drop] at hi
        have hlt : l + i < h := by
          have := (List.getElem?_eq_some_iff.1 hi).1
          simp at this; omega
        rw [List.getElem?_take_of_lt hlt] at hi
        exact g2 _ _ _ _ hi hj

theorem tvr_slicex {hw : Nat → Nat} {w : World} {sz sz' : Nat} {rows : List (List TV)} {a0 : Option Addr} {cap h : Nat} (hr : TVR hw w (.sl sz rows) (.slice a0 rows.length cap)) (h1 : 0 < rows.length) (h2 : h ≤ rows.length) (hs : sz' = sz) :
    TVR hw w (.slx sz rows h) (.slice (if cap = 0 then a0 else a0.map (·.add (0 * sz'))) (h - 0) (cap - 0)) := by
  generalize hn : rows.length = len at hr
  cases hr with
  | nil sz a cap => simp at h1
  | sl _ _ b o cap f h0 hl hc he' g1 g2 =>
    rw [if_neg (by omega)]
    simp only [Option.map_some, add_at, Nat.zero_mul, Nat.add_zero, Nat.sub_zero]
    exact .slx sz rows h b o cap f h0 hl h2 hc he' g1 g2
theorem tvr_xslice {hw : Nat → Nat} {w : World} {sz sz' : Nat} {rows : List (List TV)} {L : Nat} {a0 : Option Addr} {cap l h : Nat} (hr : TVR hw w (.slx sz rows L) (.slice a0 L cap)) (h1 : l ≤ h) (h2 : h ≤ rows.length) (hs : sz' = sz) :
    TVR hw w (.sl sz ((rows.take h).drop l)) (.slice (if cap = l then a0 else a0.map (·.add (l * sz'))) (h - l) (cap - l)) := by
  cases hr with
  | slx _ _ _ b o cap f h0 hl hL hc he' g1 g2 => exact tvr_slice (.sl sz rows b o cap f h0 hl hc he' g1 g2) h1 h2 hs
theorem run_getObj_map {r : Nat} {es : Array MapEntry} {clock : Nat} (h : w.heap[r]? = some (.map es clock)) : (getObj r).run P w = .ok (.map es clock) w := by simp [getObj, Sem.run, h]

/-- What a list's value looks like. -/
theorem len_val {k : TK} {sv : SV} {x : Value} {n : Nat} (hR : R cx G st a w) {t : TypeId} {ti : TI} (hT : TOk P T) (ht : T t = some ti) (ty : TypeId) (hl : lenOfC st ti.k sv = some n) (h : SVR G.toMk w sv x) : (Builtin.len_ #[t] ty #[x]).run P w = .ok (.int .i64 n) w := by
  unfold lenOfC at hl
  split at hl
  · split at hl
    · rename_i hk
      obtain rfl := Option.some.inj hl
      have h2 := cv_tv h
      cases h2 <;> simp [Builtin.len_, run_under (kind_slice hT ht hk), goInt]
    · cases hl
  · split at hl
    · rename_i hk
      obtain rfl := Option.some.inj hl
      rw [cv_str h]
      simp [Builtin.len_, run_under (kind_str hT ht hk), goInt]
    · cases hl
  · split at hl
    · rename_i hk
      obtain rfl := Option.some.inj hl
      cases h <;> simp [Builtin.len_, run_under (kind_slice hT ht hk), goInt]
    · cases hl
  · split at hl
    · rename_i hk
      obtain rfl := Option.some.inj hl
      obtain ⟨_, a, rfl⟩ := cv_own h
      simp [Builtin.len_, run_under (kind_slice hT ht hk), goInt]
    · cases hl
  · split at hl
    · rename_i hk
      obtain rfl := Option.some.inj hl
      rw [cv_nilm h]
      simp [Builtin.len_, run_under (kind_map hT ht hk), goInt]
    · cases hl
  · split at hl
    · rename_i hk hb
      obtain rfl := Option.some.inj hl
      obtain ⟨p, hp, rfl⟩ := cv_mm h
      obtain ⟨p', hp', _, ents, hh, hm⟩ := hR.heap _ _ hb
      have := hp.symm.trans hp'; injection this with this; subst this
      have := hm.length
      simp only [Array.length_toList] at this
      simp [Builtin.len_, run_under (kind_map hT ht hk), goInt, run_getObj_map hh, this]
    · cases hl
  · cases hl

theorem quietCall_ok (hT : TOk P T) (hR : R cx G st a w) {ty : TypeId} {c : Call} {sv : SV} (h : quietCall T st ty c = some sv) :
    ∃ x, ((do let d ← resolve a.eval c ty; invoke d.target d.args) : Sem Next).run P w = .ok (.value x) w ∧ SVR G.toMk w sv x := by
  have hrd := fun ty x => rd_q (T := T) hR ty x
  obtain ⟨cal, args, ats⟩ := c
  unfold quietCall at h
  split at h
  · rename_i b hb
    simp only at hb
    subst hb
    simp only at h
    split at h
    · rename_i x t ha hat
      obtain rfl : args = #[x] := by rw [← Array.toArray_toList (xs := args), ha]
      obtain rfl : ats = #[t] := by rw [← Array.toArray_toList (xs := ats), hat]
      have hg : ∀ v, (Builtin.len_ #[t] ty #[a.eval x]).run P w = .ok v w → ((do let d ← resolve a.eval { callee := .builtin .len, args := #[x], argTypes := #[t] } ty; invoke d.target d.args) : Sem Next).run P w = .ok (.value v) w := by
        intro v hv
        simp only [resolve, Sem.run_bind, Sem.run_pure, Result.andThen_ok, invoke, builtin]
        simp [hv]
      split at h
      · rename_i ti ht
        split at h
        · rename_i n e hk
          obtain rfl := Option.some.inj h
          exact ⟨.int .i64 n, hg _ (by simp [Builtin.len_, run_under (kind_arr hT ht hk), goInt]), .t (.int _ _)⟩
        · split at h
          · rename_i n hn
            obtain rfl := Option.some.inj h
            exact ⟨_, hg _ (len_val (k := ti.k) hR hT ht ty hn (hrd t x)), .t (.int _ _)⟩
          · cases h
      · cases h
    · rename_i x y ha
      obtain rfl : args = #[x, y] := by rw [← Array.toArray_toList (xs := args), ha]
      split at h
      · rename_i k p k' q hx hy
        obtain rfl := Option.some.inj h
        have hcx := hrd ty x
        rw [hx] at hcx
        have hcy := hrd ty y
        rw [hy] at hcy
        refine ⟨_, ?_, .t (.int _ _)⟩
        simp only [resolve, Sem.run_bind, Sem.run_pure, Result.andThen_ok, invoke, builtin]
        simp [cv_int hcx, cv_int hcy, Builtin.min_, Builtin.min2]
      · cases h
    · rename_i x y ha
      obtain rfl : args = #[x, y] := by rw [← Array.toArray_toList (xs := args), ha]
      split at h
      · rename_i k p k' q hx hy
        obtain rfl := Option.some.inj h
        have hcx := hrd ty x
        rw [hx] at hcx
        have hcy := hrd ty y
        rw [hy] at hcy
        refine ⟨_, ?_, .t (.int _ _)⟩
        simp only [resolve, Sem.run_bind, Sem.run_pure, Result.andThen_ok, invoke, builtin]
        simp [cv_int hcx, cv_int hcy, Builtin.max_, Builtin.max2]
      · cases h
    · cases h
  · cases h

theorem bnd_ok (hR : R cx G st a w) {z q : Nat} {y : Option Operand} (hy : bnd T st z y = some q) {m : Nat} (hm : q ≤ m) (code : BoundsCode) :
    (∀ v, y.map a.eval = some v → (Instr.sliceBound v m code).run P w = .ok q w) ∧ (y = none → q = z) := by
  cases y with
  | none => simp only [bnd, Option.some.injEq] at hy; exact ⟨fun v h => (by cases h), fun _ => hy.symm⟩
  | some x =>
    refine ⟨fun v hv => ?_, fun h => (by cases h)⟩
    obtain rfl := Option.some.inj hv
    simp only [bnd] at hy
    split at hy
    · rename_i k n hn
      split at hy
      · rename_i h0
        obtain rfl := Option.some.inj hy
        have hq := rd_q (T := T) hR 0 x
        rw [hn] at hq
        rw [cv_int hq]
        simp only [Instr.sliceBound, asIntOf, Sem.run_bind, Sem.run_pure, Result.andThen_ok]
        rw [if_pos ⟨h0, by omega⟩]; rfl
      · cases hy
    · cases hy

theorem bounds_ok (hR : R cx G st a w) {b : Bool} {len cap l h : Nat} {lo hi : Option Operand} (hl : bnd T st 0 lo = some l) (hh : bnd T st len hi = some h) (h1 : l ≤ h) (h2 : h ≤ cap) :
    (Instr.sliceBounds b len cap (lo.map a.eval) (hi.map a.eval) none).run P w = .ok (l, h, cap) w := by
  unfold Instr.sliceBounds
  have b1 := bnd_ok (P := P) hR hl h1 .sliceB
  have b2 := bnd_ok (P := P) hR hh h2 (if b then .sliceAcap else .sliceAlen)
  cases lo <;> cases hi <;> simp_all

theorem capsOf_ok (hR : R cx G st a w) : ∀ (xs : List Operand) (vs : List CV), capsOf (rd T st 0) xs = some vs → All2 (CVR G.toMk w Emp) vs (xs.map a.eval)
  | [], vs, h => by simp only [capsOf, Option.some.injEq] at h; subst h; trivial
  | x :: xs, vs, h => by
    simp only [capsOf] at h
    split at h
    · rename_i v us hv hus
      obtain rfl := Option.some.inj h
      refine ⟨?_, capsOf_ok hR xs us hus⟩
      have := rd_q (T := T) hR 0 x
      rw [hv] at this
      exact this
    · cases h
end
end Go.Proofs.Ytgmjgognpabmdaa.Fx
