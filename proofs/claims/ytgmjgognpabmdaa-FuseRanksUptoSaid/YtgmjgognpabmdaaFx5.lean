/- The evaluator's second make: an operation that only reads, run. -/
import Derived.Test.YtgmjgognpabmdaaFxM0
namespace Go.Proofs.Ytgmjgognpabmdaa.Fx
open Go Go.RowKit
set_option linter.unusedSimpArgs false
set_option linter.unusedVariables false
variable {P : Program} {T : TypeId → Option TI} {w : World}
section
variable {cx : Cx} {G : Gh} {st : St} {a : Act}

theorem rd_int (hR : R cx G st a w) {x : Operand} {ty : TypeId} {k : IntKind} {n : Int} (h : rd T st ty x = .c (.t (.int k n))) : a.eval x = .int k n := by
  have := rd_q (T := T) hR ty x
  rw [h] at this
  exact cv_int this

theorem not_iface {t : TypeId} {ti : TI} (h : TIOk P t ti) (hk : ∀ e, ti.k ≠ .iface e) : ∃ d, P.underlying t = some d ∧ ∀ ms, d ≠ .interface ms := by
  obtain ⟨d, hd, hf⟩ := h.kind
  refine ⟨d, hd, fun ms e => ?_⟩
  subst e
  cases hk9 : ti.k <;> rw [hk9] at hf
  case iface e => exact hk e hk9
  all_goals simp [TK.fits] at hf

theorem run_makeInterface {t : TypeId} {d : TypeDesc} (hd : P.underlying t = some d) (hnd : ∀ ms, d ≠ .interface ms) (x : Value) : (Instr.makeInterface t x).run P w = .ok (.iface t x) w := by
  cases d <;> first | exact absurd rfl (hnd _) | simp [Instr.makeInterface, run_under hd]

theorem run_typeAssert {t xt : TypeId} {d : TypeDesc} (hd : P.underlying t = some d) (hnd : ∀ ms, d ≠ .interface ms) (v : Value) : (Instr.typeAssert (.iface t v) xt t false).run P w = .ok v w := by
  cases d <;> first | exact absurd rfl (hnd _) | simp [Instr.typeAssert, run_under hd]

theorem slice_ok (hT : TOk P T) (hR : R cx G st a w) {o : Oper} {t : TypeId} {x : Operand} {lo hi : Option Operand} {ti : TI} (ht : T t = some ti) {e : TypeId} (hk : ti.k = .slice e) {te : TI} (he : T e = some te) (ho : o.op = .slice t x lo hi none)
    {a0 : Option Addr} {len cap l h : Nat} (hx : a.eval x = .slice a0 len cap) (hl : bnd T st 0 lo = some l) (hh : bnd T st len hi = some h) (h1 : l ≤ h) (h2 : h ≤ cap) :
    (execOp a.eval o).run P w = .ok (.value (.slice (if cap = l then a0 else a0.map (·.add (l * te.size))) (h - l) (cap - l))) w := by
  have hu := kind_slice hT ht hk
  have hb := bounds_ok (P := P) (b := true) hR hl hh h1 h2
  have hx9 : (execOp a.eval o).run P w = ((do pure (Next.value (← Instr.sliceAt t (a.eval x) (lo.map a.eval) (hi.map a.eval) none))) : Sem Next).run P w := by simp only [execOp, ho, Option.map_none]
  rw [hx9, hx]
  exact run_value _ _ _ (by simp [Instr.sliceAt, Instr.slice, run_under hu, hb, run_size (hT _ _ he)])

theorem slice0_ok (hT : TOk P T) (hR : R cx G st a w) {o : Oper} {t : TypeId} {x m : Operand} {lo hi : Option Operand} {ti : TI} (ht : T t = some ti) {e : TypeId} (hk : ti.k = .slice e) {te : TI} (he : T e = some te) (ho : o.op = .slice t x lo hi (some m))
    {a0 : Option Addr} {len cap : Nat} (hx : a.eval x = .slice a0 len cap) (hl : bnd T st 0 lo = some 0) (hh : bnd T st 0 hi = some 0) (hm : bnd T st 0 (some m) = some 0) (hh2 : hi = none → False) :
    ∃ b, (execOp a.eval o).run P w = .ok (.value (.slice b 0 0)) w := by
  have hu := kind_slice hT ht hk
  have hx9 : (execOp a.eval o).run P w = ((do pure (Next.value (← Instr.sliceAt t (a.eval x) (lo.map a.eval) (hi.map a.eval) (some (a.eval m))))) : Sem Next).run P w := by simp only [execOp, ho, Option.map_some]
  refine ⟨a0, ?_⟩
  rw [hx9, hx]
  have b0 := (bnd_ok (P := P) hR hm (Nat.zero_le cap) .slice3Acap).1 _ rfl
  have b1 := bnd_ok (P := P) hR hl (Nat.le_refl 0) .slice3C
  have b2 := bnd_ok (P := P) hR hh (Nat.le_refl 0) .slice3B
  have hb : (Instr.sliceBounds true len cap (lo.map a.eval) (hi.map a.eval) (some (a.eval m))).run P w = .ok (0, 0, 0) w := by
    unfold Instr.sliceBounds
    cases hi with
    | none => exact (hh2 rfl).elim
    | some h9 =>
      have b2' := b2.1 _ rfl
      cases lo with
      | none => simp [b0, b2']
      | some l9 =>
        have b1' := b1.1 _ rfl
        simp [b0, b1', b2']
  exact run_value _ _ _ (by simp [Instr.sliceAt, Instr.slice, run_under hu, hb, run_size (hT _ _ he)])

theorem quiet_ok (hT : TOk P T) (hR : R cx G st a w) {o : Oper} {sv : SV} (h : quiet T st o = some sv) :
    ∃ x, (execOp a.eval o).run P w = .ok (.value x) w ∧ SVR G.toMk w sv x := by
  have hrd := fun ty x => rd_q (T := T) hR ty x
  have hri := fun {x : Operand} {ty : TypeId} {k : IntKind} {n : Int} => rd_int (T := T) (x := x) (ty := ty) (k := k) (n := n) hR
  unfold quiet at h
  split at h
  · rename_i x hop
    obtain rfl := Option.some.inj h
    exact ⟨_, by simp [execOp, hop], hrd _ _⟩
  · rename_i x hop
    obtain rfl := Option.some.inj h
    exact ⟨_, by simp [execOp, hop], hrd _ _⟩
  · -- nilCheck
    rename_i x hop
    have hx := hrd o.type x
    split at h <;> (try cases h)
    · rename_i hs; rw [hs] at hx; obtain ⟨p, hp, he⟩ := cv_mp hx; exact ⟨a.eval x, by simp [execOp, hop, he], hx⟩
    · rename_i hs; rw [hs] at hx; have he := cv_fn hx; exact ⟨a.eval x, by simp [execOp, hop, he], hx⟩
    · rename_i f9 a9 b9 hs
      rw [hs] at hx
      refine ⟨a.eval x, ?_, hx⟩
      have hx2 : CVR G.toMk w Emp (.fnc f9 a9 b9) (a.eval x) := hx
      generalize hX : a.eval x = X at hx2
      cases hx2 with
      | fnc f first caps us vs => simp [execOp, hop, hX]
    · rename_i t9 g9 c9 hs
      rw [hs] at hx
      refine ⟨a.eval x, ?_, hx⟩
      have hx2 : CVR G.toMk w Emp (.ifc t9 g9 c9) (a.eval x) := hx
      generalize hX : a.eval x = X at hx2
      cases hx2 <;> simp [execOp, hop, hX]
    · rename_i cs hs
      rw [hs] at hx
      obtain ⟨b, o9, he, h2, h3⟩ := hx
      exact ⟨a.eval x, by simp [execOp, hop, he], ⟨b, o9, he, h2, h3⟩⟩
  · rename_i c x y hop
    split at h
    · rename_i B hB
      obtain rfl := Option.some.inj h
      have hc := hrd o.type c
      rw [hB] at hc
      have hcb := cv_bool hc
      refine ⟨if B then a.eval x else a.eval y, by simp [execOp, hop, hcb, asBool], ?_⟩
      cases B
      · exact hrd _ _
      · exact hrd _ _
    · cases h
  · rename_i op ty x y _ hop
    split at h
    · rename_i v hv
      obtain rfl := Option.some.inj h
      obtain ⟨r, hr, hv⟩ := binS_ok hT hv x y (hrd _ _) (hrd _ _)
      exact ⟨r, by simp only [execOp, hop]; exact run_value _ _ _ hr, .t (hv _ _)⟩
    · split at h
      · rename_i ti hti
        split at h
        · rename_i e hk
          split at h
          · rename_i v hv
            obtain rfl := Option.some.inj h
            obtain ⟨r, hr, hv⟩ := nilS_ok (x := a.eval x) (y := a.eval y) hT hti hk hv x y (hrd _ _) (fun c hc => by subst hc; rfl)
            exact ⟨r, by simp only [execOp, hop]; exact run_value _ _ _ hr, .t (hv _ _)⟩
          · cases h
        · cases h
      · cases h
  · rename_i op ty x hop
    split at h
    · rename_i v hv
      obtain rfl := Option.some.inj h
      obtain ⟨r, hr, hv⟩ := unS_ok (P := P) hv (hrd _ _)
      exact ⟨r, by simp only [execOp, hop]; exact run_value _ _ _ hr, .t (hv _ _)⟩
    · cases h
  · rename_i s d x hop
    split at h
    · rename_i ts td k m hs hd hx
      split at h
      · rename_i k' hk
        obtain rfl := Option.some.inj h
        have hc := hri hx
        obtain ⟨ds, hds, _⟩ := (hT _ _ hs).kind
        refine ⟨_, by simp only [execOp, hop]; exact run_value _ _ _ (by rw [hc]; simp [convert, run_under hds, run_under (kind_int hT hd hk), Conv.intToInt] <;> rfl), .t (.int _ _)⟩
      · cases h
    · rename_i ts td b hs hd hx
      split at h
      · rename_i hk
        obtain rfl := Option.some.inj h
        have hc := hrd s x
        rw [hx] at hc
        obtain ⟨ds, hds, _⟩ := (hT _ _ hs).kind
        refine ⟨_, by simp only [execOp, hop]; exact run_value _ _ _ (by rw [cv_str hc]; simp [convert, run_under hds, run_under (kind_str hT hd hk)] <;> rfl), .t (.str _)⟩
      · cases h
    · cases h
  · rename_i t parts hop
    split at h
    · rename_i ti ht
      split at h
      · rename_i ha
        split at h
        · rename_i cs hcs
          obtain rfl := Option.some.inj h
          obtain ⟨vs, hv, hr⟩ := build_ok hT ht ha hcs (ρ := a.eval) (M := G.toMk) (w := w) (fun x _ cs hc => cells_q (hrd 0 x.2) hc)
          exact ⟨_, by simp only [execOp, hop]; exact run_value _ _ _ hv, ⟨vs, rfl, hr⟩⟩
        · cases h
      · cases h
    · cases h
  · rename_i t x f hop
    split at h
    · rename_i ti cs ht hx
      have hc := hrd t x
      rw [hx] at hc
      obtain ⟨vs, hvx, hvs⟩ := hc
      split at h
      · rename_i fs hk
        split at h
        · rename_i ft off hf
          obtain ⟨fields, fl, hu, hfl, rfl, rfl⟩ := kind_struct hT ht hk hf
          split at h
          · rename_i te hte
            split at h
            · rename_i ha
              obtain rfl := Option.some.inj h
              refine ⟨.agg ((vs.drop fl.offset).take te.size).toArray, by simp only [execOp, hop]; exact run_value _ _ _ (by simp [Instr.field, run_under hu, hfl, hvx, asAgg, part, run_agg (hT _ _ hte), ha, run_size (hT _ _ hte)]), ⟨_, rfl, (hvs.drop _).take _⟩⟩
            · rename_i ha
              split at h
              · rename_i c hco
                obtain rfl := Option.some.inj h
                obtain ⟨u, hu', hru⟩ := hvs.get _ _ hco
                refine ⟨u, by simp only [execOp, hop]; exact run_value _ _ _ (by simp [Instr.field, run_under hu, hfl, hvx, asAgg, part, run_agg (hT _ _ hte), ha, run_size (hT _ _ hte), hu']), hru⟩
              · cases h
          · cases h
        · cases h
      · cases h
    · cases h
  · rename_i t i hop
    split at h
    · rename_i vs hx
      have hc := hrd 0 t
      rw [hx] at hc
      obtain ⟨us, hux, hus⟩ := hc
      split at h
      · rename_i v hv
        obtain rfl := Option.some.inj h
        obtain ⟨u, hu, hru⟩ := hus.get _ _ hv
        exact ⟨u, by simp only [execOp, hop]; exact run_value _ _ _ (by simp [Instr.extract, hux, hu]), AV.sv_q hru⟩
      · cases h
    · cases h
  · rename_i t x i hop
    split at h
    · rename_i ti s k m ht hx hi
      have hc := hrd t x
      rw [hx] at hc
      have hci := hri hi
      split at h
      · rename_i hk
        split at h
        · rename_i h0
          split at h
          · rename_i b hb
            obtain rfl := Option.some.inj h
            have hb' : s[m.toNat]? = some b := hb
            refine ⟨_, by simp only [execOp, hop]; exact run_value _ _ _ (by rw [cv_str hc, hci]; simp [Instr.index, asIntOf, run_under (kind_str hT ht hk), h0, hb'] <;> rfl), .t (.int _ _)⟩
          · cases h
        · cases h
      · cases h
    · rename_i ti cs k m ht hx hi
      have hc := hrd t x
      rw [hx] at hc
      obtain ⟨vs, hvx, hvs⟩ := hc
      have hci := hri hi
      split at h
      · rename_i q e hk
        split at h
        · rename_i te hte
          split at h
          · rename_i hcnd
            have hu := kind_arr hT ht hk
            split at h
            · rename_i ha
              obtain rfl := Option.some.inj h
              refine ⟨.agg ((vs.drop (m.toNat * te.size)).take te.size).toArray, by simp only [execOp, hop]; exact run_value _ _ _ (by simp [Instr.index, hci, asIntOf, run_under hu, hvx, hcnd, part, run_agg (hT _ _ hte), ha, run_size (hT _ _ hte)]), ⟨_, rfl, (hvs.drop _).take _⟩⟩
            · rename_i ha
              split at h
              · rename_i c hco
                obtain rfl := Option.some.inj h
                obtain ⟨u, hu', hru⟩ := hvs.get _ _ hco
                refine ⟨u, by simp only [execOp, hop]; exact run_value _ _ _ (by simp [Instr.index, hci, asIntOf, run_under hu, hvx, hcnd, part, run_agg (hT _ _ hte), ha, run_size (hT _ _ hte), hu']), hru⟩
              · cases h
          · cases h
        · cases h
      · cases h
    · cases h
  · rename_i t x i hop
    split at h
    · rename_i ti sz rows k m ht hx hi
      have hc := hrd t x
      rw [hx] at hc
      have hci := hri hi
      split at h
      · rename_i e hk
        split at h
        · rename_i te hte
          split at h
          · rename_i hcnd
            split at h
            · rename_i row hrow
              obtain rfl := Option.some.inj h
              have hlt := (List.getElem?_eq_some_iff.1 hrow).1
              have hu := kind_slice hT ht hk
              have hc2 := cv_tv hc
              have hx9 : (execOp a.eval o).run P w = ((do pure (Next.value (← Instr.indexAt t (a.eval x) (a.eval i)))) : Sem Next).run P w := by simp only [execOp, hop]
              rw [hx9]
              generalize a.eval x = X at hc2 ⊢
              cases hc2 with
              | nil sz a cap => simp at hlt
              | sl _ _ b o cap f h0 hl hcp he h1 h2 =>
                refine ⟨.pointer (some ⟨b, o + m.toNat * te.size, none⟩), by exact run_value _ _ _ (by rw [hci]; simp [Instr.indexAt, asIntOf, run_under hu, hcnd.2, show m < (rows.length : Int) by omega, run_size (hT _ _ hte), add_at]), ⟨b, o + m.toNat * te.size, rfl, ?_, ?_⟩⟩
                · have hrl := hl row (List.mem_of_getElem? hrow)
                  have := Nat.mul_le_mul_right sz (show m.toNat + 1 ≤ rows.length by omega)
                  rw [Nat.succ_mul] at this
                  rw [hcnd.1]; omega
                · intro j v hj
                  have hjl := (List.getElem?_eq_some_iff.1 hj).1
                  rw [hl row (List.mem_of_getElem? hrow)] at hjl
                  exact ⟨_, by rw [hcnd.1, Nat.add_assoc]; exact h1 m.toNat j hlt hjl, h2 _ _ _ _ hrow hj⟩
            · cases h
          · cases h
        · cases h
      · cases h
    · rename_i ti nm lo len k m ht hx hi
      have hc := hrd t x
      rw [hx] at hc
      have hci := hri hi
      split at h
      · rename_i e sz rows hk hb
        split at h
        · rename_i te hte
          split at h
          · rename_i hcnd
            obtain rfl := Option.some.inj h
            have hu := kind_slice hT ht hk
            have hc2 : CVR G.toMk w Emp (.mr nm lo len) (a.eval x) := hc
            have hx9 : (execOp a.eval o).run P w = ((do pure (Next.value (← Instr.indexAt t (a.eval x) (a.eval i)))) : Sem Next).run P w := by simp only [execOp, hop]
            rw [hx9, hci]
            generalize a.eval x = X at hc2 ⊢
            cases hc2 with
            | mr0 => omega
            | mr _ _ _ cap p hp h1 h2 h3 h4 =>
              have hps := (blk_some hR hb hp).1
              refine ⟨_, run_value _ _ _ (by simp [Instr.indexAt, asIntOf, run_under hu, hcnd.2, run_size (hT _ _ hte), add_at] <;> rfl), ?_⟩
              rw [hcnd.1, ← hps, Nat.add_assoc, ← Nat.add_mul]
              have := CVR.mp (M := G.toMk) (w := w) (S := Emp) nm (lo + m.toNat) 0 p hp
              rw [Nat.add_zero] at this
              exact this
          · cases h
        · cases h
      · cases h
    · rename_i ti nm i0 o0 k m ht hx hi
      have hc := hrd t x
      rw [hx] at hc
      have hci := hri hi
      split at h
      · rename_i q e hk
        split at h
        · rename_i te hte
          split at h
          · rename_i hcnd
            obtain rfl := Option.some.inj h
            have hu := kind_arr hT ht hk
            obtain ⟨p, hp, hxe⟩ := cv_mp hc
            refine ⟨_, by simp only [execOp, hop]; exact run_value _ _ _ (by rw [hci, hxe]; simp [Instr.indexAt, Instr.sureAddr, asIntOf, run_under hu, hcnd, run_size (hT _ _ hte), add_at] <;> rfl), ?_⟩
            have := CVR.mp (M := G.toMk) (w := w) (S := Emp) nm i0 (o0 + m.toNat * te.size) p hp
            rw [← Nat.add_assoc (i0 * p.sz), ← Nat.add_assoc p.o] at this
            exact this
          · cases h
        · cases h
      · cases h
    · rename_i ti cs k m ht hx hi
      have hc := hrd t x
      rw [hx] at hc
      have hci := hri hi
      obtain ⟨b, o9, hxe, hle, hcell⟩ := hc
      split at h
      · rename_i q e hk
        split at h
        · rename_i te hte
          split at h
          · rename_i hcnd
            obtain rfl := Option.some.inj h
            have hu := kind_arr hT ht hk
            refine ⟨_, by simp only [execOp, hop]; exact run_value _ _ _ (by rw [hci, hxe]; simp [Instr.indexAt, Instr.sureAddr, asIntOf, run_under hu, hcnd, run_size (hT _ _ hte), add_at] <;> rfl), ⟨b, o9 + m.toNat * te.size, rfl, by rw [List.length_drop]; omega, fun j v hj => ?_⟩⟩
            rw [List.getElem?_drop] at hj
            rw [Nat.add_assoc]
            exact hcell _ _ hj
          · cases h
        · cases h
      · cases h
    · cases h
  · rename_i t x f hop
    split at h
    · rename_i ti nm i0 o0 ht hx
      have hc := hrd t x
      rw [hx] at hc
      split at h
      · rename_i fs hk
        split at h
        · rename_i ft off hf
          obtain ⟨fields, fl, hu, hfl, rfl, rfl⟩ := kind_struct hT ht hk hf
          split at h
          · rename_i te hte
            split at h
            · cases h
            · rename_i hz
              obtain rfl := Option.some.inj h
              obtain ⟨p, hp, hxe⟩ := cv_mp hc
              refine ⟨_, by simp only [execOp, hop]; exact run_value _ _ _ (by rw [hxe]; simp [Instr.fieldAt, Instr.sureAddr, run_under hu, hfl, fieldPlace, run_size (hT _ _ hte), hz, add_at] <;> rfl), ?_⟩
              have := CVR.mp (M := G.toMk) (w := w) (S := Emp) nm i0 (o0 + fl.offset) p hp
              rw [← Nat.add_assoc (i0 * p.sz), ← Nat.add_assoc p.o] at this
              exact this
          · cases h
        · cases h
      · cases h
    · rename_i ti cs ht hx
      have hc := hrd t x
      rw [hx] at hc
      obtain ⟨b, o, hxe, hle, hcell⟩ := hc
      split at h
      · rename_i fs hk
        split at h
        · rename_i ft off hf
          obtain ⟨fields, fl, hu, hfl, rfl, rfl⟩ := kind_struct hT ht hk hf
          split at h
          · rename_i te hte
            split at h
            · cases h
            · rename_i hz
              obtain rfl := Option.some.inj h
              have hz1 : ¬ te.size = 0 := fun e => hz (.inl e)
              have hz2 : fl.offset ≤ cs.length := Nat.le_of_not_lt fun e => hz (.inr e)
              refine ⟨_, by simp only [execOp, hop]; exact run_value _ _ _ (by rw [hxe]; simp [Instr.fieldAt, Instr.sureAddr, run_under hu, hfl, fieldPlace, run_size (hT _ _ hte), hz1, add_at] <;> rfl), ⟨b, o + fl.offset, rfl, by rw [List.length_drop]; omega, fun j v hj => ?_⟩⟩
              rw [List.getElem?_drop] at hj
              rw [Nat.add_assoc]
              exact hcell _ _ hj
          · cases h
        · cases h
      · cases h
    · cases h
  · rename_i t x hop
    split at h
    · rename_i ti cs ht hx
      have hc := hrd 0 x
      rw [hx] at hc
      obtain ⟨b, o, hxe, hle, hcell⟩ := hc
      obtain ⟨l1, l2⟩ := load_ok hT ht hcell
      split at h
      · rename_i ha
        split at h
        · rename_i hs
          obtain rfl := Option.some.inj h
          obtain ⟨us, hl, hr⟩ := l1 ha hs
          exact ⟨_, by simp only [execOp, hop]; exact run_value _ _ _ (by rw [hxe]; simp [Instr.loadAt, Instr.sureAddr, hl] <;> rfl), ⟨us, rfl, All2.map_left (hr.mono fun _ _ h => .t h)⟩⟩
        · cases h
      · rename_i ha
        split at h
        · rename_i v hv
          obtain rfl := Option.some.inj h
          obtain ⟨u, hl, hr⟩ := l2 (by simpa using ha) v hv
          exact ⟨u, by simp only [execOp, hop]; exact run_value _ _ _ (by rw [hxe]; simp [Instr.loadAt, Instr.sureAddr, hl]), .t hr⟩
        · cases h
    · rename_i ti nm i0 o0 ht hx
      have hc := hrd 0 x
      rw [hx] at hc
      obtain ⟨p, hp, hxe⟩ := cv_mp hc
      split at h
      · rename_i sz rows hb
        split at h
        · rename_i row hrow
          have hcell := blk_cell hR hb hp hrow o0
          obtain ⟨l1, l2⟩ := load_ok hT ht hcell
          split at h
          · rename_i ha
            split at h
            · rename_i hs
              obtain rfl := Option.some.inj h
              obtain ⟨us, hl, hr⟩ := l1 ha (by simp; omega)
              refine ⟨_, by simp only [execOp, hop]; exact run_value _ _ _ (by rw [hxe]; simp [Instr.loadAt, Instr.sureAddr, hl] <;> rfl), ⟨us, rfl, ?_⟩⟩
              exact All2.map_left (hr.mono fun _ _ h => by obtain ⟨S, h⟩ := h; exact h.copied)
            · cases h
          · rename_i ha
            split at h
            · rename_i c hcv
              obtain rfl := Option.some.inj h
              obtain ⟨u, hl, S, hr⟩ := l2 (by simpa using ha) c (by simp [hcv])
              exact ⟨u, by simp only [execOp, hop]; exact run_value _ _ _ (by rw [hxe]; simp [Instr.loadAt, Instr.sureAddr, hl]), hr.copied⟩
            · cases h
        · cases h
      · cases h
    · cases h
  · rename_i c hop
    obtain ⟨x, hx, hq⟩ := quietCall_ok hT hR h
    exact ⟨x, by simp only [execOp, hop]; exact hx, hq⟩
  · -- makeFunc
    rename_i f xs ys hop
    split at h
    · rename_i us vs hus hvs
      obtain rfl := Option.some.inj h
      have h1 := capsOf_ok hR _ _ hus
      have h2 := capsOf_ok hR _ _ hvs
      have e1 : Array.map a.eval xs = (xs.toList.map a.eval).toArray := by apply Array.ext'; simp
      have e2 : Array.map a.eval ys = (ys.toList.map a.eval).toArray := by apply Array.ext'; simp
      refine ⟨.func (.func f) (xs.toList.map a.eval).toArray (ys.toList.map a.eval).toArray, by simp [execOp, hop, Instr.makeFunc, e1, e2], .fnc f us vs _ _ h1.length h2.length (fun i c u hi hu => ?_) (fun i c u hi hu => ?_)⟩
      · obtain ⟨y, hy, hr⟩ := h1.get i c hi
        rw [hu] at hy; exact Option.some.inj hy ▸ hr
      · obtain ⟨y, hy, hr⟩ := h2.get i c hi
        rw [hu] at hy; exact Option.some.inj hy ▸ hr
    · cases h
  · -- makeInterface
    rename_i t x hop
    have hmk : ∀ {ti : TI}, T t = some ti → (∀ e, ti.k ≠ .iface e) → (execOp a.eval o).run P w = .ok (.value (.iface t (a.eval x))) w := by
      intro ti ht hk
      obtain ⟨d, hd, hnd⟩ := not_iface (hT _ _ ht) hk
      simp only [execOp, hop]
      exact run_value _ _ _ (run_makeInterface hd hnd _)
    split at h
    · rename_i ti v ht hx
      have hc := hrd t x
      rw [hx] at hc
      split at h
      · cases h
      · rename_i hk
        obtain rfl := Option.some.inj h
        exact ⟨_, hmk ht (fun e he => hk e he), .ifc t v _ hc⟩
    · rename_i ti cs ht hx
      have hc := hrd t x
      rw [hx] at hc
      obtain ⟨vs, hvx, hvs⟩ := hc
      split at h
      · cases h
      · rename_i hk
        obtain rfl := Option.some.inj h
        refine ⟨_, hmk ht (fun e he => hk e he), ?_⟩
        rw [hvx]
        exact .ifcA t cs vs hvs.length (fun i c u hi hu => by
          obtain ⟨y, hy, hr⟩ := hvs.get i c hi
          rw [hu] at hy; exact Option.some.inj hy ▸ hr)
    · cases h
  · -- typeAssert
    rename_i x xt ty hop
    split at h
    · rename_i ti t g cs ht hx
      have hc := hrd 0 x
      rw [hx] at hc
      split at h
      · cases h
      · rename_i hk
        split at h
        · rename_i hty
          subst hty
          obtain ⟨d, hd, hnd⟩ := not_iface (hT _ _ ht) (fun e he => hk e he)
          have hrun : ∀ v, a.eval x = .iface t v → (execOp a.eval o).run P w = .ok (.value v) w := by
            intro v hv
            simp only [execOp, hop]
            refine run_value _ _ _ ?_
            rw [hv]
            exact run_typeAssert hd hnd _
          have hc2 : CVR G.toMk w Emp (.ifc t g cs) (a.eval x) := hc
          generalize hX : a.eval x = X at hc2
          cases hc2 with
          | ifcA _ _ us h1 h3 =>
            simp only [if_true] at h
            obtain rfl := Option.some.inj h
            exact ⟨_, hrun _ hX, ⟨us, rfl, All2.of_get h1 h3⟩⟩
          | ifc _ c u hcu =>
            simp only [Bool.false_eq_true, if_false] at h
            obtain rfl := Option.some.inj h
            exact ⟨_, hrun _ hX, hcu⟩
        · cases h
    · cases h
  · -- a part
    rename_i t x lo hi hop
    split at h
    · rename_i ti sz rows ht hx
      have hcx := hrd t x
      rw [hx] at hcx
      have h2 := cv_tv hcx
      split at h
      · rename_i e l hh hk hl hh'
        split at h
        · rename_i te hte
          split at h
          · rename_i hc
            obtain rfl := Option.some.inj h
            obtain ⟨hsz, hle, hlen⟩ := hc
            have hX : ∃ a0 cap, a.eval x = .slice a0 rows.length cap ∧ rows.length ≤ cap := by
              generalize a.eval x = X at h2
              cases h2 <;> exact ⟨_, _, rfl, by first | assumption | simp⟩
            obtain ⟨a0, cap, hXe, hcap⟩ := hX
            rw [hXe] at h2
            refine ⟨_, slice_ok hT hR ht hk hte hop hXe hl hh' hle (by omega), .t ?_⟩
            split
            · split
              · rename_i hq
                obtain ⟨rfl, hq⟩ := hq
                exact tvr_slicex h2 hq hlen hsz
              · exact tvr_slice h2 hle hlen hsz
            · exact tvr_slice h2 hle hlen hsz
          · cases h
        · cases h
      · cases h
    · rename_i ti sz rows L ht hx
      have hcx := hrd t x
      rw [hx] at hcx
      have h2 := cv_tv hcx
      split at h
      · rename_i e l hh hk hl hh'
        split at h
        · rename_i te hte
          split at h
          · rename_i hc
            obtain rfl := Option.some.inj h
            obtain ⟨hsz, hle, hlen⟩ := hc
            have hX : ∃ a0 cap, a.eval x = .slice a0 L cap ∧ rows.length ≤ cap := by
              generalize a.eval x = X at h2
              cases h2; exact ⟨_, _, rfl, by assumption⟩
            obtain ⟨a0, cap, hXe, hcap⟩ := hX
            rw [hXe] at h2
            exact ⟨_, slice_ok hT hR ht hk hte hop hXe hl hh' hle (by omega), .t (tvr_xslice h2 hle hlen hsz)⟩
          · cases h
        · cases h
      · cases h
    · rename_i ti nm lo0 len ht hx
      have hcx := hrd t x
      rw [hx] at hcx
      split at h
      · rename_i e l hh sz rows hk hl hh' hb
        split at h
        · rename_i te hte
          split at h
          · rename_i hc
            obtain rfl := Option.some.inj h
            obtain ⟨hsz, hle, hlen⟩ := hc
            have hcx2 : CVR G.toMk w Emp (.mr nm lo0 len) (a.eval x) := hcx
            generalize hX : a.eval x = X at hcx2
            cases hcx2 with
            | mr0 =>
              obtain rfl : hh = 0 := by omega
              obtain rfl : l = 0 := by omega
              exact ⟨_, slice_ok hT hR ht hk hte hop hX hl hh' (Nat.le_refl _) (Nat.le_refl _), .mr0 _ _ _⟩
            | mr _ _ _ cap p hp h1 h2 h3 h4 =>
              obtain ⟨q1, q2⟩ := blk_some hR hb hp
              have hcap : hh ≤ cap := by omega
              refine ⟨_, slice_ok hT hR ht hk hte hop hX hl hh' hle hcap, ?_⟩
              by_cases he : cap = l
              · obtain rfl : hh = l := by omega
                rw [if_pos he, he, Nat.sub_self]
                exact .mr0 _ _ _
              · rw [if_neg he]
                simp only [Option.map_some, add_at]
                rw [hsz, ← q1, Nat.add_assoc, ← Nat.add_mul]
                have hrow : lo0 + hh ≤ p.len := by
                  rcases hlen with h9 | h9
                  · omega
                  · rw [q2]; exact h9.2
                exact .mr nm (lo0 + l) (hh - l) (cap - l) p hp (by omega) (by omega) (by omega) (by rw [show lo0 + l + (cap - l) = lo0 + cap by omega]; exact h4)
          · cases h
        · cases h
      · cases h
    · rename_i ti sz ht hx
      have hcx := hrd t x
      rw [hx] at hcx
      obtain ⟨_, a0, hXe⟩ := cv_own hcx
      split at h
      · rename_i e l hh hk hl hh'
        split at h
        · rename_i hc
          obtain ⟨rfl, rfl⟩ := hc
          split at h
          · rename_i te hte
            obtain rfl := Option.some.inj h
            exact ⟨_, slice_ok hT hR ht hk hte hop hXe hl hh' (Nat.le_refl _) (Nat.le_refl _), .nil _ _⟩
          · cases h
        · cases h
      · cases h
    · rename_i ti s ht hx
      have hcx := hrd t x
      rw [hx] at hcx
      split at h
      · rename_i l hh hk hl hh'
        split at h
        · rename_i hc
          obtain rfl := Option.some.inj h
          have hb := bounds_ok (P := P) (b := false) hR hl hh' hc.1 hc.2
          refine ⟨_, ?_, .t (.str _)⟩
          simp only [execOp, hop, Option.map_none]
          exact run_value _ _ _ (by rw [cv_str hcx]; simp [Instr.sliceAt, Instr.slice, run_under (kind_str hT ht hk), hb] <;> rfl)
        · cases h
      · cases h
    · cases h
  · -- none of it
    rename_i t x lo hi m hop
    have hcx := hrd t x
    split at h
    · rename_i ti v ht hx hl hh hm
      rw [hx] at hcx
      split at h
      · rename_i e hk
        have key : ∀ {te : TI} {a0 : Option Addr} {len cap : Nat}, T e = some te → a.eval x = .slice a0 len cap → ∃ b, (execOp a.eval o).run P w = .ok (.value (.slice b 0 0)) w :=
          fun hte hXe => slice0_ok hT hR ht hk hte hop hXe hl hh hm (fun h => by cases h)
        split at h
        · rename_i te sz9 rows9 hte
          obtain rfl := Option.some.inj h
          have h2 := cv_tv hcx
          have : ∃ a0 len cap, a.eval x = .slice a0 len cap := by
            generalize a.eval x = X at h2
            cases h2 <;> exact ⟨_, _, _, rfl⟩
          obtain ⟨a0, len, cap, hXe⟩ := this
          obtain ⟨b, hrun⟩ := key hte hXe
          exact ⟨_, hrun, .nil _ _⟩
        · rename_i te n9 l9 len9 hte
          obtain rfl := Option.some.inj h
          have h2 : CVR G.toMk w Emp (.mr n9 l9 len9) (a.eval x) := hcx
          have : ∃ a0 len cap, a.eval x = .slice a0 len cap := by
            generalize a.eval x = X at h2
            cases h2 <;> exact ⟨_, _, _, rfl⟩
          obtain ⟨a0, len, cap, hXe⟩ := this
          obtain ⟨b, hrun⟩ := key hte hXe
          exact ⟨_, hrun, .nil _ _⟩
        · rename_i te sz9 hte
          obtain rfl := Option.some.inj h
          obtain ⟨_, a0, hXe⟩ := cv_own hcx
          obtain ⟨b, hrun⟩ := key hte hXe
          exact ⟨_, hrun, .nil _ _⟩
        · cases h
      · cases h
    · cases h
  · rename_i t x i ok hop
    exact lookup_ok hT hR hop h
  · cases h
end
end Go.Proofs.Ytgmjgognpabmdaa.Fx
