/- The evaluator's second make: a map's entries found. -/
import Derived.Test.YtgmjgognpabmdaaFx4
import Derived.Maps.RangeRun
namespace Go.Proofs.Ytgmjgognpabmdaa.Fx
open Go Go.RowKit
set_option linter.unusedSimpArgs false
set_option linter.unusedVariables false
variable {P : Program} {T : TypeId → Option TI} {w w' : World}

/-- An entry as it stands. -/
def EntR (M : Mk) (w : World) (e : AV × AV × Nat) (m : MapEntry) : Prop := AVR M w e.1 m.key ∧ AVR M w e.2.1 m.val ∧ m.born = e.2.2

theorem keyOf_ok {M : Mk} {sv : SV} {ka : AV} {x : Value} (h : keyOf sv = some ka) (hx : SVR M w sv x) : AVR M w ka x := by
  unfold keyOf at h
  split at h
  · obtain rfl := Option.some.inj h; exact hx
  · obtain rfl := Option.some.inj h; exact hx
  · cases h

theorem key_val {M : Mk} {tk : TI} {ka : AV} {kv : Value} {d : TypeDesc} (hi : keyIs T tk ka = true) (hf : tk.k.fits d) (hk : AVR M w ka kv) : MapKept.IsKey d kv := by
  unfold keyIs at hi
  split at hi
  · rename_i k' n
    obtain rfl := cv_int hk
    split at hi
    · rename_i k hq
      rw [hq] at hf
      have hf' : d = .int k := hf
      subst hf'
      simp at hi
      simp [MapKept.IsKey, hi]
    · cases hi
  · rename_i s
    obtain rfl := cv_str hk
    split at hi
    · rename_i hq
      rw [hq] at hf
      have hf' : d = .string := hf
      subst hf'
      simp [MapKept.IsKey]
    · cases hi
  · rename_i b
    obtain rfl := cv_bool hk
    split at hi
    · rename_i hq
      rw [hq] at hf
      have hf' : d = .bool := hf
      subst hf'
      simp [MapKept.IsKey]
    · cases hi
  · cases hi

theorem keyEq_ok {M : Mk} {tk : TI} {ka kb : AV} {kv kw : Value} {d : TypeDesc} {b : Bool} (hi : keyIs T tk ka = true) (hf : tk.k.fits d) (hk : AVR M w ka kv) (hb : AVR M w kb kw) (h : keyEq T tk ka kb = some b) : Instr.sameNow d kv kw = some b ∧ (b = true → kv = kw) := by
  have hik := key_val hi hf hk
  unfold keyEq at h
  split at h
  · rename_i k x k' y
    split at h
    · rename_i e; subst e
      obtain rfl := cv_int hk
      obtain rfl := cv_int hb
      obtain rfl := Option.some.inj h
      cases d <;> simp only [MapKept.IsKey] at hik
      by_cases hxy : x = y <;> simp [Instr.sameNow, hxy]
    · cases h
  · rename_i x y
    obtain rfl := cv_str hk
    obtain rfl := cv_str hb
    obtain rfl := Option.some.inj h
    cases d <;> simp only [MapKept.IsKey] at hik
    by_cases hxy : x = y
    · subst hxy; simp [Instr.sameNow, MapKept.bytes_beq]
    · have : (x == y) = false := by
        cases hq : x == y with
        | false => rfl
        | true => exact absurd ((MapKept.bytes_beq x y).1 hq) hxy
      simp [Instr.sameNow, hxy, this]
  · rename_i x y
    obtain rfl := cv_bool hk
    obtain rfl := cv_bool hb
    obtain rfl := Option.some.inj h
    cases d <;> simp only [MapKept.IsKey] at hik
    cases x <;> cases y <;> simp [Instr.sameNow]
  · cases h

theorem mfind_ok {M : Mk} {tk : TI} {ka : AV} {kv : Value} {d : TypeDesc} (hi : keyIs T tk ka = true) (hf : tk.k.fits d) (hk : AVR M w ka kv) : ∀ (es : List (AV × AV × Nat)) (ents : List MapEntry) (n : Nat) {r}, All2 (EntR M w) es ents → mfind T tk ka es = some r →
    match r with
    | none => Instr.findNow d kv ents n = some none
    | some (i, v) => ∃ e m, es[i]? = some e ∧ e.2.1 = v ∧ ents[i]? = some m ∧ m.key = kv ∧ Instr.findNow d kv ents n = some (some (n + i, m.val))
  | [], [], n, r, _, h => by obtain rfl := Option.some.inj h; rfl
  | e :: es, m :: ents, n, r, hA, h => by
    simp only [mfind] at h
    split at h
    · rename_i hq
      obtain rfl := Option.some.inj h
      obtain ⟨h1, h2⟩ := keyEq_ok hi hf hk hA.1.1 hq
      exact ⟨e, m, rfl, rfl, rfl, (h2 rfl).symm, by simp [Instr.findNow, h1]⟩
    · rename_i hq
      obtain ⟨h1, _⟩ := keyEq_ok hi hf hk hA.1.1 hq
      split at h
      · rename_i i v hm
        obtain rfl := Option.some.inj h
        have ih := mfind_ok hi hf hk es ents (n + 1) hA.2 hm
        obtain ⟨e', m', q1, q2, q3, q4, q5⟩ := ih
        exact ⟨e', m', by simpa using q1, q2, by simpa using q3, q4, by simp only [Instr.findNow, h1, q5]; congr 3; omega⟩
      · rename_i hm
        obtain rfl := Option.some.inj h
        have ih := mfind_ok hi hf hk es ents (n + 1) hA.2 hm
        simp only at ih
        simp [Instr.findNow, h1, ih]
      · cases h
    · cases h
  | [], _ :: _, _, _, hA, _ => hA.elim
  | _ :: _, [], _, _, hA, _ => hA.elim

section
variable {cx : Cx} {G : Gh} {st : St} {a : Act}

theorem zeroAV_ok (hT : TOk P T) {t : TypeId} {te : TI} (ht : T t = some te) {z : AV} (h : zeroAV te = some z) (M : Mk) (w : World) : ∃ x, (zeroValue t).run P w = .ok x w ∧ AVR M w z x := by
  obtain ⟨info, zv, hi, hsz, hby, hz, hzr, hag⟩ := (hT _ _ ht).info
  refine ⟨zv, by simp [zeroValue, typeInfo, hi, hz], ?_⟩
  unfold zeroAV at h
  by_cases hk : te.k.isAgg = true
  · rw [if_pos hk] at h
    obtain rfl := Option.some.inj h
    obtain ⟨cs, rfl⟩ := hag hk
    exact ⟨cs.toList, by simp, hzr.mono fun _ _ => zero_cv⟩
  · rw [if_neg hk] at h
    split at h
    · rename_i c hc
      obtain rfl := Option.some.inj h
      rw [hc] at hzr
      have hna : ∀ cs, zv ≠ .agg cs := fun cs e => by subst e; exact absurd ((hT _ _ ht).zone info cs hi hz) hk
      have key : zeroR c zv := by
        have : zv.cells = #[zv] := by
          cases zv <;> first | rfl | (exact absurd rfl (hna _))
        rw [this] at hzr
        exact hzr.1
      exact zero_cv key
    · cases h

theorem esOf_ok (hR : R cx G st a w) {sv : SV} {x : Value} {es : List (AV × AV × Nat)} (h : esOf st sv = some es) (hx : SVR G.toMk w sv x) : (x = .map none ∧ es = []) ∨ ∃ b ents clock, x = .map (some b) ∧ w.heap[b]? = some (.map ents clock) ∧ All2 (EntR G.toMk w) es ents.toList := by
  unfold esOf at h
  split at h
  · obtain rfl := cv_nilm hx
    obtain rfl := Option.some.inj h
    exact .inl ⟨rfl, rfl⟩
  · rename_i nm
    split at h
    · rename_i clock es' hb
      obtain rfl := Option.some.inj h
      obtain ⟨p, hp, rfl⟩ := cv_mm hx
      obtain ⟨p', hp', _, ents, h3, h4⟩ := hR.heap nm _ hb
      rw [hp] at hp'
      obtain rfl := Option.some.inj hp'
      exact .inr ⟨_, ents, clock, rfl, h3, h4⟩
    · cases h
  · cases h

theorem run_findKey_ok (hT : TOk P T) {kt : TypeId} {tk : TI} (hk : T kt = some tk) {M : Mk} {ka : AV} {kv : Value} (hi : keyIs T tk ka = true) (hka : AVR M w ka kv) {es : List (AV × AV × Nat)} {ents : List MapEntry} (hA : All2 (EntR M w) es ents) {r} (hm : mfind T tk ka es = some r) :
    (∀ em, (Instr.checkKey em 10000 kt kv).run P w = .ok () w) ∧ (Instr.keyThatStays kv kv).run P w = .ok kv w ∧ match r with
      | none => (Instr.findKey kt kv ents).run P w = .ok none w
      | some (i, v) => ∃ e m, es[i]? = some e ∧ e.2.1 = v ∧ ents[i]? = some m ∧ m.key = kv ∧ (Instr.findKey kt kv ents).run P w = .ok (some (i, m.val)) w := by
  obtain ⟨d, hd, hf⟩ := (hT _ _ hk).kind
  have hik := key_val hi hf hka
  refine ⟨fun em => MapKept.run_checkKey hd hik em 9999, MapKept.run_keyThatStays hik, ?_⟩
  have h := mfind_ok hi hf hka es ents 0 hA hm
  cases r with
  | none => exact MapKept.run_findKey hd h
  | some p =>
    obtain ⟨e, m, h1, h2, h3, h4, h5⟩ := h
    exact ⟨e, m, h1, h2, h3, h4, MapKept.run_findKey hd (by rw [h5]; simp)⟩

def lookTail (kt vt : TypeId) (index : Value) (ok : Bool) (es : Array MapEntry) : Sem Value := do
  Instr.checkKey es.isEmpty 10000 kt index
  let (v, ok') ← match ← Instr.findKey kt index es.toList with
    | some (_, v) => pure (v, true)
    | none => pure (← zeroValue vt, false)
  pure (if ok then .tuple #[v, .bool ok'] else v)

theorem lookup_ok (hT : TOk P T) (hR : R cx G st a w) {o : Oper} {t : TypeId} {x i : Operand} {ok : Bool} (ho : o.op = .lookup t x i ok) {sv : SV} (h : lookupS T st t x i ok = some sv) :
    ∃ v, (execOp a.eval o).run P w = .ok (.value v) w ∧ SVR G.toMk w sv v := by
  unfold lookupS at h
  split at h
  · rename_i ti ht
    split at h
    · rename_i kt vt hk
      split at h
      · rename_i tk te es ka htk hte hes hka
        by_cases hi : keyIs T tk ka = true
        · rw [hi] at h
          have hu := kind_map hT ht hk
          have hxq := rd_q (T := T) hR t x
          have hAk := keyOf_ok (M := G.toMk) hka (rd_q (T := T) hR kt i)
          have main : ∀ (ents : Array MapEntry), All2 (EntR G.toMk w) es ents.toList → (Instr.lookup t (a.eval x) (a.eval i) ok).run P w = (lookTail kt vt (a.eval i) ok ents).run P w → ∃ v, (Instr.lookup t (a.eval x) (a.eval i) ok).run P w = .ok v w ∧ SVR G.toMk w sv v := by
            intro ents hA hlook
            rw [hlook]
            split at h
            · rename_i j v _ hm
              obtain ⟨hc, _, e, m, h1, h2, h3, h4, h5⟩ := run_findKey_ok hT htk hi hAk hA hm
              obtain rfl := Option.some.inj h
              have hv : AVR G.toMk w v m.val := by
                obtain ⟨m', q1, q2⟩ := hA.get j e h1
                rw [h3] at q1
                obtain rfl := Option.some.inj q1
                rw [← h2]; exact q2.2.1
              refine ⟨if ok then .tuple #[m.val, .bool true] else m.val, by simp [lookTail, hc, h5, Result.andThen], ?_⟩
              cases ok with
              | false => exact AV.sv_q hv
              | true => exact ⟨[m.val, .bool true], rfl, hv, CVR.t (.bool true), trivial⟩
            · rename_i _ hm
              obtain ⟨hc, _, h5⟩ := run_findKey_ok hT htk hi hAk hA hm
              simp only at h5
              split at h
              · rename_i z hz
                obtain ⟨zv, hz1, hz2⟩ := zeroAV_ok hT hte hz G.toMk w
                obtain rfl := Option.some.inj h
                refine ⟨if ok then .tuple #[zv, .bool false] else zv, by simp [lookTail, hc, h5, hz1, Result.andThen], ?_⟩
                cases ok with
                | false => exact AV.sv_q hz2
                | true => exact ⟨[zv, .bool false], rfl, hz2, CVR.t (.bool false), trivial⟩
              · cases h
            · cases h
          have fin : ∃ v, (Instr.lookup t (a.eval x) (a.eval i) ok).run P w = .ok v w ∧ SVR G.toMk w sv v := by
            rcases esOf_ok hR hes hxq with ⟨hx, rfl⟩ | ⟨b, ents, clock, hx, hb, hA⟩
            · refine main #[] trivial ?_
              rw [hx]
              simp only [Instr.lookup, lookTail, Sem.run_bind, run_under hu, Sem.run_pure, Result.andThen]
              rfl
            · refine main ents hA ?_
              rw [hx]
              simp only [Instr.lookup, lookTail, Sem.run_bind, run_under hu, run_getObj_map hb, Sem.run_pure, Result.andThen]
              rfl
          obtain ⟨v, h1, h2⟩ := fin
          exact ⟨v, by simp only [execOp, ho]; exact run_value' _ _ _ _ h1, h2⟩
        · rw [Bool.not_eq_true] at hi
          rw [hi] at h
          simp at h
      · cases h
    · cases h
  · cases h

theorem mfind_mem {tk : TI} {ka : AV} : ∀ {es : List (AV × AV × Nat)} {i : Nat} {v : AV}, mfind T tk ka es = some (some (i, v)) → ∃ e ∈ es, e.2.1 = v
  | [], _, _, h => by cases h
  | e :: es, i, v, h => by
    simp only [mfind] at h
    split at h
    · obtain ⟨_, rfl⟩ := Prod.mk.inj (Option.some.inj (Option.some.inj h)); exact ⟨e, by simp, rfl⟩
    · split at h
      · rename_i hm
        obtain ⟨_, rfl⟩ := Prod.mk.inj (Option.some.inj (Option.some.inj h))
        obtain ⟨e', h1, h2⟩ := mfind_mem hm
        exact ⟨e', by simp [h1], h2⟩
      · cases Option.some.inj h
      · cases h
    · cases h
end
end Go.Proofs.Ytgmjgognpabmdaa.Fx
