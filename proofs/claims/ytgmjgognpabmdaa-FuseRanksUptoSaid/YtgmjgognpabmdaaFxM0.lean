/- The evaluator's second make: a map's entries found. -/
import Derived.Test.YtgmjgognpabmdaaFx4
import Derived.Maps.RangeRun
namespace Go.Proofs.Ytgmjgognpabmdaa.Fx
open Go Go.RowKit
set_option linter.unusedSimpArgs false
set_option linter.unusedVariables false
variable {P : Program} {T : TypeId → Option TI} {w w' : World}

/-- An entry as it stands. -/
def EntR (M : Mk) (w : World) (e : AV × AV × Nat) (m : MapEntry) : Prop := AVR M w e.1 m.key ∧ AVR M w e.2.1 m.val ∧ m.born = e.2.2

theorem keyOf_ok {M : Mk} {sv : SV} {ka : AV} {x : Value} (h : keyOf sv = some ka) (hx : SVR M w sv x) : AVR M w ka x := by
  unfold keyOf at h
  split at h
  · obtain rfl := Option.some.inj h; exact hx
  · obtain rfl := Option.some.inj h; exact hx
  · cases h

theorem sc_val {M : Mk} {S : Nat → Prop} {k : TK} {c : CV} {v : Value} {d : TypeDesc} (hi : scIs k c = true) (hf : k.fits d) (hk : CVR M w S c v) : MapKept.IsKey d v := by
  unfold scIs at hi
  split at hi
  · rename_i k' n
    obtain rfl := cv_int hk
    split at hi
    · have hf' : d = .int _ := hf
      subst hf'
      simp at hi
      simp [MapKept.IsKey, hi]
    · cases hi
  · obtain rfl := cv_str hk
    split at hi
    · have hf' : d = .string := hf
      subst hf'
      simp [MapKept.IsKey]
    · cases hi
  · obtain rfl := cv_bool hk
    split at hi
    · have hf' : d = .bool := hf
      subst hf'
      simp [MapKept.IsKey]
    · cases hi
  · cases hi

theorem decide_bytes (a b : ByteArray) : decide (a = b) = (a.toList == b.toList) := by
  rw [← beq_toListBytes]
  by_cases h : a = b
  · subst h; simp [MapKept.bytes_beq]
  · have : (a == b) = false := by
      cases hq : a == b with
      | false => rfl
      | true => exact absurd ((MapKept.bytes_beq a b).1 hq) h
    simp [h, this]

theorem scEq_now {M : Mk} {S : Nat → Prop} {k : TK} {x y : CV} {u v : Value} {d : TypeDesc} {b : Bool} (hi : scIs k x = true) (hf : k.fits d) (hx : CVR M w S x u) (hy : CVR M w S y v) (h : scEq x y = some b) : Instr.sameNow d u v = some b ∧ (b = true → u = v) := by
  have hik := sc_val hi hf hx
  unfold scEq at h
  split at h
  · rename_i k x k' y
    split at h
    · rename_i e; subst e
      obtain rfl := cv_int hx
      obtain rfl := cv_int hy
      obtain rfl := Option.some.inj h
      cases d <;> simp only [MapKept.IsKey] at hik
      by_cases hxy : x = y <;> simp [Instr.sameNow, hxy]
    · cases h
  · rename_i x y
    obtain rfl := cv_str hx
    obtain rfl := cv_str hy
    obtain rfl := Option.some.inj h
    cases d <;> simp only [MapKept.IsKey] at hik
    refine ⟨by simp only [Instr.sameNow]; rw [decide_bytes, ← beq_toListBytes], fun hb => by rw [of_decide_eq_true hb]⟩
  · rename_i x y
    obtain rfl := cv_bool hx
    obtain rfl := cv_bool hy
    obtain rfl := Option.some.inj h
    cases d <;> simp only [MapKept.IsKey] at hik
    cases x <;> cases y <;> simp [Instr.sameNow]
  · cases h

theorem scEq_cv {k : TK} {x y : CV} {b : Bool} (hi : scIs k x = true) (h : scEq x y = some b) : eqCV k x y = some b := by
  unfold scEq at h
  split at h
  · rename_i q a q' b'
    split at h
    · rename_i e; subst e
      obtain rfl := Option.some.inj h
      simp only [scIs] at hi
      split at hi
      · simp only [eqCV, if_true, Option.some.injEq]
        by_cases hab : a = b' <;> simp [hab]
      · cases hi
    · cases h
  · rename_i a b'
    obtain rfl := Option.some.inj h
    simp only [scIs] at hi
    split at hi
    · simp only [eqCV, decide_bytes]
    · cases hi
  · rename_i a b'
    obtain rfl := Option.some.inj h
    simp only [scIs] at hi
    split at hi
    · simp only [eqCV, Option.some.injEq]
      cases a <;> cases b' <;> rfl
    · cases hi
  · cases h

theorem eqCells_of : ∀ (fs : List (TypeId × Nat)) (xs ys : List CV) (i : Nat) (X Y : List CV) (b : Bool), (∀ j x, xs[j]? = some x → X[i + j]? = some x) → (∀ j y, ys[j]? = some y → Y[i + j]? = some y) → shapeOk T i fs xs = true → eqL xs ys = some b → eqCells T X Y fs = some b
  | [], [], [], _, _, _, b, _, _, _, h => by
    obtain rfl := Option.some.inj h
    rfl
  | (t, off) :: fs, x :: xs, y :: ys, i, X, Y, b, hX, hY, hs, h => by
    simp only [shapeOk] at hs
    split at hs
    · rename_i ti ht
      simp only [Bool.and_eq_true, beq_iff_eq] at hs
      obtain ⟨⟨rfl, h1⟩, h2⟩ := hs
      simp only [eqL] at h
      split at h
      · rename_i a c ha hc
        obtain rfl := Option.some.inj h
        have ih := eqCells_of fs xs ys (off + 1) X Y c (fun j z hz => by rw [show off + 1 + j = off + (j + 1) by omega]; exact hX (j + 1) z (by simpa using hz)) (fun j z hz => by rw [show off + 1 + j = off + (j + 1) by omega]; exact hY (j + 1) z (by simpa using hz)) h2 hc
        simp only [eqCells, ht, hX 0 x rfl, hY 0 y rfl, Nat.add_zero] 
        have h3 := hX 0 x rfl
        have h4 := hY 0 y rfl
        rw [Nat.add_zero] at h3 h4
        simp only [h3, h4, scEq_cv h1 ha, ih]
      · cases h
    · cases hs
  | [], [], _ :: _, _, _, _, _, _, _, _, h => by cases h
  | [], _ :: _, _, _, _, _, _, _, _, hs, _ => by cases hs
  | _ :: _, [], _, _, _, _, _, _, _, hs, _ => by cases hs
  | _ :: _, _ :: _, [], _, _, _, _, _, _, _, h => by cases h

theorem eqL_vals {M : Mk} : ∀ {xs ys : List CV} {us vs : List Value}, eqL xs ys = some true → All2 (CVR M w Emp) xs us → All2 (CVR M w Emp) ys vs → us = vs
  | [], [], [], [], _, _, _ => rfl
  | x :: xs, y :: ys, u :: us, v :: vs, h, hx, hy => by
    simp only [eqL] at h
    split at h
    · rename_i a c ha hc
      have h' := Option.some.inj h
      rw [Bool.and_eq_true] at h'
      obtain ⟨rfl, rfl⟩ := h'
      have ih := eqL_vals hc hx.2 hy.2
      have : u = v := by
        unfold scEq at ha
        split at ha
        · split at ha
          · rename_i e; subst e
            have := of_decide_eq_true (Option.some.inj ha)
            subst this
            rw [cv_int hx.1, cv_int hy.1]
          · cases ha
        · have := of_decide_eq_true (Option.some.inj ha)
          subst this
          rw [cv_str hx.1, cv_str hy.1]
        · have := of_decide_eq_true (Option.some.inj ha)
          subst this
          rw [cv_bool hx.1, cv_bool hy.1]
        · cases ha
      rw [this, ih]
    · cases h
  | [], [], [], _ :: _, _, _, h => h.elim
  | [], [], _ :: _, _, _, h, _ => h.elim
  | [], _ :: _, _, _, h, _, _ => by cases h
  | _ :: _, [], _, _, h, _, _ => by cases h
  | _ :: _, _ :: _, [], _, _, h, _ => h.elim
  | _ :: _, _ :: _, _ :: _, [], _, _, h => h.elim

theorem shape_keys (hT : TOk P T) {M : Mk} : ∀ (fs : List (TypeId × Nat)) (xs : List CV) (i : Nat) (us : List Value), shapeOk T i fs xs = true → All2 (CVR M w Emp) xs us → fs.length = us.length ∧ ∀ (j : Nat) (f : TypeId × Nat), fs[j]? = some f → f.2 = i + j ∧ ∃ u ti d, us[j]? = some u ∧ T f.1 = some ti ∧ ti.k.isAgg = false ∧ P.underlying f.1 = some d ∧ MapKept.IsKey d u
  | [], [], _, [], _, _ => ⟨rfl, fun j f h => by simp at h⟩
  | (t, off) :: fs, x :: xs, i, u :: us, hs, hA => by
    simp only [shapeOk] at hs
    split at hs
    · rename_i ti ht
      simp only [Bool.and_eq_true, beq_iff_eq] at hs
      obtain ⟨⟨rfl, h1⟩, h2⟩ := hs
      obtain ⟨q1, q2⟩ := shape_keys hT fs xs (off + 1) us h2 hA.2
      refine ⟨by simp [q1], fun j f hj => ?_⟩
      cases j with
      | zero =>
        simp only [List.getElem?_cons_zero, Option.some.injEq] at hj
        subst hj
        obtain ⟨d, hd, hf⟩ := (hT _ _ ht).kind
        refine ⟨rfl, u, ti, d, rfl, ht, ?_, hd, sc_val h1 hf hA.1⟩
        unfold scIs at h1
        split at h1
        · split at h1
          · rename_i hk; rw [hk]; rfl
          · cases h1
        · split at h1
          · rename_i hk; rw [hk]; rfl
          · cases h1
        · split at h1
          · rename_i hk; rw [hk]; rfl
          · cases h1
        · cases h1
      | succ j =>
        obtain ⟨r1, r2⟩ := q2 j f (by simpa using hj)
        exact ⟨by omega, by simpa using r2⟩
    · cases hs
  | [], _ :: _, _, _, hs, _ => by cases hs
  | _ :: _, [], _, _, hs, _ => by cases hs
  | [], [], _, _ :: _, _, h => h.elim
  | _ :: _, _ :: _, _, [], _, h => h.elim

theorem check_struct (hT : TOk P T) {kt : TypeId} {tk : TI} (ht : T kt = some tk) {fs : List (TypeId × Nat)} (hk : tk.k = .struct fs) {M : Mk} {xs : List CV} {us : List Value} (hs : shapeOk T 0 fs xs = true) (hA : All2 (CVR M w Emp) xs us) (em : Bool) :
    (Instr.checkKey em 10000 kt (.agg us.toArray)).run P w = .ok () w := by
  obtain ⟨d, hd, hf⟩ := (hT _ _ ht).kind
  simp only [hk, TK.fits] at hf
  obtain ⟨fields, rfl, hfs, hnm⟩ := hf
  obtain ⟨_, hkeys⟩ := shape_keys hT fs xs 0 us hs hA
  rw [show (10000 : Nat) = 9999 + 1 from rfl, Instr.checkKey]
  simp only [Sem.run_bind, run_under hd, Result.andThen_ok]
  rw [← Array.forIn_toList]
  have each : ∀ f ∈ fields.toList, f.name ≠ "_" ∧ ∃ v, (part f.type us.toArray f.offset).run P w = .ok v w ∧ (Instr.checkKey em 9999 f.type v).run P w = .ok () w := by
    intro f hf
    refine ⟨by simpa using List.all_eq_true.1 hnm f hf, ?_⟩
    obtain ⟨j, hj, rfl⟩ := List.mem_iff_getElem.1 hf
    have : fs[j]? = some (fields.toList[j].type, fields.toList[j].offset) := by rw [← hfs, List.getElem?_map, List.getElem?_eq_getElem hj]; rfl
    obtain ⟨h1, u, ti, d, h2, h3, h4, h5, h6⟩ := hkeys j _ this
    simp only [Nat.zero_add] at h1
    refine ⟨u, ?_, MapKept.run_checkKey h5 h6 em 9998⟩
    have h7 : us.toArray[fields.toList[j].offset]? = some u := by rw [h1]; simpa using h2
    simp only [part, Sem.run_bind, run_agg (hT _ _ h3), h4, Result.andThen_ok, Bool.false_eq_true, if_false, h7, Sem.run_pure]
  generalize fields.toList = L at each
  induction L with
  | nil => simp
  | cons f L ih =>
    obtain ⟨hn, v, h1, h2⟩ := each f (by simp)
    simp only [List.forIn_cons, Sem.run_bind, hn, ne_eq, not_false_eq_true, if_true, Result.andThen_ok, h1, h2, Sem.run_pure]
    exact ih fun y hy => each y (by simp [hy])

theorem stays_struct (hT : TOk P T) {M : Mk} {fs : List (TypeId × Nat)} {xs : List CV} {us : List Value} (hs : shapeOk T 0 fs xs = true) (hA : All2 (CVR M w Emp) xs us) : (Instr.keyThatStays (.agg us.toArray) (.agg us.toArray)).run P w = .ok (.agg us.toArray) w := by
  obtain ⟨hl, hkeys⟩ := shape_keys hT fs xs 0 us hs hA
  have hsb : Instr.sameBits 10000 (.agg us.toArray) (.agg us.toArray) = true := by
    rw [show (10000 : Nat) = 9999 + 1 from rfl]
    simp only [Instr.sameBits, beq_self_eq_true, Bool.true_and, List.all_eq_true]
    rintro ⟨u, v⟩ huv
    obtain ⟨j, hj, he⟩ := List.mem_iff_getElem.1 huv
    simp only [List.length_zip, List.getElem_zip, Prod.mk.injEq] at hj he
    obtain ⟨rfl, rfl⟩ := he
    have hj' : j < us.length := by simpa using hj
    obtain ⟨_, u, ti, d, h2, _, _, _, h6⟩ := hkeys j fs[j] (List.getElem?_eq_getElem (by omega))
    rw [List.getElem?_eq_getElem hj'] at h2
    have := Option.some.inj h2
    subst this
    exact MapKept.sameBits_self h6 9999
  simp [Instr.keyThatStays, hsb]

theorem mfind_ok {M : Mk} {tk : TI} {x : CV} {kv : Value} {d : TypeDesc} (hi : scIs tk.k x = true) (hf : tk.k.fits d) (hk : CVR M w Emp x kv) : ∀ (es : List (AV × AV × Nat)) (ents : List MapEntry) (n : Nat) {r}, All2 (EntR M w) es ents → mfind T tk (.v x) es = some r →
    match r with
    | none => Instr.findNow d kv ents n = some none
    | some (i, v) => ∃ e m, es[i]? = some e ∧ e.2.1 = v ∧ ents[i]? = some m ∧ m.key = kv ∧ Instr.findNow d kv ents n = some (some (n + i, m.val))
  | [], [], n, r, _, h => by obtain rfl := Option.some.inj h; rfl
  | e :: es, m :: ents, n, r, hA, h => by
    have hq : ∀ b, keyEq T tk (.v x) e.1 = some b → Instr.sameNow d kv m.key = some b ∧ (b = true → kv = m.key) := by
      intro b hb
      obtain ⟨e1, e2, e3⟩ := e
      cases e1 with
      | v y => exact scEq_now hi hf hk hA.1.1 hb
      | agg ys => cases hb
    simp only [mfind] at h
    split at h
    · rename_i hb
      obtain rfl := Option.some.inj h
      obtain ⟨h1, h2⟩ := hq _ hb
      exact ⟨e, m, rfl, rfl, rfl, (h2 rfl).symm, by simp [Instr.findNow, h1]⟩
    · rename_i hb
      obtain ⟨h1, _⟩ := hq _ hb
      split at h
      · rename_i i v hm
        obtain rfl := Option.some.inj h
        have ih := mfind_ok hi hf hk es ents (n + 1) hA.2 hm
        obtain ⟨e', m', q1, q2, q3, q4, q5⟩ := ih
        exact ⟨e', m', by simpa using q1, q2, by simpa using q3, q4, by simp only [Instr.findNow, h1, q5]; congr 3; omega⟩
      · rename_i hm
        obtain rfl := Option.some.inj h
        have ih := mfind_ok hi hf hk es ents (n + 1) hA.2 hm
        simp only at ih
        simp [Instr.findNow, h1, ih]
      · cases h
    · cases h
  | [], _ :: _, _, _, hA, _ => hA.elim
  | _ :: _, [], _, _, hA, _ => hA.elim

theorem mfindA_ok {M : Mk} {tk : TI} {kt : TypeId} {xs : List CV} {kv : Value} (hq : ∀ (ys : List CV) (v : Value) (b : Bool), AVR M w (.agg ys) v → eqL xs ys = some b → (Op.equal kt kv v).run P w = .ok b w ∧ (b = true → kv = v)) : ∀ (es : List (AV × AV × Nat)) (ents : List MapEntry) (n : Nat) {r}, All2 (EntR M w) es ents → mfind T tk (.agg xs) es = some r →
    match r with
    | none => (Instr.findAsking kt kv ents n).run P w = .ok none w
    | some (i, v) => ∃ e m, es[i]? = some e ∧ e.2.1 = v ∧ ents[i]? = some m ∧ m.key = kv ∧ (Instr.findAsking kt kv ents n).run P w = .ok (some (n + i, m.val)) w
  | [], [], n, r, _, h => by obtain rfl := Option.some.inj h; rfl
  | e :: es, m :: ents, n, r, hA, h => by
    have hq' : ∀ b, keyEq T tk (.agg xs) e.1 = some b → (Op.equal kt kv m.key).run P w = .ok b w ∧ (b = true → kv = m.key) := by
      intro b hb
      obtain ⟨e1, e2, e3⟩ := e
      cases e1 with
      | v y => cases hb
      | agg ys => exact hq ys _ b hA.1.1 hb
    simp only [mfind] at h
    split at h
    · rename_i hb
      obtain rfl := Option.some.inj h
      obtain ⟨h1, h2⟩ := hq' _ hb
      exact ⟨e, m, rfl, rfl, rfl, (h2 rfl).symm, by simp [Instr.findAsking, h1, Result.andThen]⟩
    · rename_i hb
      obtain ⟨h1, _⟩ := hq' _ hb
      split at h
      · rename_i i v hm
        obtain rfl := Option.some.inj h
        have ih := mfindA_ok hq es ents (n + 1) hA.2 hm
        obtain ⟨e', m', q1, q2, q3, q4, q5⟩ := ih
        exact ⟨e', m', by simpa using q1, q2, by simpa using q3, q4, by simp only [Instr.findAsking, Sem.run_bind, h1, Result.andThen_ok, Bool.false_eq_true, if_false, q5]; congr 3; omega⟩
      · rename_i hm
        obtain rfl := Option.some.inj h
        have ih := mfindA_ok hq es ents (n + 1) hA.2 hm
        simp only at ih
        simp only [Instr.findAsking, Sem.run_bind, h1, Result.andThen_ok, Bool.false_eq_true, if_false, ih]
      · cases h
    · cases h
  | [], _ :: _, _, _, hA, _ => hA.elim
  | _ :: _, [], _, _, hA, _ => hA.elim

section
variable {cx : Cx} {G : Gh} {st : St} {a : Act}

theorem zeroAV_ok (hT : TOk P T) {t : TypeId} {te : TI} (ht : T t = some te) {z : AV} (h : zeroAV te = some z) (M : Mk) (w : World) : ∃ x, (zeroValue t).run P w = .ok x w ∧ AVR M w z x := by
  obtain ⟨info, zv, hi, hsz, hby, hz, hzr, hag⟩ := (hT _ _ ht).info
  refine ⟨zv, by simp [zeroValue, typeInfo, hi, hz], ?_⟩
  unfold zeroAV at h
  by_cases hk : te.k.isAgg = true
  · rw [if_pos hk] at h
    obtain rfl := Option.some.inj h
    obtain ⟨cs, rfl⟩ := hag hk
    exact ⟨cs.toList, by simp, hzr.mono fun _ _ => zero_cv⟩
  · rw [if_neg hk] at h
    split at h
    · rename_i c hc
      obtain rfl := Option.some.inj h
      rw [hc] at hzr
      have hna : ∀ cs, zv ≠ .agg cs := fun cs e => by subst e; exact absurd ((hT _ _ ht).zone info cs hi hz) hk
      have key : zeroR c zv := by
        have : zv.cells = #[zv] := by
          cases zv <;> first | rfl | (exact absurd rfl (hna _))
        rw [this] at hzr
        exact hzr.1
      exact zero_cv key
    · cases h

theorem esOf_ok (hR : R cx G st a w) {sv : SV} {x : Value} {es : List (AV × AV × Nat)} (h : esOf st sv = some es) (hx : SVR G.toMk w sv x) : (x = .map none ∧ es = []) ∨ ∃ b ents clock, x = .map (some b) ∧ w.heap[b]? = some (.map ents clock) ∧ All2 (EntR G.toMk w) es ents.toList := by
  unfold esOf at h
  split at h
  · obtain rfl := cv_nilm hx
    obtain rfl := Option.some.inj h
    exact .inl ⟨rfl, rfl⟩
  · rename_i nm
    split at h
    · rename_i clock es' hb
      obtain rfl := Option.some.inj h
      obtain ⟨p, hp, rfl⟩ := cv_mm hx
      obtain ⟨p', hp', _, ents, h3, h4⟩ := hR.heap nm _ hb
      rw [hp] at hp'
      obtain rfl := Option.some.inj hp'
      exact .inr ⟨_, ents, clock, rfl, h3, h4⟩
    · cases h
  · cases h

theorem run_findKey_ok (hT : TOk P T) {kt : TypeId} {tk : TI} (hk : T kt = some tk) {M : Mk} {ka : AV} {kv : Value} (hi : keyIs T tk ka = true) (hka : AVR M w ka kv) {es : List (AV × AV × Nat)} {ents : List MapEntry} (hA : All2 (EntR M w) es ents) {r} (hm : mfind T tk ka es = some r) :
    (∀ em, (Instr.checkKey em 10000 kt kv).run P w = .ok () w) ∧ (Instr.keyThatStays kv kv).run P w = .ok kv w ∧ match r with
      | none => (Instr.findKey kt kv ents).run P w = .ok none w
      | some (i, v) => ∃ e m, es[i]? = some e ∧ e.2.1 = v ∧ ents[i]? = some m ∧ m.key = kv ∧ (Instr.findKey kt kv ents).run P w = .ok (some (i, m.val)) w := by
  obtain ⟨d, hd, hf⟩ := (hT _ _ hk).kind
  cases ka with
  | v x =>
    have hi' : scIs tk.k x = true := hi
    have hik := sc_val hi' hf hka
    refine ⟨fun em => MapKept.run_checkKey hd hik em 9999, MapKept.run_keyThatStays hik, ?_⟩
    have h := mfind_ok hi' hf hka es ents 0 hA hm
    cases r with
    | none => exact MapKept.run_findKey hd h
    | some p =>
      obtain ⟨e, m, h1, h2, h3, h4, h5⟩ := h
      exact ⟨e, m, h1, h2, h3, h4, MapKept.run_findKey hd (by rw [h5]; simp)⟩
  | agg xs =>
    simp only [keyIs] at hi
    split at hi
    · rename_i fs hkk
      rw [Bool.and_eq_true] at hi
      obtain ⟨us, rfl, hus⟩ := hka
      refine ⟨fun em => check_struct hT hk hkk hi.2 hus em, stays_struct hT hi.2 hus, ?_⟩
      obtain ⟨hst, hg⟩ := (hT _ _ hk).cmp hi.1
      simp only [hkk, TK.fits] at hf
      obtain ⟨fields, rfl, hfs, hnm⟩ := hf
      have hfo : P.fieldsOf kt = fields := by simp [Program.fieldsOf, hd]
      have hq : ∀ (ys : List CV) (v : Value) (b : Bool), AVR M w (.agg ys) v → eqL xs ys = some b → (Op.equal kt (.agg us.toArray) v).run P w = .ok b w ∧ (b = true → .agg us.toArray = v) := by
        rintro ys v b ⟨vs, rfl, hvs⟩ hb
        refine ⟨?_, fun e => by subst e; rw [eqL_vals hb hus hvs]⟩
        show (Op.equalIn (9999 + 1) kt _ _).run P w = _
        rw [run_equalIn_struct w 9999 kt _ _ (by rw [hfo]; exact hd) hst, hfo]
        exact eqCells_ok hT hus hvs 9998 fields.toList b hnm (by rw [hfs]; exact eqCells_of fs xs ys 0 xs ys b (fun j x h => by simpa using h) (fun j x h => by simpa using h) hi.2 hb)
      have h := mfindA_ok (T := T) (tk := tk) hq es ents 0 hA hm
      have hfk : (Instr.findKey kt (.agg us.toArray) ents).run P w = (Instr.findAsking kt (.agg us.toArray) ents).run P w := by
        cases ents with
        | nil => simp [Instr.findKey, run_under hd, Instr.findNow, Instr.findAsking, Result.andThen]
        | cons m ents => simp [Instr.findKey, run_under hd, Instr.findNow, Instr.sameNow, Result.andThen]
      rw [hfk]
      cases r with
      | none => exact h
      | some p =>
        obtain ⟨e, m, h1, h2, h3, h4, h5⟩ := h
        exact ⟨e, m, h1, h2, h3, h4, by rw [h5]; simp⟩
    · cases hi

def lookTail (kt vt : TypeId) (index : Value) (ok : Bool) (es : Array MapEntry) : Sem Value := do
  Instr.checkKey es.isEmpty 10000 kt index
  let (v, ok') ← match ← Instr.findKey kt index es.toList with
    | some (_, v) => pure (v, true)
    | none => pure (← zeroValue vt, false)
  pure (if ok then .tuple #[v, .bool ok'] else v)

theorem lookup_ok (hT : TOk P T) (hR : R cx G st a w) {o : Oper} {t : TypeId} {x i : Operand} {ok : Bool} (ho : o.op = .lookup t x i ok) {sv : SV} (h : lookupS T st t x i ok = some sv) :
    ∃ v, (execOp a.eval o).run P w = .ok (.value v) w ∧ SVR G.toMk w sv v := by
  unfold lookupS at h
  split at h
  · rename_i ti ht
    split at h
    · rename_i kt vt hk
      split at h
      · rename_i tk te es ka htk hte hes hka
        by_cases hi : keyIs T tk ka = true
        · rw [hi] at h
          have hu := kind_map hT ht hk
          have hxq := rd_q (T := T) hR t x
          have hAk := keyOf_ok (M := G.toMk) hka (rd_q (T := T) hR kt i)
          have main : ∀ (ents : Array MapEntry), All2 (EntR G.toMk w) es ents.toList → (Instr.lookup t (a.eval x) (a.eval i) ok).run P w = (lookTail kt vt (a.eval i) ok ents).run P w → ∃ v, (Instr.lookup t (a.eval x) (a.eval i) ok).run P w = .ok v w ∧ SVR G.toMk w sv v := by
            intro ents hA hlook
            rw [hlook]
            split at h
            · rename_i j v _ hm
              obtain ⟨hc, _, e, m, h1, h2, h3, h4, h5⟩ := run_findKey_ok hT htk hi hAk hA hm
              obtain rfl := Option.some.inj h
              have hv : AVR G.toMk w v m.val := by
                obtain ⟨m', q1, q2⟩ := hA.get j e h1
                rw [h3] at q1
                obtain rfl := Option.some.inj q1
                rw [← h2]; exact q2.2.1
              refine ⟨if ok then .tuple #[m.val, .bool true] else m.val, by simp [lookTail, hc, h5, Result.andThen], ?_⟩
              cases ok with
              | false => exact AV.sv_q hv
              | true => exact ⟨[m.val, .bool true], rfl, hv, CVR.t (.bool true), trivial⟩
            · rename_i _ hm
              obtain ⟨hc, _, h5⟩ := run_findKey_ok hT htk hi hAk hA hm
              simp only at h5
              split at h
              · rename_i z hz
                obtain ⟨zv, hz1, hz2⟩ := zeroAV_ok hT hte hz G.toMk w
                obtain rfl := Option.some.inj h
                refine ⟨if ok then .tuple #[zv, .bool false] else zv, by simp [lookTail, hc, h5, hz1, Result.andThen], ?_⟩
                cases ok with
                | false => exact AV.sv_q hz2
                | true => exact ⟨[zv, .bool false], rfl, hz2, CVR.t (.bool false), trivial⟩
              · cases h
            · cases h
          have fin : ∃ v, (Instr.lookup t (a.eval x) (a.eval i) ok).run P w = .ok v w ∧ SVR G.toMk w sv v := by
            rcases esOf_ok hR hes hxq with ⟨hx, rfl⟩ | ⟨b, ents, clock, hx, hb, hA⟩
            · refine main #[] trivial ?_
              rw [hx]
              simp only [Instr.lookup, lookTail, Sem.run_bind, run_under hu, Sem.run_pure, Result.andThen]
              rfl
            · refine main ents hA ?_
              rw [hx]
              simp only [Instr.lookup, lookTail, Sem.run_bind, run_under hu, run_getObj_map hb, Sem.run_pure, Result.andThen]
              rfl
          obtain ⟨v, h1, h2⟩ := fin
          exact ⟨v, by simp only [execOp, ho]; exact run_value' _ _ _ _ h1, h2⟩
        · rw [Bool.not_eq_true] at hi
          rw [hi] at h
          simp at h
      · cases h
    · cases h
  · cases h

theorem mfind_mem {tk : TI} {ka : AV} : ∀ {es : List (AV × AV × Nat)} {i : Nat} {v : AV}, mfind T tk ka es = some (some (i, v)) → ∃ e ∈ es, e.2.1 = v
  | [], _, _, h => by cases h
  | e :: es, i, v, h => by
    simp only [mfind] at h
    split at h
    · obtain ⟨_, rfl⟩ := Prod.mk.inj (Option.some.inj (Option.some.inj h)); exact ⟨e, by simp, rfl⟩
    · split at h
      · rename_i hm
        obtain ⟨_, rfl⟩ := Prod.mk.inj (Option.some.inj (Option.some.inj h))
        obtain ⟨e', h1, h2⟩ := mfind_mem hm
        exact ⟨e', by simp [h1], h2⟩
      · cases Option.some.inj h
      · cases h
    · cases h
end
end Go.Proofs.Ytgmjgognpabmdaa.Fx
