/- The evaluator's second make: maps. -/
import Derived.Test.YtgmjgognpabmdaaFx10
namespace Go.Proofs.Ytgmjgognpabmdaa.Fx
open Go Go.RowKit
set_option linter.unusedSimpArgs false
set_option linter.unusedVariables false
variable {P : Program} {T : TypeId → Option TI} {w w' : World}

/-- What an operation on maps does to a state. -/
inductive EfM where
  | put (sv : SV)
  | name (blk : Blk) (sv : Nat → SV)
  | upd (nm : Nat) (blk : Blk) (sv : Option SV)

def runM (n : Nat) (dst : Option Nat) (K : St → Prop) (st : St) : EfM → Prop
  | .put sv => putK n dst sv K st
  | .name blk sv => nameK n dst blk sv K st
  | .upd nm blk none => dst = none ∧ K (st.upd nm blk)
  | .upd nm blk (some sv) => putK n dst sv K (st.upd nm blk)

/-- A list's beginning. -/
def shortS (n : Nat) : SV → SV
  | .c (.mr nm lo len) => .c (.mr nm lo (min n len))
  | .c (.t (.sl sz rows)) => .c (.t (.sl sz (rows.take n)))
  | sv => sv

def mapE (T : TypeId → Option TI) (o : Oper) (R : EfM → Prop) (st : St) : Prop :=
  match o.op with
  | .makeMap _ none => R (.name (.map 0 []) (fun d => .c (.mm d)))
  | .mapUpdate t m k v => match T t, rd T st 0 m with
    | some ti, .c (.mm nm) => match ti.k, st.heap nm with
      | .map kt vt, some (.map clock es) => match T kt, keyOf (rd T st kt k), argRaw st.heap (rd T st vt v) with
        | some tk, some ka, some va => match keyIs T tk ka, mfind T tk ka es with
            | true, some (some (i, _)) => R (.upd nm (.map clock (es.modify i fun e => (ka, va, e.2.2))) none)
            | true, some none => R (.upd nm (.map (clock + 1) (es ++ [(ka, va, clock)])) none)
            | _, _ => False
        | _, _, _ => False
      | _, _ => False
    | _, _ => False
  | .mapEntry t m k => match T t, rd T st 0 m with
    | some ti, .c (.mm nm) => match ti.k, st.heap nm with
      | .map kt vt, some (.map clock es) => match T kt, T vt, keyOf (rd T st kt k) with
        | some tk, some te, some ka => match keyIs T tk ka, mfind T tk ka es with
            | true, some (some (i, v)) => match es[i]? with
              | some e => R (.upd nm (.map clock (es.modify i fun e => (ka, e.2.1, e.2.2))) (some (.tup [v, .v (.t (.int .i64 e.2.2))])))
              | none => False
            | true, some none => match zeroAV te with
              | some z => R (.upd nm (.map (clock + 1) (es ++ [(ka, z, clock)])) (some (.tup [z, .v (.t (.int .i64 clock))])))
              | none => False
            | _, _ => False
        | _, _, _ => False
      | _, _ => False
    | _, _ => False
  | .entryStore t m s v => match rd T st 0 m, rd T st 0 s with
    | .c (.mm nm), .c (.t (.int .i64 b)) => match st.heap nm, argRaw st.heap (rd T st t v) with
      | some (.map clock es), some va => match es.findIdx? (fun e => (e.2.2 : Int) == b) with
        | some i => R (.upd nm (.map clock (es.modify i fun e => (e.1, va, e.2.2))) none)
        | none => False
      | _, _ => False
    | _, _ => False
  | .range t x => match T t, rd T st t x with
    | some ti, .c (.mm nm) => match ti.k, st.heap nm with
      | .map _ _, some (.map clock _) => R (.name (.iter nm clock [] clock) (fun d => .c (.mp d 0 0)))
      | _, _ => False
    | _, _ => False
  | .next x false => match rd T st 0 x with
    | .c (.mp d 0 0) => match st.heap d with
      | some (.iter nm since seen last) => match st.heap nm with
        | some (.map clock es) => (since ≤ last ∧ ∀ e ∈ es, e.2.2 < since) ∧ ((∀ e ∈ es, e.2.2 ∈ seen) → R (.put (.tup [.v (.t (.bool false))]))) ∧
            ∀ e ∈ es, e.2.2 ∉ seen → R (.upd d (.iter nm since (seen ++ [e.2.2]) clock) (some (.tup [.v (.t (.bool true)), e.1, e.2.1])))
        | _ => False
      | _ => False
    | _ => False
  | .entry x => match rd T st 0 x with
    | .c (.mp d 0 0) => match st.heap d with
      | some (.iter nm since seen last) => match st.heap nm, seen.getLast? with
        | some (.map clock es), some b => clock = last ∧ match es.find? (fun e => e.2.2 == b) with
          | some e => R (.put (.tup [e.1, e.2.1]))
          | none => False
        | _, _ => False
      | _ => False
    | _ => False
  | .call c => match c.callee with
    | .builtin .clear => match c.args.toList, c.argTypes.toList with
      | [x], [t] => match T t, rd T st t x with
        | some ti, .c (.mm nm) => match ti.k, st.heap nm with
          | .map _ _, some (.map clock es) => R (.upd nm (.map clock []) (some (.tup [])))
          | _, _ => False
        | _, _ => False
      | _, _ => False
    | .builtin .copy => match c.args.toList, c.argTypes.toList with
      | [x, y], [t, t2] => match T t, T t2, rd T st t x with
        | some ti, some ti2, .c (.mr nm lo len) => match ti.k, ti2.k, st.heap nm, srcOf st (shortS len (rd T st t2 y)) with
          | .slice e, .slice _, some (.cells sz rows), some (sz2, ys) => match T e with
            | some te => (sz = te.size ∧ sz2 = te.size ∧ lo + len ≤ rows.length ∧ ys.length ≤ len) ∧ R (.upd nm (.cells sz (rows.take lo ++ ys ++ rows.drop (lo + ys.length))) (some (.c (.t (.int .i64 ys.length)))))
            | none => False
          | _, _, _, _ => False
        | _, _, _ => False
      | _, _ => False
    | _ => False
  | _ => False

theorem mapE_mono {o : Oper} {st : St} {R R' : EfM → Prop} (hi : ∀ e, R e → R' e) (h : mapE T o R st) : mapE T o R' st := by
  unfold mapE at h ⊢
  split at h
  · exact hi _ h
  · repeat' split at h
    all_goals first | exact hi _ h | exact h
  · repeat' split at h
    all_goals first | exact hi _ h | exact h
  · repeat' split at h
    all_goals first | exact hi _ h | exact h
  · repeat' split at h
    all_goals first | exact hi _ h | exact h
  · split at h
    · split at h
      · split at h
        · exact ⟨h.1, fun q => hi _ (h.2.1 q), fun e he hs => hi _ (h.2.2 e he hs)⟩
        · exact h
      · exact h
    · exact h
  · split at h
    · split at h
      · split at h
        · refine ⟨h.1, ?_⟩
          have h2 := h.2
          split at h2
          · exact hi _ h2
          · exact h2
        · exact h
      · exact h
    · exact h
  · split at h
    · repeat' split at h
      all_goals first | exact hi _ h | exact h
    · repeat' split at h
      all_goals first | exact ⟨h.1, hi _ h.2⟩ | exact h
    · exact h
  · exact h

theorem runM_mono {n : Nat} {dst : Option Nat} {K K' : St → Prop} {st : St} (hi : ∀ s, K s → K' s) {e : EfM} (h : runM n dst K st e) : runM n dst K' st e := by
  cases e with
  | put sv =>
    cases dst with
    | none => exact hi _ h
    | some d =>
      simp only [runM, putK] at h ⊢
      split at h
      · rename_i hd; rw [if_pos hd]; exact hi _ h
      · exact h.elim
  | name blk sv =>
    cases dst with
    | none => exact h
    | some d =>
      simp only [runM, nameK] at h ⊢
      split at h
      · rename_i hd; rw [if_pos hd]; exact ⟨h.1, h.2.1, hi _ h.2.2⟩
      · exact h.elim
  | upd nm blk sv =>
    cases sv with
    | none => exact ⟨h.1, hi _ h.2⟩
    | some sv =>
      cases dst with
      | none => exact hi _ h
      | some d =>
        simp only [runM, putK] at h ⊢
        split at h
        · rename_i hd; rw [if_pos hd]; exact hi _ h
        · exact h.elim

section
variable {cx : Cx} {G : Gh} {st : St} {a : Act}

/-- A map's block turned. -/
theorem R.turnMap (hR : R cx G st a w) {nm clock clock' : Nat} {es es' : List (AV × AV × Nat)} (hb : st.heap nm = some (.map clock es)) {p : PH} (hp : G.ph nm = some p) {ents : Array MapEntry} (hA : All2 (EntR G.toMk w) es' ents.toList) :
    R cx G (st.upd nm (.map clock' es')) a { w with heap := w.heap.setIfInBounds p.b (.map ents clock') } := by
  obtain ⟨p', hp', hreg, ents0, h3, _⟩ := hR.heap nm _ hb
  rw [hp] at hp'
  obtain rfl := Option.some.inj hp'
  have hset := MapKept.heap_set (o' := .map ents clock') h3
  have hk : Kept (fun b => G.reg nm b) w { w with heap := w.heap.setIfInBounds p.b (.map ents clock') } :=
    ⟨rfl, rfl, rfl, by simp, fun k _ hk => hset.2 k (fun e => by subst e; exact hk hreg)⟩
  refine hR.turn hb hk (by simp) ?_
  have ht : ∀ v y, TVR G.hw w v y → TVR G.hw { w with heap := w.heap.setIfInBounds p.b (.map ents clock') } v y := fun v y h => tree_move hR hb hk h
  exact ⟨p, hp, hreg, ents, hset.1, hA.mono fun e m h => ⟨AVR.move h.1 ht fun _ _ => rfl, AVR.move h.2.1 ht fun _ _ => rfl, h.2.2⟩⟩

theorem All2.modify {α β : Type} {R : α → β → Prop} {f : α → α} {g : β → β} (hfg : ∀ a b, R a b → R (f a) (g b)) : ∀ (i : Nat) {l : List α} {m : List β}, All2 R l m → All2 R (l.modify i f) (m.modify i g)
  | 0, [], [], _ => trivial
  | 0, _ :: _, _ :: _, h => ⟨hfg _ _ h.1, h.2⟩
  | i + 1, [], [], _ => trivial
  | i + 1, _ :: _, _ :: _, h => ⟨h.1, All2.modify hfg i h.2⟩
  | _, [], _ :: _, h => h.elim
  | _, _ :: _, [], h => h.elim

theorem All2.findIdx {α β : Type} {R : α → β → Prop} {p : α → Bool} {q : β → Bool} (hpq : ∀ a b, R a b → q b = p a) : ∀ {l : List α} {m : List β}, All2 R l m → m.findIdx? q = l.findIdx? p
  | [], [], _ => rfl
  | a :: l, b :: m, h => by
    simp only [List.findIdx?_cons, hpq a b h.1, All2.findIdx hpq h.2]
  | [], _ :: _, h => h.elim
  | _ :: _, [], h => h.elim

theorem All2.find {α β : Type} {R : α → β → Prop} {p : α → Bool} {q : β → Bool} (hpq : ∀ a b, R a b → q b = p a) : ∀ {l : List α} {m : List β}, All2 R l m → ∀ a, l.find? p = some a → ∃ b, m.find? q = some b ∧ R a b
  | [], [], _, a, h => by cases h
  | a :: l, b :: m, h, x, hx => by
    simp only [List.find?_cons, hpq a b h.1] at hx ⊢
    cases hp : p a with
    | true => rw [hp] at hx; obtain rfl := Option.some.inj hx; exact ⟨b, rfl, h.1⟩
    | false => rw [hp] at hx; exact All2.find hpq h.2 x hx
  | [], _ :: _, h, _, _ => h.elim
  | _ :: _, [], h, _, _ => h.elim

theorem All2.append1 {α β : Type} {R : α → β → Prop} {l : List α} {m : List β} {a : α} {b : β} (h : All2 R l m) (h1 : R a b) : All2 R (l ++ [a]) (m ++ [b]) := All2.append h ⟨h1, trivial⟩

theorem mapUpdate_ok (hT : TOk P T) (hR : R cx G st a w) {o : Oper} {t kt vt : TypeId} {m k v : Operand} (ho : o.op = .mapUpdate t m k v) {ti tk : TI} (ht : T t = some ti) (hk : ti.k = .map kt vt) (htk : T kt = some tk) {nm clock : Nat} {es : List (AV × AV × Nat)}
    (hm : rd T st 0 m = .c (.mm nm)) (hb : st.heap nm = some (.map clock es)) {ka va : AV} (hka : keyOf (rd T st kt k) = some ka) (hva : argRaw st.heap (rd T st vt v) = some va) (hi : keyIs T tk ka = true) {r} (hf : mfind T tk ka es = some r) {K : St → Prop} {X : Exit → Act → World → Prop}
    (h : match r with | some (i, _) => runM cx.n o.dst K st (.upd nm (.map clock (es.modify i fun e => (ka, va, e.2.2))) none) | none => runM cx.n o.dst K st (.upd nm (.map (clock + 1) (es ++ [(ka, va, clock)])) none)) : o.wp P a w (Post cx K) X := by
  have hu := kind_map hT ht hk
  have hAk := keyOf_ok (M := G.toMk) hka (rd_q (T := T) hR kt k)
  have hAv := argRaw_ok (M := G.toMk) (rd_q (T := T) hR vt v) hva
  have hmq := rd_q (T := T) hR 0 m
  rw [hm] at hmq
  obtain ⟨p, hp, hme⟩ := cv_mm hmq
  obtain ⟨p', hp', _, ents, h3, hA⟩ := hR.heap nm _ hb
  rw [hp] at hp'
  obtain rfl := Option.some.inj hp'
  have hA' : All2 (EntR G.toMk w) es ents.toList := hA
  have key := run_findKey_ok hT htk hi hAk hA' hf
  cases r with
  | some q =>
    obtain ⟨i, vv⟩ := q
    obtain ⟨hc, hst, e, me, h1, h2, h3', h4, h5⟩ := key
    simp only [runM] at h
    have hEnt : ents[i]? = some me := by simpa using h3'
    have hrun : (execOp a.eval o).run P w = .ok .skip { w with heap := w.heap.setIfInBounds p.b (.map (ents.modify i fun e => { e with key := a.eval k, val := a.eval v }) clock) } := by
      simp only [execOp, ho, hme]
      simp [Instr.mapUpdate, run_under hu, run_getObj_map h3, hc, h5, hEnt, h4, hst, MapKept.run_setObj_map _ h3, Result.andThen]
    refine Oper.wp_skip hrun ?_
    rw [h.1]
    refine ⟨G, _, R.turnMap hR hb hp ?_, h.2⟩
    rw [Array.toList_modify]
    exact All2.modify (fun x y hxy => ⟨hAk, hAv, hxy.2.2⟩) i hA'
  | none =>
    obtain ⟨hc, hst, h5⟩ := key
    simp only [runM] at h
    have hrun : (execOp a.eval o).run P w = .ok .skip { w with heap := w.heap.setIfInBounds p.b (.map (ents.push { key := a.eval k, val := a.eval v, born := clock }) (clock + 1)) } := by
      simp only [execOp, ho, hme]
      simp [Instr.mapUpdate, run_under hu, run_getObj_map h3, hc, h5, MapKept.run_setObj_map _ h3, Result.andThen]
    refine Oper.wp_skip hrun ?_
    rw [h.1]
    refine ⟨G, _, R.turnMap hR hb hp ?_, h.2⟩
    rw [Array.toList_push]
    exact All2.append1 hA' ⟨hAk, hAv, rfl⟩

theorem AVR.turned (hR : R cx G st a w) {nm : Nat} {blk : Blk} (hb : st.heap nm = some blk) {w' : World} (hk : Kept (fun b => G.reg nm b) w w') {v : AV} {x : Value} (h : AVR G.toMk w v x) : AVR G.toMk w' v x :=
  AVR.move h (fun _ _ h => tree_move hR hb hk h) fun _ _ => rfl

theorem mapEntry_ok (hT : TOk P T) (hR : R cx G st a w) {o : Oper} {t kt vt : TypeId} {m k : Operand} (ho : o.op = .mapEntry t m k) {ti tk te : TI} (ht : T t = some ti) (hk : ti.k = .map kt vt) (htk : T kt = some tk) (hte : T vt = some te) {nm clock : Nat} {es : List (AV × AV × Nat)}
    (hm : rd T st 0 m = .c (.mm nm)) (hb : st.heap nm = some (.map clock es)) {ka : AV} (hka : keyOf (rd T st kt k) = some ka) (hi : keyIs T tk ka = true) {r} (hf : mfind T tk ka es = some r) {K : St → Prop} {X : Exit → Act → World → Prop}
    (h : match r with | some (i, v) => ∃ e, es[i]? = some e ∧ runM cx.n o.dst K st (.upd nm (.map clock (es.modify i fun e => (ka, e.2.1, e.2.2))) (some (.tup [v, .v (.t (.int .i64 e.2.2))]))) | none => ∃ z, zeroAV te = some z ∧ runM cx.n o.dst K st (.upd nm (.map (clock + 1) (es ++ [(ka, z, clock)])) (some (.tup [z, .v (.t (.int .i64 clock))])))) : o.wp P a w (Post cx K) X := by
  have hu := kind_map hT ht hk
  have hAk := keyOf_ok (M := G.toMk) hka (rd_q (T := T) hR kt k)
  have hmq := rd_q (T := T) hR 0 m
  rw [hm] at hmq
  obtain ⟨p, hp, hme⟩ := cv_mm hmq
  obtain ⟨p', hp', hreg, ents, h3, hA⟩ := hR.heap nm _ hb
  rw [hp] at hp'
  obtain rfl := Option.some.inj hp'
  have hA' : All2 (EntR G.toMk w) es ents.toList := hA
  have key := run_findKey_ok hT htk hi hAk hA' hf
  have hkept : ∀ ob : Obj, Kept (fun b => G.reg nm b) w { w with heap := w.heap.setIfInBounds p.b ob } := fun ob =>
    ⟨rfl, rfl, rfl, by simp, fun j _ hj => (MapKept.heap_set (o' := ob) h3).2 j (fun e => by subst e; exact hj hreg)⟩
  cases r with
  | some q =>
    obtain ⟨i, vv⟩ := q
    obtain ⟨hc, hst, e, me, h1, h2, h3', h4, h5⟩ := key
    obtain ⟨e', he', h⟩ := h
    rw [h1] at he'
    obtain rfl := Option.some.inj he'
    have hEnt : ents[i]? = some me := by simpa using h3'
    obtain ⟨me', q1, q2⟩ := hA'.get i e h1
    rw [h3'] at q1
    obtain rfl := Option.some.inj q1
    have hrun : (execOp a.eval o).run P w = .ok (.value (.tuple #[me.val, .int .i64 me.born])) { w with heap := w.heap.setIfInBounds p.b (.map (ents.modify i fun e => { e with key := a.eval k }) clock) } := by
      simp only [execOp, ho, hme]
      refine run_value' _ _ _ _ ?_
      simp [Instr.mapEntry, run_under hu, run_getObj_map h3, hc, h5, hEnt, h4, hst, MapKept.run_setObj_map _ h3, Result.andThen, goInt]
    refine Oper.wp_value hrun ?_
    have hR' := R.turnMap (clock' := clock) (es' := es.modify i fun e => (ka, e.2.1, e.2.2)) (ents := ents.modify i fun e => { e with key := a.eval k }) hR hb hp (by
      rw [Array.toList_modify]
      exact All2.modify (fun x y hxy => ⟨hAk, hxy.2.1, hxy.2.2⟩) i hA')
    refine putK_ok hR' (sv := .tup [vv, .v (.t (.int .i64 e.2.2))]) ?_ h
    refine ⟨[me.val, .int .i64 me.born], rfl, ?_, ?_, trivial⟩
    · rw [← h2]; exact AVR.turned hR hb (hkept _) q2.2.1
    · rw [q2.2.2]; exact CVR.t (.int _ _)
  | none =>
    obtain ⟨hc, hst, h5⟩ := key
    obtain ⟨z, hz, h⟩ := h
    obtain ⟨zv, hz1, hz2⟩ := zeroAV_ok hT hte hz G.toMk w
    have hrun : (execOp a.eval o).run P w = .ok (.value (.tuple #[zv, .int .i64 clock])) { w with heap := w.heap.setIfInBounds p.b (.map (ents.push { key := a.eval k, val := zv, born := clock }) (clock + 1)) } := by
      simp only [execOp, ho, hme]
      refine run_value' _ _ _ _ ?_
      simp [Instr.mapEntry, run_under hu, run_getObj_map h3, hc, h5, hz1, MapKept.run_setObj_map _ h3, Result.andThen, goInt]
    refine Oper.wp_value hrun ?_
    have hR' := R.turnMap (clock' := clock + 1) (es' := es ++ [(ka, z, clock)]) (ents := ents.push { key := a.eval k, val := zv, born := clock }) hR hb hp (by
      rw [Array.toList_push]
      exact All2.append1 hA' ⟨hAk, hz2, rfl⟩)
    refine putK_ok hR' (sv := .tup [z, .v (.t (.int .i64 clock))]) ?_ h
    exact ⟨[zv, .int .i64 clock], rfl, AVR.turned hR hb (hkept _) hz2, CVR.t (.int _ _), trivial⟩

theorem entryStore_ok (hT : TOk P T) (hR : R cx G st a w) {o : Oper} {t : TypeId} {m s v : Operand} (ho : o.op = .entryStore t m s v) {nm clock : Nat} {b : Int} {es : List (AV × AV × Nat)}
    (hm : rd T st 0 m = .c (.mm nm)) (hs : rd T st 0 s = .c (.t (.int .i64 b))) (hb : st.heap nm = some (.map clock es)) {va : AV} (hva : argRaw st.heap (rd T st t v) = some va) {i : Nat} (hf : es.findIdx? (fun e => (e.2.2 : Int) == b) = some i) {K : St → Prop} {X : Exit → Act → World → Prop}
    (h : runM cx.n o.dst K st (.upd nm (.map clock (es.modify i fun e => (e.1, va, e.2.2))) none)) : o.wp P a w (Post cx K) X := by
  have hAv := argRaw_ok (M := G.toMk) (rd_q (T := T) hR t v) hva
  have hmq := rd_q (T := T) hR 0 m
  rw [hm] at hmq
  obtain ⟨p, hp, hme⟩ := cv_mm hmq
  obtain ⟨p', hp', _, ents, h3, hA⟩ := hR.heap nm _ hb
  rw [hp] at hp'
  obtain rfl := Option.some.inj hp'
  have hA' : All2 (EntR G.toMk w) es ents.toList := hA
  have hsq : a.eval s = .int .i64 b := by
    have := rd_q (T := T) hR 0 s
    rw [hs] at this
    exact cv_int this
  have hfi : ents.findIdx? (fun e => (e.born : Int) == b) = some i := by
    rw [show ents.findIdx? (fun e => (e.born : Int) == b) = ents.toList.findIdx? (fun e => (e.born : Int) == b) from by cases ents; simp, All2.findIdx (p := fun e : AV × AV × Nat => (e.2.2 : Int) == b) (fun x y hxy => by rw [hxy.2.2]) hA', hf]
  have hrun : (execOp a.eval o).run P w = .ok .skip { w with heap := w.heap.setIfInBounds p.b (.map (ents.modify i fun e => { e with val := a.eval v }) clock) } := by
    simp only [execOp, ho, hme, hsq]
    simp [Instr.entryStore, run_getObj_map h3, asInt, asIntOf, hfi, MapKept.run_setObj_map _ h3, Result.andThen]
  refine Oper.wp_skip hrun ?_
  rw [h.1]
  refine ⟨G, _, R.turnMap hR hb hp ?_, h.2⟩
  rw [Array.toList_modify]
  exact All2.modify (fun x y hxy => ⟨hxy.1, hAv, hxy.2.2⟩) i hA'

/-- A new block of another sort, with a name. -/
theorem nameNew_ok (hR : R cx G st a w) {dst : Option Nat} {blk : Blk} {sv : Nat → SV} {K : St → Prop} (h : nameK cx.n dst blk sv K st) {ob : Obj} {x : Value}
    (hx : ∀ d (M : Mk), M.ph d = some ⟨w.heap.size, 0, 0, 0, 0⟩ → SVR M (w.alloc ob) (sv d) x)
    (hB : ∀ (d : Nat) (G' : Gh), blk.has d = false → G'.ph d = some ⟨w.heap.size, 0, 0, 0, 0⟩ → G'.reg d w.heap.size → (∀ k, k ≠ d → G'.ph k = G.ph k) → (w.alloc ob).heap[w.heap.size]? = some ob → BlkR G' (w.alloc ob) d blk) :
    Post cx K (a.put dst x) (w.alloc ob) := by
  have hbel : Below w.heap.size w (w.alloc ob) := (Below.refl _ _).alloc (Nat.le_refl _) _
  cases dst with
  | none => exact h.elim
  | some d =>
    simp only [nameK] at h
    split at h
    · rename_i hd
      obtain ⟨hf, hn, h⟩ := h
      have hh : (w.alloc ob).heap[w.heap.size]? = some ob := by
        show (w.heap.push _)[w.heap.size]? = _
        simp
      obtain ⟨G', hR', hph, hhw, hoth⟩ := hR.name hd hf hn (Kept.of_below hbel) ⟨w.heap.size, 0, 0, 0, 0⟩ (block_lt hh) (Nat.le_refl _) (fun G' e1 e2 e3 e4 => hB d G' hn e2 e3 e4 hh)
      exact ⟨_, _, hR'.put hd (hx d G'.toMk hph), h⟩
    · exact h.elim

/-- An iterator's block turned. -/
theorem R.turnIter (hR : R cx G st a w) {d nm since last : Nat} {seen : List Nat} (hb : st.heap d = some (.iter nm since seen last)) {p q : PH} (hp : G.ph d = some p) (hq : G.ph nm = some q) {w1 : World} (h1 : w1 = w ∨ w1 = w.drew) (seen' : List Nat) (last' : Nat) :
    R cx G (st.upd d (.iter nm since seen' last')) a (ChangeMaps.setBlock w1 p.b (.mapIter (some q.b) since seen'.toArray last')) ∧ Kept (fun b => G.reg d b) w (ChangeMaps.setBlock w1 p.b (.mapIter (some q.b) since seen'.toArray last')) := by
  obtain ⟨p', q', hp', ho, hreg, hq', h3⟩ := hR.heap d _ hb
  rw [hp] at hp'
  obtain rfl := Option.some.inj hp'
  rw [hq] at hq'
  obtain rfl := Option.some.inj hq'
  have hset := MapKept.heap_set (o' := .mapIter (some q.b) since seen'.toArray last') h3
  have hh : (ChangeMaps.setBlock w1 p.b (.mapIter (some q.b) since seen'.toArray last')).heap = w.heap.setIfInBounds p.b (.mapIter (some q.b) since seen'.toArray last') := by
    rcases h1 with rfl | rfl <;> rfl
  have hk : Kept (fun b => G.reg d b) w (ChangeMaps.setBlock w1 p.b (.mapIter (some q.b) since seen'.toArray last')) := by
    refine ⟨by rcases h1 with rfl | rfl <;> rfl, by rcases h1 with rfl | rfl <;> rfl, by rcases h1 with rfl | rfl <;> rfl, by rw [hh]; simp, fun k _ hk => ?_⟩
    rw [hh]
    exact hset.2 k (fun e => by subst e; exact hk hreg)
  refine ⟨hR.turn hb hk (by rw [hh]; simp) ⟨p, q, hp, ho, hreg, hq, by rw [hh]; exact hset.1⟩, hk⟩

theorem next_ok (hR : R cx G st a w) {o : Oper} {x : Operand} (ho : o.op = .next x false) {d nm since last clock : Nat} {seen : List Nat} {es : List (AV × AV × Nat)} (hx : rd T st 0 x = .c (.mp d 0 0)) (hd : st.heap d = some (.iter nm since seen last)) (hb : st.heap nm = some (.map clock es))
    {K : St → Prop} {X : Exit → Act → World → Prop} (h0 : since ≤ last ∧ ∀ e ∈ es, e.2.2 < since) (h1 : (∀ e ∈ es, e.2.2 ∈ seen) → runM cx.n o.dst K st (.put (.tup [.v (.t (.bool false))])))
    (h2 : ∀ e ∈ es, e.2.2 ∉ seen → runM cx.n o.dst K st (.upd d (.iter nm since (seen ++ [e.2.2]) clock) (some (.tup [.v (.t (.bool true)), e.1, e.2.1])))) : o.wp P a w (Post cx K) X := by
  obtain ⟨p, q, hp, hpo, hreg, hq, h3⟩ := hR.heap d _ hd
  obtain ⟨q', hq', hregq, ents, h4, hA⟩ := hR.heap nm _ hb
  rw [hq] at hq'
  obtain rfl := Option.some.inj hq'
  have hA' : All2 (EntR G.toMk w) es ents.toList := hA
  have hxe : a.eval x = .pointer (some ⟨p.b, 0, none⟩) := by
    have := rd_q (T := T) hR 0 x
    rw [hx] at this
    obtain ⟨p', hp', e⟩ := cv_mp this
    rw [hp] at hp'
    obtain rfl := Option.some.inj hp'
    rw [e, hpo]; simp
  have hold : ∀ m ∈ ents.toList, m.born < since := by
    intro m hm
    obtain ⟨i, hi, rfl⟩ := List.mem_iff_getElem.1 hm
    have hl := hA'.length
    obtain ⟨m', q1, q2⟩ := hA'.get i _ (List.getElem?_eq_getElem (by omega : i < es.length))
    rw [List.getElem?_eq_getElem hi] at q1
    rw [Option.some.inj q1, q2.2.2]
    exact h0.2 _ (List.getElem_mem _)
  rcases run_next_at (P := P) w o.type p.b q.b since last seen.toArray ents clock h3 h4 hold h0.1 with ⟨hz, hrun⟩ | ⟨e, he, w1, hw1, hrun⟩
  · have hall := all_seen ents seen.toArray hz
    refine Oper.wp_value (v := .tuple #[.bool false]) (w' := w) (by simp only [execOp, ho, hxe]; exact run_value' _ _ _ _ hrun) ?_
    refine putK_ok hR (sv := .tup [.v (.t (.bool false))]) ⟨[.bool false], rfl, CVR.t (.bool false), trivial⟩ (h1 ?_)
    intro e he
    obtain ⟨i, hi, rfl⟩ := List.mem_iff_getElem.1 he
    obtain ⟨m', q1, q2⟩ := hA'.get i _ (List.getElem?_eq_getElem hi)
    have := hall m' (List.mem_of_getElem? q1)
    rw [q2.2.2] at this
    simpa using this
  · obtain ⟨hm1, hm2⟩ := mem_left he
    obtain ⟨i, hi, hie⟩ := List.mem_iff_getElem.1 hm1
    have hl := hA'.length
    obtain ⟨m', q1, q2⟩ := hA'.get i _ (List.getElem?_eq_getElem (by omega : i < es.length))
    rw [List.getElem?_eq_getElem hi, hie] at q1
    obtain rfl := Option.some.inj q1
    have hR' := R.turnIter hR hd hp hq hw1 (seen ++ [es[i].2.2]) clock
    have hpush : seen.toArray.push e.born = (seen ++ [es[i].2.2]).toArray := by rw [q2.2.2]; simp
    rw [hpush] at hrun
    refine Oper.wp_value (v := .tuple #[.bool true, e.key, e.val]) (by simp only [execOp, ho, hxe]; exact run_value' _ _ _ _ hrun) ?_
    refine putK_ok hR'.1 (sv := .tup [.v (.t (.bool true)), es[i].1, es[i].2.1]) ?_ (h2 es[i] (List.getElem_mem _) ?_)
    · exact ⟨[.bool true, e.key, e.val], rfl, CVR.t (.bool true), AVR.turned hR hd hR'.2 q2.1, AVR.turned hR hd hR'.2 q2.2.1, trivial⟩
    · rw [q2.2.2] at hm2
      simpa using hm2

theorem entry_ok (hR : R cx G st a w) {o : Oper} {x : Operand} (ho : o.op = .entry x) {d nm since last : Nat} {seen : List Nat} {es : List (AV × AV × Nat)} (hx : rd T st 0 x = .c (.mp d 0 0)) (hd : st.heap d = some (.iter nm since seen last)) (hb : st.heap nm = some (.map last es))
    {b : Nat} (hs : seen.getLast? = some b) {e : AV × AV × Nat} (he : es.find? (fun e => e.2.2 == b) = some e) {K : St → Prop} {X : Exit → Act → World → Prop} (h : runM cx.n o.dst K st (.put (.tup [e.1, e.2.1]))) : o.wp P a w (Post cx K) X := by
  obtain ⟨p, q, hp, hpo, hreg, hq, h3⟩ := hR.heap d _ hd
  obtain ⟨q', hq', hregq, ents, h4, hA⟩ := hR.heap nm _ hb
  rw [hq] at hq'
  obtain rfl := Option.some.inj hq'
  have hA' : All2 (EntR G.toMk w) es ents.toList := hA
  have hxe : a.eval x = .pointer (some ⟨p.b, 0, none⟩) := by
    have := rd_q (T := T) hR 0 x
    rw [hx] at this
    obtain ⟨p', hp', e⟩ := cv_mp this
    rw [hp] at hp'
    obtain rfl := Option.some.inj hp'
    rw [e, hpo]; simp
  obtain ⟨m, hm, hem⟩ := All2.find (p := fun e : AV × AV × Nat => e.2.2 == b) (q := fun m : MapEntry => m.born == b) (fun x y hxy => by rw [hxy.2.2]) hA' e he
  have hback : seen.toArray.back? = some b := by simpa using hs
  have hfm : ents.find? (fun m => m.born == b) = some m := by rw [← Array.find?_toList]; exact hm
  have hrun : (Instr.entry (.pointer (some ⟨p.b, 0, none⟩))).run P w = .ok (.tuple #[m.key, m.val]) w := by
    simp only [Instr.entry, getObj, Sem.run_bind, Sem.run, h3, h4, Result.andThen, hback, bne_self_eq_false, Bool.false_eq_true, if_false, hfm]
    rfl
  refine Oper.wp_value (by simp only [execOp, ho, hxe]; exact run_value' _ _ _ _ hrun) ?_
  exact putK_ok hR (sv := .tup [e.1, e.2.1]) ⟨[m.key, m.val], rfl, hem.1, hem.2.1, trivial⟩ h

theorem short_q {M : Mk} {n : Nat} {sv : SV} {x : Value} (hx : SVR M w sv x) {sz : Nat} {rows : List (List CV)} (hs : srcOf st (shortS n sv) = some (sz, rows)) : ∃ a len cap, x = .slice a len cap ∧ rows.length = min n len ∧ SVR M w (shortS n sv) (.slice a (min n len) cap) := by
  have key : ∀ sv', (∀ nm lo len, sv' ≠ .c (.mr nm lo len)) → (∀ sz rows, sv' ≠ .c (.t (.sl sz rows))) → SVR M w sv' x → srcOf st sv' = some (sz, rows) → ∃ a len cap, x = .slice a len cap ∧ rows.length = min n len ∧ SVR M w sv' (.slice a (min n len) cap) := by
    intro sv' h1 h2 hx hs
    unfold srcOf at hs
    split at hs
    · exact absurd rfl (h2 _ _)
    · simp only [Option.some.injEq, Prod.mk.injEq] at hs
      obtain ⟨rfl, rfl⟩ := hs
      obtain ⟨_, a0, rfl⟩ := cv_own hx
      exact ⟨a0, 0, 0, rfl, by simp, by rw [Nat.min_zero]; exact CVR.nil _ _⟩
    · exact absurd rfl (h1 _ _ _)
    · cases hs
  unfold shortS at hs ⊢
  split at hs
  · rename_i nm lo len
    have hq : CVR M w Emp (.mr nm lo len) x := hx
    simp only [srcOf] at hs
    have hl : rows.length = min n len := by
      split at hs
      · split at hs
        · rename_i hc
          simp only [Option.some.injEq, Prod.mk.injEq] at hs
          rw [← hs.2, sub_length hc.1]
        · cases hs
      · cases hs
    cases hq with
    | mr0 => exact ⟨_, 0, 0, rfl, by simpa using hl, by rw [Nat.min_zero]; exact CVR.mr0 nm lo _⟩
    | mr _ _ _ cap p hp h1 h2 h3 h4 => exact ⟨_, len, cap, rfl, hl, CVR.mr nm lo (min n len) cap p hp (by omega) (by omega) h3 h4⟩
  · rename_i sz' rows'
    simp only [srcOf, Option.some.injEq, Prod.mk.injEq] at hs
    obtain ⟨rfl, rfl⟩ := hs
    have hq := cv_tv (S := Emp) hx
    cases hq with
    | nil _ a cap => exact ⟨a, 0, cap, rfl, by simp [up], by rw [Nat.min_zero, List.take_nil]; exact CVR.t (.nil _ a cap)⟩
    | sl _ _ b o cap f h0 hl hc he h1 h2 =>
      refine ⟨_, rows'.length, cap, rfl, by simp [up], ?_⟩
      by_cases hz : min n rows'.length = 0
      · have : rows'.take n = [] := by
          rcases Nat.min_eq_zero_iff.1 hz with h | h
          · rw [h]; rfl
          · rw [List.eq_nil_of_length_eq_zero h]; simp
        rw [this, hz]
        exact CVR.t (.nil _ _ _)
      · have hlt : (rows'.take n).length = min n rows'.length := by simp
        have := TVR.sl (hw := M.hw) (w := w) sz' (rows'.take n) b o cap f h0 (fun r hr => hl r (List.mem_of_mem_take hr)) (by omega) (by
            have := Nat.mul_le_mul_right sz' (show (rows'.take n).length ≤ rows'.length by omega)
            omega) (fun i j hi hj => h1 i j (by omega) hj) (fun i r j x hi hj => h2 i r j x (by
              rw [List.getElem?_take] at hi
              split at hi
              · exact hi
              · cases hi) hj)
        rw [hlt] at this
        exact CVR.t this
  · rename_i h1 h2
    exact key _ (fun nm lo len e => h1 nm lo len e) (fun sz rows e => h2 sz rows e) hx hs

/-- Rows of a name's block written. -/
theorem R.storeRows (hR : R cx G st a w) {nm sz lo : Nat} {rows new : List (List CV)} (hb : st.heap nm = some (.cells sz rows)) {p : PH} (hp : G.ph nm = some p) (hl : lo + new.length ≤ rows.length) (hrow : ∀ r ∈ new, r.length = sz) {vs : List Value} (hvl : vs.length = new.length * sz)
    (hv : ∀ i r j c, new[i]? = some r → r[j]? = some c → ∃ u, vs[i * sz + j]? = some u ∧ CVR G.toMk w Emp c u) :
    R cx G (st.upd nm (.cells sz (rows.take lo ++ new ++ rows.drop (lo + new.length)))) a (w.setCells p.b (p.o + lo * p.sz) vs) := by
  have hB := hR.heap nm _ hb
  simp only [BlkR, hp] at hB
  obtain ⟨h1, h2, h3, h4, h5, bcs, el, h6, h7, h8, g, g1, g2, g3⟩ := hB
  have hw := Wrote.cells p.b vs (p.o + lo * p.sz) w
  have hk : Kept (fun b => G.reg nm b) w (w.setCells p.b (p.o + lo * p.sz) vs) := hw.kept h5
  refine hR.turn hb hk hw.size ?_
  obtain ⟨cs', q1, q2, q3⟩ := hw.block bcs el _ h6
  have hmv : ∀ (S : Nat → Prop) (c : CV) (x : Value), (∀ k, S k → k ≠ p.b) → CVR G.toMk w S c x → CVR G.toMk (w.setCells p.b (p.o + lo * p.sz) vs) S c x := fun S c x hS h => CVR.move h (fun v y h => tree_move hR hb hk h) (fun k hk' => hw.other k (hS k hk')) (fun _ _ => rfl)
  have hsp : (lo + new.length) * sz = lo * sz + new.length * sz := Nat.add_mul _ _ _
  have hle := Nat.mul_le_mul_right sz hl
  have hin := World.cell?_setCells_in p.b vs (p.o + lo * p.sz) w (by
    intro j' hj'
    simp only [World.cell?, h6]
    rw [h1]
    simp
    omega)
  have hcs : ∀ j' x, (w.setCells p.b (p.o + lo * p.sz) vs).cell? ⟨p.b, j', none⟩ = some x → cs'[j']? = some x := by
    intro j' x hx
    simp only [World.cell?, q1] at hx
    simpa using hx
  have hlen : (rows.take lo ++ new ++ rows.drop (lo + new.length)).length = rows.length := by
    simp only [List.length_append, List.length_take, List.length_drop]; omega
  have hget : ∀ i, (rows.take lo ++ new ++ rows.drop (lo + new.length))[i]? = if i < lo then rows[i]? else if i < lo + new.length then new[i - lo]? else rows[i]? := by
    intro i
    have htl : (rows.take lo).length = lo := by rw [List.length_take]; omega
    by_cases c1 : i < lo
    · rw [if_pos c1, List.append_assoc, List.getElem?_append_left (by omega), List.getElem?_take, if_pos c1]
    · rw [if_neg c1]
      by_cases c2 : i < lo + new.length
      · rw [if_pos c2, List.append_assoc, List.getElem?_append_right (by omega), htl, List.getElem?_append_left (by omega)]
      · rw [if_neg c2, List.getElem?_append_right (by rw [List.length_append, htl]; omega), List.length_append, htl, List.getElem?_drop]
        congr 1; omega
  simp only [BlkR, hp]
  refine ⟨h1, by rw [hlen]; exact h2, h3, ?_, h5, cs', el, q1, by rw [q2, h7], by rw [hlen]; exact h8, fun i' j' k => g i' j' k ∧ ¬ (lo ≤ i' ∧ i' < lo + new.length), fun i' j' k hk' => g1 i' j' k hk'.1, fun i1 j1 i2 j2 k ha hb' => g2 i1 j1 i2 j2 k ha.1 hb'.1, ?_⟩
  · intro r hr
    rcases List.mem_append.1 hr with hr | hr
    · rcases List.mem_append.1 hr with hr | hr
      · exact h4 r (List.mem_of_mem_take hr)
      · exact hrow r hr
    · exact h4 r (List.mem_of_mem_drop hr)
  · intro i r j c hi hj
    rw [hget] at hi
    by_cases hii : lo ≤ i ∧ i < lo + new.length
    · rw [if_neg (by omega), if_pos hii.2] at hi
      obtain ⟨x, e1, e2⟩ := hv _ _ _ _ hi hj
      have hjl := (List.getElem?_eq_some_iff.1 hj).1
      rw [hrow r (List.mem_of_getElem? hi)] at hjl
      have hjv : (i - lo) * sz + j < vs.length := by rw [hvl]; exact row_lt (by omega) hjl
      refine ⟨x, hcs _ _ ?_, (hmv Emp c x (fun _ h => h.elim) e2).wide fun _ h => h.elim⟩
      have := hin _ hjv
      rw [List.getElem?_eq_getElem hjv] at e1
      rw [← Option.some.inj e1, ← this]
      congr 2
      rw [h1]
      have : i * sz = lo * sz + (i - lo) * sz := by rw [← Nat.add_mul]; congr 1; omega
      omega
    · have hi' : rows[i]? = some r := by
        by_cases c1 : i < lo
        · rw [if_pos c1] at hi; exact hi
        · rw [if_neg c1, if_neg (by omega)] at hi; exact hi
      obtain ⟨x, e1, e2⟩ := g3 i r j c hi' hj
      have hjl := (List.getElem?_eq_some_iff.1 hj).1
      rw [h4 r (List.mem_of_getElem? hi')] at hjl
      refine ⟨x, ?_, (hmv _ c x (fun k hk' => (g1 _ _ k hk').2) e2).wide fun k hk' => ⟨hk', hii⟩⟩
      rw [q3 _ ?_]
      · exact e1
      · rw [h1, hvl]
        by_cases c1 : i < lo
        · have := Nat.mul_le_mul_right sz (show i + 1 ≤ lo by omega)
          rw [Nat.succ_mul] at this
          left; omega
        · have := Nat.mul_le_mul_right sz (show lo + new.length ≤ i by omega)
          right; omega

theorem copy_ok (hT : TOk P T) (hR : R cx G st a w) {o : Oper} {x y : Operand} {t t2 e e2 : TypeId} (ho : o.op = .call { callee := .builtin .copy, args := #[x, y], argTypes := #[t, t2] }) {ti ti2 te : TI} (ht : T t = some ti) (hk : ti.k = .slice e) (ht2 : T t2 = some ti2) (hk2 : ti2.k = .slice e2) (he : T e = some te)
    {nm lo len sz sz2 : Nat} {rows ys : List (List CV)} (hx : rd T st t x = .c (.mr nm lo len)) (hb : st.heap nm = some (.cells sz rows)) (hs : srcOf st (shortS len (rd T st t2 y)) = some (sz2, ys)) (hc : sz = te.size ∧ sz2 = te.size ∧ lo + len ≤ rows.length ∧ ys.length ≤ len) {K : St → Prop} {X : Exit → Act → World → Prop}
    (h : runM cx.n o.dst K st (.upd nm (.cells sz (rows.take lo ++ ys ++ rows.drop (lo + ys.length))) (some (.c (.t (.int .i64 ys.length)))))) : o.wp P a w (Post cx K) X := by
  obtain ⟨rfl, rfl, hfit, hyl⟩ := hc
  obtain ⟨a0, slen, scap, hye, hyn, hyq⟩ := short_q (rd_q (T := T) hR t2 y) hs
  obtain ⟨info, hi, hisz, _⟩ := info_of (hT _ _ he)
  obtain ⟨hrow, hpos, news, hsrc, hnews⟩ := srcOf_ok hR (info := info) (kind_slice hT ht2 hk2) hyq hs hisz
  have hu := kind_slice hT ht hk
  have hxq : CVR G.toMk w Emp (.mr nm lo len) (a.eval x) := by
    have := rd_q (T := T) hR t x
    rw [hx] at this
    exact this
  have hcells : (Builtin.firstCells te.size ys.length (a.eval y)).run P w = .ok news.toArray w := by
    have h1 := hsrc.cells
    rw [hisz] at h1
    rw [hye]
    cases a0 <;> simpa [Builtin.firstCells] using h1
  have hnl : news.length = ys.length * te.size := by rw [hsrc.newsLen, hisz]
  have hB := hR.heap nm _ hb
  cases hp : G.ph nm with
  | none =>
    simp only [BlkR, hp] at hB
    subst hB
    have hl0 : len = 0 := by simp at hfit; omega
    subst hl0
    have hy0 : ys = [] := List.eq_nil_of_length_eq_zero (by omega)
    subst hy0
    have hn0 : news = [] := List.eq_nil_of_length_eq_zero (by simpa using hnl)
    subst hn0
    have hxv : ∃ b0 c0, a.eval x = .slice b0 0 c0 := by
      generalize a.eval x = xv at hxq
      cases hxq with
      | mr0 => exact ⟨_, _, rfl⟩
      | mr _ _ _ cap p => exact ⟨_, _, rfl⟩
    obtain ⟨b0, c0, hxe⟩ := hxv
    have hmin : Nat.min slen 0 = 0 := Nat.min_zero _
    have hrun : (execOp a.eval o).run P w = .ok (.value (.int .i64 0)) w := by
      simp only [execOp, ho]
      have : (Builtin.copy_ #[t, t2] o.type #[.slice b0 0 c0, .slice a0 slen scap]).run P w = .ok (.int .i64 0) w := by
        rw [hye] at hcells
        cases b0 <;> cases a0 <;> simp_all [Builtin.copy_, run_under hu, Builtin.lenOf, run_size (hT _ _ he), storeCells, Result.andThen, goInt]
      simp [resolve, invoke, hxe, hye, builtin, this, Result.andThen]
    refine Oper.wp_value hrun ?_
    have hR' : R cx G (st.upd nm (.cells te.size [])) a w := by
      have e : st.upd nm (.cells te.size []) = st := by
        simp only [St.upd]
        congr 1
        funext k
        by_cases hk : k = nm
        · subst hk; rw [if_pos rfl, hb]
        · rw [if_neg hk]
      rw [e]; exact hR
    exact putK_ok (sv := .c (.t (.int .i64 ((0 : Nat) : Int)))) hR' (CVR.t (.int _ _)) (by simpa [runM] using h)
  | some p =>
    simp only [BlkR, hp] at hB
    obtain ⟨b1, b2, b3, b4, b5, bcs, el, b6, b7, b8, b9⟩ := hB
    have hxe : ∃ b0 dcap, a.eval x = .slice b0 len dcap ∧ (ys ≠ [] → b0 = some ⟨p.b, p.o + lo * p.sz, none⟩) := by
      generalize a.eval x = xv at hxq
      cases hxq with
      | mr0 => exact ⟨_, _, rfl, fun hne => absurd (List.eq_nil_of_length_eq_zero (by omega)) hne⟩
      | mr _ _ _ cap p' hp' h1 h2 h3 h4 =>
        rw [hp] at hp'
        obtain rfl := Option.some.inj hp'
        exact ⟨_, _, rfl, fun _ => rfl⟩
    obtain ⟨b0, dcap, hxe, hb0⟩ := hxe
    have hsp := Nat.mul_le_mul_right te.size (show lo + ys.length ≤ rows.length by omega)
    rw [Nat.add_mul] at hsp
    have hst : ys ≠ [] → (storeCells ⟨p.b, p.o + lo * p.sz, none⟩ news).run P w = .ok () (w.setCells p.b (p.o + lo * p.sz) news) := by
      intro _
      have := run_storeCells_cells (P := P) p.b (p.o + lo * p.sz) news 0 w (by
        intro j hj
        simp only [World.cell?, b6, b1]
        simp
        omega) (by
        intro j hj
        simp [World.frozen?, b6]) hsrc.one
      simpa using this
    have hnmin : ys.length = Nat.min slen len := by rw [hyn]; exact Nat.min_comm _ _
    have hcopy : (Builtin.copy_ #[t, t2] o.type #[.slice b0 len dcap, .slice a0 slen scap]).run P w = .ok (.int .i64 ys.length) (w.setCells p.b (p.o + lo * p.sz) news) := by
      rw [hye] at hcells
      by_cases hy0 : ys = []
      · subst hy0
        have hn0 : news = [] := List.eq_nil_of_length_eq_zero (by simpa using hnl)
        subst hn0
        simp only [List.length_nil] at hcells hnmin ⊢
        have hsc : w.setCells p.b (p.o + lo * p.sz) [] = w := rfl
        rw [hsc]
        cases b0 <;> simp [Builtin.copy_, run_under hu, Builtin.lenOf, run_size (hT _ _ he), ← hnmin, hcells, storeCells, Result.andThen, goInt]
      · rw [hb0 hy0]
        simp [Builtin.copy_, run_under hu, Builtin.lenOf, run_size (hT _ _ he), ← hnmin, hcells, hst hy0, Result.andThen, goInt]
    have hrun : (execOp a.eval o).run P w = .ok (.value (.int .i64 ys.length)) (w.setCells p.b (p.o + lo * p.sz) news) := by
      simp only [execOp, ho]
      simp [resolve, invoke, hxe, hye, builtin, hcopy, Result.andThen]
    refine Oper.wp_value hrun ?_
    exact putK_ok (sv := .c (.t (.int .i64 (ys.length : Int)))) (hR.storeRows hb hp (by omega) (fun r hr => hrow r hr) (by rw [hnl]) hnews) (CVR.t (.int _ _)) h

theorem mapE_ok (hT : TOk P T) (hR : R cx G st a w) {o : Oper} {K : St → Prop} {X : Exit → Act → World → Prop} (h : mapE T o (runM cx.n o.dst K st) st) : o.wp P a w (Post cx K) X := by
  unfold mapE at h
  split at h
  · rename_i t ho
    refine Oper.wp_value (v := .map (some w.heap.size)) (w' := w.alloc (.map #[] 0)) (by simp only [execOp, ho]; exact run_value' _ _ _ _ (by simp [Instr.makeMap, Result.andThen])) ?_
    exact nameNew_ok hR h (fun d M hph => CVR.mm d _ hph) fun d G' hn e2 e3 e4 hh => ⟨_, e2, e3, #[], hh, trivial⟩
  · rename_i t m k v ho
    split at h
    · rename_i ti nm ht hm
      split at h
      · rename_i kt vt clock es hk hb
        split at h
        · rename_i tk ka va htk hka hva
          split at h
          · rename_i i vv hi hf
            exact mapUpdate_ok hT hR ho ht hk htk hm hb hka hva hi hf h
          · rename_i hi hf
            exact mapUpdate_ok hT hR ho ht hk htk hm hb hka hva hi hf h
          · exact h.elim
        · exact h.elim
      · exact h.elim
    · exact h.elim
  · rename_i t m k ho
    split at h
    · rename_i ti nm ht hm
      split at h
      · rename_i kt vt clock es hk hb
        split at h
        · rename_i tk te ka htk hte hka
          split at h
          · rename_i i vv hi hf
            split at h
            · rename_i e he
              exact mapEntry_ok hT hR ho ht hk htk hte hm hb hka hi hf ⟨e, he, h⟩
            · exact h.elim
          · rename_i hi hf
            split at h
            · rename_i z hz
              exact mapEntry_ok hT hR ho ht hk htk hte hm hb hka hi hf ⟨z, hz, h⟩
            · exact h.elim
          · exact h.elim
        · exact h.elim
      · exact h.elim
    · exact h.elim
  · rename_i t m s v ho
    split at h
    · rename_i nm b hm hs
      split at h
      · rename_i clock es va hb hva
        split at h
        · rename_i i hf
          exact entryStore_ok hT hR ho hm hs hb hva hf h
        · exact h.elim
      · exact h.elim
    · exact h.elim
  · rename_i t x ho
    split at h
    · rename_i ti nm ht hx
      split at h
      · rename_i kt vt clock es hk hb
        have hu := kind_map hT ht hk
        have hxq := rd_q (T := T) hR t x
        rw [hx] at hxq
        obtain ⟨p, hp, hxe⟩ := cv_mm hxq
        obtain ⟨p', hp', hreg, ents, h3, hA⟩ := hR.heap nm _ hb
        rw [hp] at hp'
        obtain rfl := Option.some.inj hp'
        refine Oper.wp_value (v := .pointer (some ⟨w.heap.size, 0, none⟩)) (w' := w.alloc (.mapIter (some p.b) clock #[] clock)) (by simp only [execOp, ho, hxe]; exact run_value' _ _ _ _ (run_range_map w t kt vt p.b ents clock hu h3)) ?_
        refine nameNew_ok hR h (fun d M hph => by have := CVR.mp (M := M) (w := w.alloc (.mapIter (some p.b) clock #[] clock)) (S := Emp) d 0 0 _ hph; show CVR M _ Emp _ _; simpa using this) fun d G' hn e2 e3 e4 hh => ?_
        have hne : nm ≠ d := by
          intro e; subst e
          simp [Blk.has] at hn
        exact ⟨_, p, e2, rfl, e3, by rw [e4 nm hne, hp], hh⟩
      · exact h.elim
    · exact h.elim
  · rename_i x ho
    split at h
    · rename_i d hx
      split at h
      · rename_i nm since seen last hd
        split at h
        · rename_i clock es hb
          exact next_ok hR ho hx hd hb h.1 h.2.1 h.2.2
        · exact h.elim
      · exact h.elim
    · exact h.elim
  · rename_i x ho
    split at h
    · rename_i d hx
      split at h
      · rename_i nm since seen last hd
        split at h
        · rename_i clock es b hb hs
          obtain ⟨rfl, h⟩ := h
          split at h
          · rename_i e he
            exact entry_ok hR ho hx hd hb hs he h
          · exact h.elim
        · exact h.elim
      · exact h.elim
    · exact h.elim
  · rename_i c ho
    obtain ⟨cal, args, types⟩ := c
    simp only at h
    split at h
    · split at h
      · rename_i x t ha ht0
        obtain rfl : args = #[x] := by rw [← Array.toArray_toList (xs := args), ha]
        obtain rfl : types = #[t] := by rw [← Array.toArray_toList (xs := types), ht0]
        split at h
        · rename_i ti nm ht hx
          split at h
          · rename_i kt vt clock es hk hb
            have hu := kind_map hT ht hk
            have hxq := rd_q (T := T) hR t x
            rw [hx] at hxq
            obtain ⟨p, hp, hxe⟩ := cv_mm hxq
            obtain ⟨p', hp', hreg, ents, h3, hA⟩ := hR.heap nm _ hb
            rw [hp] at hp'
            obtain rfl := Option.some.inj hp'
            have hrun : (execOp a.eval o).run P w = .ok (.value (.tuple #[])) { w with heap := w.heap.setIfInBounds p.b (.map #[] clock) } := by
              simp only [execOp, ho]
              simp [resolve, invoke, hxe, builtin, Builtin.clear_, run_under hu, run_getObj_map h3, MapKept.run_setObj_map _ h3, Result.andThen]
            refine Oper.wp_value hrun ?_
            exact putK_ok (R.turnMap (clock' := clock) (es' := []) (ents := #[]) hR hb hp trivial) (sv := .tup []) ⟨[], rfl, trivial⟩ h
          · exact h.elim
        · exact h.elim
      · exact h.elim
    · split at h
      · rename_i x y t t2 ha ht0
        obtain rfl : args = #[x, y] := by rw [← Array.toArray_toList (xs := args), ha]
        obtain rfl : types = #[t, t2] := by rw [← Array.toArray_toList (xs := types), ht0]
        split at h
        · rename_i ti ti2 nm lo len ht ht2 hx
          split at h
          · rename_i e e2 sz rows sz2 ys hk hk2 hb hs
            split at h
            · rename_i te he
              exact copy_ok hT hR ho ht hk ht2 hk2 he hx hb hs h.1 h.2
            · exact h.elim
          · exact h.elim
        · exact h.elim
      · exact h.elim
    · exact h.elim
  · exact h.elim
end
end Go.Proofs.Ytgmjgognpabmdaa.Fx
