import Derived.Test.YteoddaeipckgcaaEv13
namespace Go.Proofs.Yteoddaeipckgcaa.Ev
open Go Go.RowKit
set_option linter.unusedSimpArgs false
set_option linter.unusedVariables false
variable {P : Program} {T : TypeId → Option TI}

/-- Each contract of the walk's is one, of a function that is entered as it stands. -/
def EnvOk (P : Program) (E : Env) : Prop := ∀ f args res, E f args res → Entered P f ∧ Spec P f args res

section
variable {n : Nat} {w0 : World} {hw0 : Nat → Nat} {G : Gh} {st : St} {a : Act} {w : World} {E : Env}

theorem ownOf_r (hR : R n w0 hw0 G st a w) {t : TypeId} {x : Operand} {s : Option Nat} {sz : Nat} {rows : List (List TV)} (hx : ownOf T st t x = some (s, sz, rows)) :
    ∃ s', R n w0 hw0 G (st.dropO s) a w ∧ OwnR G w w0.heap.size (.slot s') sz rows (a.eval x) ∧ (rows ≠ [] → ∀ sz' rows', (st.dropO s).slots s' ≠ .c (.own sz' rows')) := by
  cases x with
  | tmp s' =>
    simp only [ownOf] at hx
    split at hx
    · rename_i sz' rows' hs
      simp only [Option.some.injEq, Prod.mk.injEq] at hx
      obtain ⟨rfl, rfl, rfl⟩ := hx
      have hsl := hR.slots s'
      rw [hs] at hsl
      exact ⟨s', hR.dropSlot s', hsl, fun _ => dropSlot_ne _ _⟩
    · cases hx
  | const v =>
    simp only [ownOf] at hx
    split at hx
    · rename_i sz' rows' hs
      split at hx
      · simp only [Option.some.injEq, Prod.mk.injEq] at hx
        obtain ⟨rfl, rfl, rfl⟩ := hx
        have hq := rd_q (T := T) hR t (.const v)
        simp only [rd] at hq
        rw [hs] at hq
        exact ⟨0, hR, hq 0, fun h => absurd rfl h⟩
      · cases hx
    · cases hx
  | global g => simp [ownOf] at hx
  | func f => simp [ownOf] at hx

theorem append_ok (hT : TOk P T) (hR : R n w0 hw0 G st a w) {o : Oper} {x y : Operand} {t t2 : TypeId} (ho : o.op = .call { callee := .builtin .append, args := #[x, y], argTypes := #[t, t2] }) {K : St → Prop} {X : Exit → Act → World → Prop}
    (h : appendK T n o.dst x y t t2 K st) : o.wp P a w (Post n w0 hw0 K) X := by
  unfold appendK at h
  split at h
  · rename_i ti ti2 ht ht2
    split at h
    · rename_i e e2 hk hk2
      split at h
      · rename_i te s sz rows sz2 ys d he hx hy hd
        split at h
        · rename_i hc
          obtain ⟨hsz, hsz2, hdn⟩ := hc
          obtain ⟨⟨hb, hm⟩, hK⟩ := h
          have hyt : TVR G.hw w (.sl sz2 ys) (a.eval y) := by
            have hq := rd_q (T := T) hR t2 y
            unfold listOf at hy
            split at hy
            · rename_i sz' rows' hr
              simp only [Option.some.injEq, Prod.mk.injEq] at hy; obtain ⟨rfl, rfl⟩ := hy
              rw [hr] at hq
              exact Q.tv.1 hq
            · rename_i sz' rows' hr
              simp only [Option.some.injEq, Prod.mk.injEq] at hy; obtain ⟨rfl, rfl⟩ := hy
              rw [hr] at hq
              exact CVR.tree (c := .own sz' rows') (hq 0)
            · cases hy
          obtain ⟨s', hR', hown, hfree⟩ := ownOf_r hR hx
          obtain ⟨r, w', G', hrun, hR2, hO⟩ := append_own (ty := o.type) hT hR' ht hk he (kind_slice hT ht2 hk2) hown hfree hyt (fun _ => hsz) hsz2 hb hm d
          have hrun2 : (execOp a.eval o).run P w = .ok (.value r) w' := by
            simp only [execOp, ho, resolve, Sem.run_bind, Sem.run_pure, Result.andThen_ok, invoke, builtin]
            simp [hrun]
          refine Oper.wp_value hrun2 ?_
          rw [hd]
          exact ⟨G', _, hR2.put (sv := .c (.own te.size (rows ++ ys))) hdn hO, hK⟩
        · exact h.elim
      · exact h.elim
    · exact h.elim
  · exact h.elim

theorem All2.flat {hw hw' : Nat → Nat} {w w' : World} : ∀ (rs : List AV), rs.all AV.flat = true → ∀ us : List Value, All2 (AVR hw w) rs us → All2 (AVR hw' w') rs us
  | [], _, [], _ => trivial
  | [], _, _ :: _, h => h.elim
  | r :: rs, hr, [], h => h.elim
  | r :: rs, hr, u :: us, h => by
    simp only [List.all_cons, Bool.and_eq_true] at hr
    exact ⟨flat_anyA hr.1 h.1, All2.flat rs hr.2 us h.2⟩

theorem ResR.flat {hw hw' : Nat → Nat} {w w' : World} {v : Value} {res : List AV} (hf : res.all AV.flat = true) (h : ResR hw w v res) : ResR hw' w' v res := by
  match res, hf, h with
  | [], hf, h => obtain ⟨us, q1, q2⟩ := h; exact ⟨us, q1, All2.flat _ hf us q2⟩
  | [r], hf, h =>
    simp only [List.all_cons, List.all_nil, Bool.and_true] at hf
    exact flat_anyA hf h
  | r :: s :: t, hf, h => obtain ⟨us, q1, q2⟩ := h; exact ⟨us, q1, All2.flat _ hf us q2⟩

theorem call_ok (hE : EnvOk P E) (hT : TOk P T) (hR : R n w0 hw0 G st a w) {o : Oper} {f : FuncId} {args : Array Operand} {types : Array TypeId} (ho : o.op = .call { callee := .value (.func f), args, argTypes := types }) {K : St → Prop} {X : Exit → Act → World → Prop}
    (h : callK E T n o.dst f args.toList types.toList K st) : o.wp P a w (Post n w0 hw0 K) X := by
  unfold callK at h
  split at h
  · rename_i vs hvs
    obtain ⟨res, hres, hflat, hK⟩ := h
    obtain ⟨hent, hspec⟩ := hE f vs res hres
    obtain ⟨h1, h2⟩ := argsOf_r hR _ _ vs hvs
    have hrun : (execOp a.eval o).run P w = .ok (.enter f (args.toList.map a.eval).toArray) w := by
      have hA : Array.map a.eval args = (args.toList.map a.eval).toArray := by apply Array.ext'; simp
      simp only [execOp, ho, resolve, hA]
      show Sem.run P (do let d ← (pure { target := .fn (.func f) #[], args := #[] ++ (args.toList.map a.eval).toArray } : Sem Deferred); invoke d.target d.args) w = _
      simp only [Sem.run_bind, Sem.run_pure, Result.andThen_ok, invoke]
      rw [show (#[] ++ (args.toList.map a.eval).toArray ++ #[] : Array Value) = (args.toList.map a.eval).toArray from by apply Array.ext'; simp]
      exact hent _ _
    unfold Oper.wp
    rw [hrun, Oper.upon_enter]
    by_cases hmr : anyMr T st args.toList types.toList = true
    · have hfl := hflat hmr
      have hc := hspec w (fullHw G w) _ h1 (fun b hb => by
        unfold fullHw
        rw [Array.getElem?_eq_none hb]
        exact hR.hwNew b hb)
      refine hc.mono fun e w' ⟨v, hw', he, hr, hold, hnew, hbel⟩ => ?_
      subst he
      show Post n w0 hw0 K (a.put o.dst v) w'
      have hg : Grew G G st w w' := ⟨hbel, fun _ _ => rfl, fun k hk => hR.hwNew k (Nat.le_trans hbel.size hk), fun _ _ _ => rfl, fun _ _ => rfl⟩
      have hR2 := hR.grow hg
      refine putK_ok hR2 (resSV_q (G := G) (hw := G.hw) rfl ?_) hK
      exact ResR.flat hfl hr
    · have h3 := h2 (by simpa using hmr)
      have hc := hspec w G.hw _ h3 hR.hwNew
      refine hc.mono fun e w' ⟨v, hw', he, hr, hold, hnew, hbel⟩ => ?_
      subst he
      show Post n w0 hw0 K (a.put o.dst v) w'
      have hg : Grew G { G with hw := hw' } st w w' := ⟨hbel, hold, hnew, fun _ _ _ => rfl, fun _ _ => rfl⟩
      have hR2 := hR.grow hg
      exact putK_ok hR2 (resSV_q (hw := hw') rfl hr) hK
  · exact h.elim

/-- THE STEP: what a state's step says holds of the operation's. -/
theorem wpOp_ok (hE : EnvOk P E) (hT : TOk P T) {h : Hint} (hR : R h.n w0 hw0 G st a w) {o : Oper} {K : St → Prop} {X : Exit → Act → World → Prop} (hw : wpOp E T h o K st) : o.wp P a w (Post h.n w0 hw0 K) X := by
  unfold wpOp at hw
  split at hw
  · rename_i t ho
    split at hw
    · rename_i ti ht
      split at hw
      · rename_i h0; exact alloc_ok hT hR ho ht h0 hw
      · exact hw.elim
    · exact hw.elim
  · rename_i t x ho
    split at hw
    · rename_i cs hc
      split at hw
      · rename_i h0; exact box_ok hT hR ho hc h0 hw
      · exact hw.elim
    · exact hw.elim
  · rename_i t l c ho
    split at hw
    · rename_i ti k m k' m' ht hl hc
      split at hw
      · rename_i e hk
        split at hw
        · rename_i te he
          split at hw
          · rename_i hcnd
            obtain ⟨rfl, h0⟩ := hcnd
            obtain ⟨⟨h1, h2, h3⟩, h4⟩ := hw
            exact makeSlice_ok hT hR ho ht hk he hl hc h0 h1 h2 h3 h4
          · exact hw.elim
        · exact hw.elim
      · exact hw.elim
    · exact hw.elim
  · rename_i t len parts ho
    split at hw
    · rename_i ti ht
      split at hw
      · rename_i e hk
        split at hw
        · rename_i te he
          split at hw
          · rename_i hcnd
            split at hw
            · rename_i cs hcs
              exact buildSlice_ok hT hR ho ht hk he hcnd.1 hcnd.2.1 hcnd.2.2 hcs hw
            · exact hw.elim
          · exact hw.elim
        · exact hw.elim
      · exact hw.elim
    · exact hw.elim
  · rename_i t x v ho
    split at hw
    · rename_i ti nm i o0 cs ht hx hv
      split at hw
      · rename_i blk hb
        split at hw
        · rename_i row hi
          split at hw
          · rename_i hcnd
            obtain ⟨s1, s2⟩ := store_ok (K := K) (Q := X) hT hR ho hcnd.1 ht hx hv hb hi hcnd.2.1 hcnd.2.2
            split at hw
            · rename_i s e hk
              split at hw
              · rename_i c hc; exact s2 s c rfl hc hw
              · exact hw.elim
            · exact s1 hw
          · exact hw.elim
        · exact hw.elim
      · exact hw.elim
    · exact hw.elim
  · rename_i s ho
    split at hw
    · rename_i d hd
      split at hw
      · split at hw
        · rename_i c hc
          split at hw
          · rename_i hn; exact moveTake_ok hR (.inl ho) hd hn hc hw
          · exact hw.elim
        · exact hw.elim
      · exact quietK_ok hT hR hw
    · rename_i hd
      have hq : quiet T st o = some (rd T st o.type (.tmp s)) := by simp [quiet, ho]
      exact quietK_ok hT hR (by rw [hq, hd]; exact hw)
  · rename_i s ho
    split at hw
    · rename_i d hd
      split at hw
      · split at hw
        · rename_i c hc
          split at hw
          · rename_i hn; exact moveTake_ok hR (.inr ho) hd hn hc hw
          · exact hw.elim
        · exact hw.elim
      · exact quietK_ok hT hR hw
    · rename_i hd
      have hq : quiet T st o = some (rd T st o.type (.tmp s)) := by simp [quiet, ho]
      exact quietK_ok hT hR (by rw [hq, hd]; exact hw)
  · rename_i t x ho
    split at hw
    · rename_i d hd
      split at hw
      · split at hw
        · rename_i ti nm i o0 ht hx
          split at hw
          · rename_i blk hb
            split at hw
            · rename_i row hi
              split at hw
              · rename_i c hc
                split at hw
                · rename_i hcnd; exact loadTake_ok hT hR ho hd hcnd.1 ht hcnd.2 hx hb hi hc hw
                · exact hw.elim
              · exact hw.elim
            · exact hw.elim
          · exact hw.elim
        · exact hw.elim
      · exact quietK_ok hT hR hw
    · exact hw.elim
  · rename_i c ho
    split at hw
    · rename_i f hf
      obtain ⟨cal, args, ats⟩ := c
      simp only at hf
      subst hf
      exact call_ok hE hT hR ho hw
    · rename_i hf
      split at hw
      · rename_i x y t t2 ha hat
        obtain ⟨cal, args, ats⟩ := c
        simp only at hf ha hat
        subst hf
        obtain rfl : args = #[x, y] := by rw [← Array.toArray_toList (xs := args), ha]
        obtain rfl : ats = #[t, t2] := by rw [← Array.toArray_toList (xs := ats), hat]
        exact append_ok hT hR ho hw
      · exact hw.elim
    · exact quietK_ok hT hR hw
  · exact quietK_ok hT hR hw
end
end Go.Proofs.Yteoddaeipckgcaa.Ev
