import Derived.Test.YteoddaeipckgcaaEv7
import Derived.Deep.Upon
namespace Go.Proofs.Yteoddaeipckgcaa.Ev
open Go Go.RowKit
set_option linter.unusedSimpArgs false
set_option linter.unusedVariables false
variable {P : Program} {T : TypeId → Option TI}
section
variable {n : Nat} {w0 : World} {hw0 : Nat → Nat} {G : Gh} {st : St} {a : Act} {w : World}

/-- A new block, whose first cells are a list's: the list stands there, with its room. -/
theorem R.fresh (hR : R n w0 hw0 G st a w) {w1 : World} (hd : w1 = w ∨ w1 = w.drew) {sz : Nat} (h0 : 0 < sz) {rows : List (List TV)} (hne : rows ≠ []) (hl : ∀ r ∈ rows, r.length = sz) {cs : Array Value} {el : TypeId} {cap : Nat} (hc : rows.length ≤ cap)
    (hsz : cap * sz ≤ cs.size) (hcell : ∀ i r j v, rows[i]? = some r → r[j]? = some v → ∃ u, cs[i * sz + j]? = some u ∧ TVR G.hw w v u) (loc : Loc) :
    R n w0 hw0 (G.mark w.heap.size (rows.length * sz) (some loc)) st a (w1.alloc (.cells cs el (0, 0))) ∧
      OwnR (G.mark w.heap.size (rows.length * sz) (some loc)) (w1.alloc (.cells cs el (0, 0))) w0.heap.size loc sz rows (.slice (some ⟨w.heap.size, 0, none⟩) rows.length cap) := by
  have hs1 : w1.heap.size = w.heap.size := by rcases hd with rfl | rfl <;> rfl
  have hb1 : Below w.heap.size w w1 := by rcases hd with rfl | rfl; exact Below.refl _ _; exact (Below.refl _ _).drew
  have hbel : Below w.heap.size w (w1.alloc (.cells cs el (0, 0))) := hb1.alloc (by omega) _
  have hpos : 0 < rows.length := List.length_pos_iff.2 hne
  have hg : Grew G (G.mark w.heap.size (rows.length * sz) (some loc)) st w (w1.alloc (.cells cs el (0, 0))) := by
    refine ⟨hbel, fun k hk => by simp [Gh.mark]; omega, fun k hk => ?_, fun _ _ _ => rfl, fun k hk => by simp [Gh.mark]; omega⟩
    simp only [World.size_alloc] at hk
    simp only [Gh.mark]
    rw [if_neg (by omega)]
    exact hR.hwNew k (by omega)
  have hR' := hR.grow hg
  have hh : (w1.alloc (.cells cs el (0, 0))).heap[w.heap.size]? = some (.cells cs el (0, 0)) := by
    show (w1.heap.push _)[w.heap.size]? = _
    rw [← hs1]; simp
  refine ⟨hR', .inr ⟨w.heap.size, 0, cap, cs, el, hne, rfl, ?_, by simp [Gh.mark], by simp [Gh.mark], hR.below.size, hh, by omega⟩⟩
  refine .sl sz rows _ 0 cap (fun i j => (cs[i * sz + j]?).getD undef) h0 hl hc (by simp [Gh.mark]) ?_ ?_
  · intro i j hi hj
    have hr : rows[i]? = some rows[i] := List.getElem?_eq_getElem hi
    have hrl := hl _ (List.getElem_mem hi)
    obtain ⟨u, hu, _⟩ := hcell i _ j _ hr (List.getElem?_eq_getElem (by rw [hrl]; exact hj))
    rw [hu]
    simp only [World.cell?, hh, Nat.zero_add, hu]
    simp
  · intro i r j v hi hj
    obtain ⟨u, hu, hv⟩ := hcell i r j v hi hj
    rw [hu]
    exact hv.mono (fun k => by
      simp only [Gh.mark]
      split
      · rename_i hk; rw [hk, hR.hwNew _ (Nat.le_refl _)]; exact Nat.zero_le _
      · exact Nat.le_refl _) fun b j' u' _ hu' => by rw [World.cell?_of_block (w := w) (hbel.block b (cell_lt hu')), hu']

theorem zeroCells_size (z : Array Value) (m : Nat) : (Builtin.zeroCells z m).size = m * z.size := by simp [Builtin.zeroCells]

theorem TVR.len {hw : Nat → Nat} {w : World} {sz : Nat} {rows : List (List TV)} {x : Value} (h : TVR hw w (.sl sz rows) x) : (∀ r ∈ rows, r.length = sz) ∧ (rows ≠ [] → 0 < sz) := by
  cases h with
  | nil => exact ⟨by simp, fun h => absurd rfl h⟩
  | sl _ _ b o cap f h0 hl => exact ⟨hl, fun _ => h0⟩

theorem append_own (hT : TOk P T) (hR : R n w0 hw0 G st a w) {t e t2 e2 ty : TypeId} {ti te : TI} (ht : T t = some ti) (hk : ti.k = .slice e) (he : T e = some te) (hu2 : P.underlying t2 = some (.slice e2))
    {sz sz2 : Nat} {rows ys : List (List TV)} {x y : Value} {s : Nat} (hx : OwnR G w w0.heap.size (.slot s) sz rows x) (hs : rows ≠ [] → ∀ sz' rows', st.slots s ≠ .c (.own sz' rows')) (hy : TVR G.hw w (.sl sz2 ys) y)
    (h1 : rows ≠ [] → sz = te.size) (h2 : sz2 = te.size) (hb : (rows.length + ys.length) * te.bytes ≤ 140737488355328) (hm : rows.length + ys.length ≤ 9223372036854775807) (d : Nat) :
    ∃ r w' G', (Builtin.append_ #[t, t2] ty #[x, y]).run P w = .ok r w' ∧ R n w0 hw0 G' st a w' ∧ OwnR G' w' w0.heap.size (.slot d) te.size (rows ++ ys) r := by
  subst h2
  obtain ⟨info, z, hi, hsz, hby, hz, hzr, _⟩ := (hT _ _ he).info
  have hzs : z.cells.size = te.size := by
    have h9 := All2.toList hzr
    rw [(hT _ _ he).zlen] at h9; exact h9.symm
  have hu := kind_slice hT ht hk
  obtain ⟨news, hsrc, hnews⟩ := src_of (info := info) hu2 hy hsz
  have hyl := hy.len
  have hxl := hx.tree.len
  have hnl := hsrc.newsLen
  by_cases hne : ys = []
  · -- nothing to append
    subst hne
    rw [List.append_nil]
    have hn0 : news = [] := List.eq_nil_of_length_eq_zero (by rw [hnl]; simp)
    subst hn0
    have hstay : ∀ a0 cap, x = .slice a0 rows.length cap → rows.length ≤ cap → (Builtin.append_ #[t, t2] ty #[x, y]).run P w = .ok x w := by
      intro a0 cap hxe hle
      rw [hxe]
      exact run_append_nothing w t t2 ty e info hu hi a0 rows.length cap hle y hsrc
    rcases hx with ⟨rfl, rfl⟩ | ⟨b, o, cap, cs, el, hrne, rfl, hTx, hhw, how, hbase, hh, hfit⟩
    · exact ⟨_, w, G, hstay none 0 rfl (Nat.le_refl _), hR, .inl ⟨rfl, rfl⟩⟩
    · have hle : rows.length ≤ cap := by
        generalize hq : (Value.slice (some ⟨b, o, none⟩) rows.length cap) = X at hTx
        cases hTx with
        | nil => exact absurd rfl hrne
        | sl _ _ _ _ _ f h0 hl hc => injection hq with _ _ h3; rw [h3]; exact hc
      have hp : 0 < G.hw b := by
        have := Nat.mul_pos (List.length_pos_iff.2 hrne) (hxl.2 hrne)
        omega
      have hR2 := hR.reown (v := G.hw b) (l := some (.slot d)) (Nat.le_refl _) hp hbase (block_lt hh) (fun t' sz' rows' hst e => by
        rw [how] at e
        injection e with e; injection e with e; subst e
        exact hs hrne _ _ hst) (fun nm blk i r j sz rows _ _ _ e => by rw [how] at e; injection e with e; cases e)
      have heq : (G.mark b (G.hw b) (some (.slot d))).hw = G.hw := by
        funext k; simp only [Gh.mark]; split <;> simp_all
      refine ⟨_, w, _, hstay _ _ rfl hle, hR2, .inr ⟨b, o, cap, cs, el, hrne, rfl, ?_, ?_, by simp [Gh.mark], hbase, hh, ?_⟩⟩
      · rw [heq, ← h1 hrne]; exact hTx
      · rw [heq, hhw, h1 hrne]
      · rw [← h1 hrne]; exact hfit
  · have hyn := List.length_pos_iff.2 hne
    have h0 := hyl.2 hne
    have hall : rows ++ ys ≠ [] := by simp [hne]
    have hlen : ∀ r ∈ rows ++ ys, r.length = te.size := by
      intro r hr
      rcases List.mem_append.1 hr with hr | hr
      · rw [hxl.1 r hr]
        exact h1 (List.ne_nil_of_mem hr)
      · exact hyl.1 r hr
    -- a new block
    have grow : ∀ (a0 : Option Addr) (cap : Nat) (olds : List Value), x = .slice a0 rows.length cap → cap < rows.length + ys.length → (Builtin.firstCells info.size rows.length (.slice a0 rows.length cap)).run P w.drew = .ok olds.toArray w.drew → olds.length = rows.length * te.size →
        (∀ i r j v, rows[i]? = some r → r[j]? = some v → ∃ u, olds[i * te.size + j]? = some u ∧ TVR G.hw w v u) →
        ∃ r w' G', (Builtin.append_ #[t, t2] ty #[x, y]).run P w = .ok r w' ∧ R n w0 hw0 G' st a w' ∧ OwnR G' w' w0.heap.size (.slot d) te.size (rows ++ ys) r := by
      intro a0 cap olds hxe hlt hold hol hcell
      have hrun := run_append_grow_src w t t2 ty e info z hu hi hz a0 rows.length cap olds hold y ys.length news hsrc hlt (by omega) (growslice_fits (by omega) (by rw [hby]; exact hb))
      rw [← hxe] at hrun
      have hge := grownCap_ge w (rows.length + ys.length) cap e
      have hfr := R.fresh hR (w1 := w.drew) (.inr rfl) h0 hall hlen (cs := (olds ++ news).toArray ++ Builtin.zeroCells z.cells (grownCap w (rows.length + ys.length) cap e - (rows.length + ys.length))) (el := e) (cap := grownCap w (rows.length + ys.length) cap e)
        (by rw [List.length_append]; exact hge) (by
          rw [Array.size_append, List.size_toArray, List.length_append, hol, hnl, zeroCells_size, hzs, hsz, ← Nat.add_mul, ← Nat.add_mul]
          exact Nat.mul_le_mul_right _ (by omega)) (by
          intro i r j v hi' hj
          have hj2 := (List.getElem?_eq_some_iff.1 hj).1
          rw [hlen r (List.mem_of_getElem? hi')] at hj2
          by_cases hil : i < rows.length
          · rw [List.getElem?_append_left hil] at hi'
            obtain ⟨u, hu', hv⟩ := hcell i r j v hi' hj
            refine ⟨u, ?_, hv⟩
            have hlt2 := row_lt hil hj2
            rw [Array.getElem?_append_left (by simp; omega)]
            simp only [List.getElem?_toArray]
            rw [List.getElem?_append_left (by omega), hu']
          · rw [List.getElem?_append_right (by omega)] at hi'
            obtain ⟨u, hu', hv⟩ := hnews _ r j v hi' hj
            refine ⟨u, ?_, hv⟩
            have hil2 := (List.getElem?_eq_some_iff.1 hi').1
            have hlt2 := row_lt hil2 hj2
            have e1 : i * te.size + j = olds.length + ((i - rows.length) * te.size + j) := by
              rw [hol, ← Nat.add_assoc, ← Nat.add_mul]; congr 2; omega
            rw [e1, Array.getElem?_append_left (by simp; rw [hnl, hsz]; omega)]
            simp only [List.getElem?_toArray]
            rw [List.getElem?_append_right (by omega), Nat.add_sub_cancel_left, hu']) (.slot d)
      rw [List.length_append] at hfr
      exact ⟨_, _, _, hrun, hfr.1, hfr.2⟩
    rcases hx with ⟨rfl, rfl⟩ | ⟨b, o, cap, cs, el, hrne, rfl, hTx, hhw, how, hbase, hh, hfit⟩
    · exact grow none 0 [] rfl (by simpa using hyn) (by simp [Builtin.firstCells]) (by simp) (fun i r j v hi' _ => by simp at hi')
    · obtain rfl := h1 hrne
      by_cases hroom : rows.length + ys.length ≤ cap
      · -- in place
        have hmul : rows.length * te.size + ys.length * te.size ≤ cap * te.size := by rw [← Nat.add_mul]; exact Nat.mul_le_mul_right _ hroom
        have hrun := run_append_room_src w t t2 ty e info hu hi b o rows.length cap y ys.length news hsrc hroom (by
          intro j hj
          rw [hnl, hsz] at hj
          simp only [World.cell?, hh, hsz]
          simp
          omega) (by
          intro j hj
          simp [World.frozen?, hh])
        have hpos : 0 < G.hw b := by
          have := Nat.mul_pos (List.length_pos_iff.2 hrne) h0
          omega
        have hwr := Wrote.cells b news (o + rows.length * info.size) w
        rw [hsz] at hwr hrun
        have hR1 := hR.tail hwr (by omega) hpos hbase
        obtain ⟨cs', hh', hsz', _⟩ := hwr.block cs el _ hh
        have hR2 := hR1.reown (v := o + (rows ++ ys).length * te.size) (l := some (.slot d)) (by rw [List.length_append, Nat.add_mul]; omega) hpos hbase (block_lt hh') (fun t' sz' rows' hst e => by
          rw [how] at e
          injection e with e; injection e with e; subst e
          exact hs hrne _ _ hst) (fun nm blk i r j sz rows _ _ _ e => by rw [how] at e; injection e with e; cases e)
        refine ⟨_, _, _, hrun, hR2, .inr ⟨b, o, cap, cs', el, hall, by rw [List.length_append], ?_, by simp [Gh.mark], by simp [Gh.mark], hbase, hh', by rw [hsz']; exact hfit⟩⟩
        have hout : ∀ k j u, j < G.hw k → w.cell? ⟨k, j, none⟩ = some u → (w.setCells b (o + rows.length * te.size) news).cell? ⟨k, j, none⟩ = some u := by
          intro k j u hj hu'
          exact hwr.cellKept (fun e => by subst e; omega) hu'
        have hle2 : ∀ k, G.hw k ≤ (G.mark b (o + (rows ++ ys).length * te.size) (some (.slot d))).hw k := by
          intro k
          simp only [Gh.mark]
          split
          · rename_i hk; rw [hk, List.length_append, Nat.add_mul]; omega
          · exact Nat.le_refl _
        have hmv : ∀ v u, TVR G.hw w v u → TVR (G.mark b (o + (rows ++ ys).length * te.size) (some (.slot d))).hw (w.setCells b (o + rows.length * te.size) news) v u := fun v u h => h.mono hle2 hout
        have hin := World.cell?_setCells_in b news (o + rows.length * te.size) w (by
          intro j hj
          rw [hnl, hsz] at hj
          simp only [World.cell?, hh]
          simp
          omega)
        generalize hq : (Value.slice (some ⟨b, o, none⟩) rows.length cap) = X at hTx
        cases hTx with
        | nil => exact absurd rfl hrne
        | sl _ _ b' o' cap' f g0 gl gc ge g1 g2 =>
          injection hq with q1 _ q3
          injection q1 with q1
          injection q1 with q1 q2 _
          subst q1 q2 q3
          rw [← List.length_append]
          refine .sl te.size (rows ++ ys) b o cap (fun i j => if i < rows.length then f i j else (news[(i - rows.length) * te.size + j]?).getD undef) h0 hlen (by rw [List.length_append]; exact hroom) (by simp [Gh.mark]) ?_ ?_
          · intro i j hi' hj
            by_cases hil : i < rows.length
            · rw [if_pos hil]
              have := row_lt hil hj
              exact hout _ _ _ (by omega) (g1 i j hil hj)
            · rw [if_neg hil]
              have hil2 : i - rows.length < ys.length := by rw [List.length_append] at hi'; omega
              have hlt2 := row_lt hil2 hj
              have hjl : (i - rows.length) * te.size + j < news.length := by rw [hnl, hsz]; exact hlt2
              have := hin _ hjl
              rw [List.getElem?_eq_getElem hjl, Option.getD_some]
              have e1 : o + (i * te.size + j) = o + rows.length * te.size + ((i - rows.length) * te.size + j) := by
                have : i * te.size = rows.length * te.size + (i - rows.length) * te.size := by rw [← Nat.add_mul]; congr 1; omega
                omega
              rw [e1]; exact this
          · intro i r j v hi' hj
            by_cases hil : i < rows.length
            · rw [if_pos hil]
              rw [List.getElem?_append_left hil] at hi'
              exact hmv _ _ (g2 i r j v hi' hj)
            · rw [if_neg hil]
              rw [List.getElem?_append_right (by omega)] at hi'
              obtain ⟨u, hu', hv⟩ := hnews _ r j v hi' hj
              rw [hu']
              exact hmv _ _ hv
      · -- no room
        obtain ⟨olds, hso, holds⟩ := src_of (info := info) hu hTx hsz
        exact grow _ cap olds rfl (by omega) hso.cellsD (by rw [hso.newsLen, hsz]) holds
end
end Go.Proofs.Yteoddaeipckgcaa.Ev
