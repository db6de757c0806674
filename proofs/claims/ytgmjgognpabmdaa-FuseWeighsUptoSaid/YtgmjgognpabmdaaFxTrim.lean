/- A list cut short: what stands behind it is given up, and the rest gets a name of its own. -/
import Derived.Test.YtgmjgognpabmdaaFxRen
namespace Go.Proofs.Ytgmjgognpabmdaa.Fx
open Go Go.RowKit
set_option linter.unusedSimpArgs false
set_option linter.unusedVariables false
variable {cx : Cx} {G : Gh} {st : St} {a : Act} {n : Nat} {w : World}
def St.trim (st : St) (k i j nm d : Nat) (sz : Nat) (rows : List (List CV)) (sz' L : Nat) (rows' : List (List CV)) : St :=
  { slots := fun t => (st.slots t).kill d, heap := fun t => if t = k then some (.cells sz (rows.modify i (·.set j (.mr d 0 L)))) else if t = d then some (.cells sz' (rows'.take L)) else if t = nm then none else st.heap t }
theorem R.trim (hR : R cx G st a w) {k i j nm d sz sz' L : Nat} {rows rows' : List (List CV)} {row : List CV} (hd : d < cx.n) (hne : k ≠ nm) (hkd : k ≠ d) (hk : st.heap k = some (.cells sz rows)) (hn : st.heap nm = some (.cells sz' rows')) (hi : rows[i]? = some row) (hj : row[j]? = some (.mr nm 0 L)) (hLe : L ≤ rows'.length)
    (hf : Fresh2 st (some nm) d) (hf2 : (Blk.cells sz' (rows'.take L)).has d = false) : ∃ G', R cx G' (st.trim k i j nm d sz rows sz' L rows') a w := by
  have hnn := hR.heap nm _ hn
  have hkk := hR.heap k _ hk
  have hrne : rows ≠ [] := by rintro rfl; simp at hi
  have hkfr : (Blk.cells sz rows).has d = false := hf k _ hkd (by simpa using Ne.symm hne) hk
  have hlen : (rows'.take L).length = L := by rw [List.length_take]; omega
  have hget : ∀ i r, (rows'.take L)[i]? = some r → rows'[i]? = some r := fun i r h => by
    have hi := (List.getElem?_eq_some_iff.1 h).1
    rw [hlen] at hi
    rwa [List.getElem?_take_of_lt hi] at h
  obtain ⟨G', hR', hph, hhw, hoth⟩ := hR.give (w' := w) (nm := some nm) (d := d) (blk := .cells sz' (rows'.take L)) hd ((G.ph nm).map fun p => { p with len := L }) (G.reg nm) (fun k h => by obtain rfl := Option.some.inj h; exact ⟨_, hn⟩) (Kept.refl _ _) hf hf2 (fun b hb => ⟨.inl ⟨nm, rfl, hb⟩, (hR.reg nm _ b hn hb).2.2⟩) (fun G' e1 e2 e3 e4 => by
    simp only [BlkR] at hnn
    cases hp : G.ph nm with
    | none =>
      rw [hp] at hnn e2
      simp only [Option.map_none] at e2
      simp only [BlkR, e2]
      subst hnn; simp
    | some p =>
      rw [hp] at hnn e2
      simp only [Option.map_some] at e2
      simp only [BlkR, e2]
      obtain ⟨d1, d2, d3, d4, d5, ks, el', d6, d7, d8, g', f1, f2, f3⟩ := hnn
      refine ⟨d1, hlen.symm, d3, fun r hr => d4 r (List.mem_of_mem_take hr), (e3 _).2 d5, ks, el', d6, d7, by rw [hlen]; exact Nat.le_trans (Nat.add_le_add_left (Nat.mul_le_mul_right _ hLe) _) d8, g', fun i j b hb => ⟨(e3 _).2 (f1 i j b hb).1, (f1 i j b hb).2⟩, f2, fun i r j c hi hj => ?_⟩
      obtain ⟨x, q1, q2⟩ := f3 i r j c (hget i r hi) hj
      refine ⟨x, q1, CVR.move (M' := G'.toMk) q2 (fun v y h => by rw [e1]; exact h) (fun _ _ => rfl) fun t ht => e4 t fun e => ?_⟩
      subst e
      rw [has_mem hf2 hi hj] at ht; cases ht)
  have hhp : ∀ t, t ≠ k → (st.trim k i j nm d sz rows sz' L rows').heap t = (st.give (some nm) d (.cells sz' (rows'.take L))).heap t := fun t ht => by
    simp only [St.trim, St.give, if_neg ht]
    by_cases h1 : t = d
    · simp [h1]
    · by_cases h2 : t = nm
      · simp [h1, h2]
      · simp [h1, h2, Ne.symm h2]
  have hk1 : (st.give (some nm) d (.cells sz' (rows'.take L))).heap k = some (.cells sz rows) := by
    simp only [St.give, if_neg hkd]
    rw [if_neg (by simpa using Ne.symm hne)]; exact hk
  have hkey : ∀ t blk, (st.trim k i j nm d sz rows sz' L rows').heap t = some blk → ∃ b0, (st.give (some nm) d (.cells sz' (rows'.take L))).heap t = some b0 := fun t blk h => by
    by_cases ht : t = k
    · subst ht; exact ⟨_, hk1⟩
    · rw [hhp t ht] at h; exact ⟨_, h⟩
  refine ⟨G', { hR' with slots := hR'.slots, heap := fun t blk h => ?_, reg := fun t blk b h => ?_, disj := fun t t' blk blk' b h h' => ?_ }⟩
  · by_cases ht : t = k
    · subst ht
      simp only [St.trim, if_true, Option.some.injEq] at h
      subst h
      have h9 := hR'.heap _ _ hk1
      simp only [BlkR] at h9 ⊢
      cases hp : G'.ph t with
      | none => rw [hp] at h9; exact absurd h9 hrne
      | some p =>
        rw [hp] at h9
        obtain ⟨b1, b2, b3, b4, b5, cs, el, b6, b7, b8, g, g1, g2, g3⟩ := h9
        refine ⟨b1, by simpa using b2, b3, modify_rows b4, b5, cs, el, b6, b7, by simpa using b8, g, g1, g2, fun i' r j' c hi' hj' => ?_⟩
        rcases modify_get hi hi' hj' with ⟨rfl, rfl, rfl⟩ | ⟨hno, r0, q1, q2, _⟩
        · obtain ⟨x, hx, hcx⟩ := g3 _ row _ _ hi hj
          refine ⟨x, hx, ?_⟩
          generalize hgg : g i' j' = Sg at hcx
          cases hcx with
          | mr0 => exact .mr0 _ _ _
          | mr _ _ _ cap q hq h1 h2 h3 h4 =>
            have hnd : nm ≠ d := by
              intro e
              have h9 := has_mem hkfr hi hj
              rw [← e] at h9
              simp [CV.has] at h9
            rw [hoth nm hnd] at hq
            rw [hq] at hph
            exact .mr d 0 L cap { q with len := L } hph (by simp) h2 (by simpa using h2) h4
        · exact g3 i' r0 j' c q1 q2
    · rw [hhp t ht] at h; exact hR'.heap t blk h
  · obtain ⟨b0, h0⟩ := hkey t blk h
    exact hR'.reg t b0 b h0
  · obtain ⟨b0, h0⟩ := hkey t blk h
    obtain ⟨b1, h1⟩ := hkey t' blk' h'
    exact hR'.disj t t' b0 b1 b h0 h1
theorem mk_trim (l : List (Nat × SV)) (h : List (Nat × Blk)) (k i j nm d : Nat) (sz : Nat) (rows : List (List CV)) (sz' L : Nat) (rows' : List (List CV)) :
    (mk l h).trim k i j nm d sz rows sz' L rows' = mk (mapV (SV.kill d) l) (ins k (.cells sz (rows.modify i (·.set j (.mr d 0 L)))) (ins d (.cells sz' (rows'.take L)) (del nm h))) := by
  simp only [mk, St.trim, St.mk.injEq]
  refine ⟨?_, ?_⟩
  · funext t; rw [ofL_map _ (kill_undef d)]
  · funext t; rw [hL_ins, hL_ins, hL_del]
theorem gho_trim {k i j nm d sz sz' L : Nat} {rows rows' : List (List CV)} {row : List CV} (hd : d < n) (hne : k ≠ nm) (hkd : k ≠ d) (hk : st.heap k = some (.cells sz rows)) (hn : st.heap nm = some (.cells sz' rows')) (hi : rows[i]? = some row) (hj : row[j]? = some (.mr nm 0 L)) (hLe : L ≤ rows'.length)
    (hf : Fresh2 st (some nm) d) (hf2 : (Blk.cells sz' (rows'.take L)).has d = false) : Gho n st (st.trim k i j nm d sz rows sz' L rows') := fun cx G a w hcn hR => hR.trim (by rw [hcn]; exact hd) hne hkd hk hn hi hj hLe hf hf2
theorem s_trim {E : Env} {T : TypeId → Option TI} {K : St → Prop} {ds : List (Option Nat)} {o : Oper} {l : List Oper} {ls : List (Nat × SV)} {hs : List (Nat × Blk)} (k i j nm d L : Nat) {sz sz' : Nat} {rows rows' : List (List CV)} {row : List CV}
    (hk : hL hs k = some (.cells sz rows)) (hi : rows[i]? = some row) (hj : row[j]? = some (.mr nm 0 L)) (hn : hL hs nm = some (.cells sz' rows')) (hne : k ≠ nm) (hkd : k ≠ d) (hd : d < n) (hLe : L ≤ rows'.length) (hf : freshL (some nm) d hs = true) (hf2 : (Blk.cells sz' (rows'.take L)).has d = false)
    (hx : wpS E T n ds (o :: l) K (mk (mapV (SV.kill d) ls) (ins k (.cells sz (rows.modify i (·.set j (.mr d 0 L)))) (ins d (.cells sz' (rows'.take L)) (del nm hs))))) : wpS E T n ds (o :: l) K (mk ls hs) := by
  refine s_ghost _ (gho_trim (k := k) (i := i) (j := j) (nm := nm) (d := d) hd hne hkd (by rw [mk_heap, hk]) (by rw [mk_heap, hn]) hi hj hLe (fresh2_mk ls hs (some nm) d hf) hf2) ?_
  rw [mk_trim]; exact hx
theorem s_unfold {E : Env} {T : TypeId → Option TI} {K : St → Prop} {ds : List (Option Nat)} {o : Oper} {l : List Oper} {ls : List (Nat × SV)} {hs : List (Nat × Blk)} (k i j nm : Nat) {sz sz' : Nat} {rows rows' : List (List CV)} {row : List CV}
    (hk : hL hs k = some (.cells sz rows)) (hi : rows[i]? = some row) (hj : row[j]? = some (.own sz' rows')) (hd : nm < n) (hne : k ≠ nm) (hf : freshL none nm hs = true) (hf2 : (Blk.cells sz' rows').has nm = false)
    (hx : wpS E T n ds (o :: l) K (mk (mapV (SV.kill nm) ls) (ins nm (.cells sz' rows') (ins k (.cells sz (rows.modify i (·.set j (.mr nm 0 rows'.length)))) hs)))) : wpS E T n ds (o :: l) K (mk ls hs) := by
  refine s_ghost _ (gho_unfold (k := k) (i := i) (j := j) (nm := nm) hd hne (by rw [mk_heap, hk]) hi hj (fresh_mk ls hs nm hf) hf2) ?_
  rw [mk_unfold]; exact hx
end Go.Proofs.Ytgmjgognpabmdaa.Fx
