/- A list that a function answers with a name of its own, taken as a tree. -/
import Derived.Test.YtgmjgognpabmdaaFxU
namespace Go.Proofs.Ytgmjgognpabmdaa.Fx
open Go Go.RowKit
set_option maxRecDepth 100000
set_option linter.unusedSimpArgs false
set_option linter.unusedVariables false
theorem tree_of {w : World} {G : Gh} {nm sz : Nat} {rows : List (List CV)} {trows : List (List TV)} {v : Value} (hv : AVR G.toMk w (.v (.mr nm 0 rows.length)) v) (hN : Names G w [(nm, .cells sz rows)]) (h0 : ∀ b, w.heap.size ≤ b → G.hw b = 0) (ht : viewRows rows = some trows) {x : TV} {y : Value} (hy : TVR G.hw w x y) :
    ∃ G' : Gh, TVR G'.hw w (.sl sz trows) v ∧ TVR G'.hw w x y ∧ (∀ b, ¬ G.reg nm b → G'.hw b = G.hw b) ∧ (∀ b, w.heap.size ≤ b → G'.hw b = 0) := by
  have hg : hGet [(nm, Blk.cells sz rows)] nm = some (.cells sz rows) := by simp [hGet]
  have hR : R { n := 2, w0 := w, hw0 := G.hw, mine := fun k => G.reg nm k, ph0 := G.ph } G (mk [(0, .c (.mr nm 0 rows.length)), (1, .c (.t x))] [(nm, .cells sz rows)]) { tmps := #[v, y], defers := [] } w := by
    refine ⟨Kept.refl _ _, fun _ _ _ => rfl, h0, rfl, rfl, fun t => ?_, fun k blk hk => ?_, fun k blk j hk hr => ?_, fun k k' blk blk' j hk hk' hr hr' => ?_, fun _ _ => rfl⟩
    · match t with
      | 0 => exact hv
      | 1 => exact .t hy
      | n + 2 => simp [mk_slots, ofL]; trivial
    · simp only [mk_heap, hL] at hk
      split at hk
      · rename_i e; subst e; obtain rfl := Option.some.inj hk; exact hN.blk _ _ hg
      · cases hk
    · simp only [mk_heap, hL] at hk
      split at hk
      · rename_i e; subst e
        have := hN.reg _ _ j hg hr
        exact ⟨this.1, .inr hr, this.2⟩
      · cases hk
    · simp only [mk_heap, hL] at hk hk'
      split at hk
      · rename_i e; subst e
        split at hk'
        · rename_i e; exact e.symm
        · cases hk'
      · cases hk
  obtain ⟨G', hR'⟩ := hR.freeze (nm := nm) (sz := sz) (rows := rows) (trows := trows) (by simp [mk_heap, hL]) ht
  refine ⟨G', ?_, ?_, fun b hb => ?_, hR'.hwNew⟩
  · have := hR'.slots 0
    have hl := (viewRows_get ht).1
    have e : (mk [(0, SV.c (.mr nm 0 rows.length)), (1, SV.c (.t x))] [(nm, Blk.cells sz rows)]).slots 0 = .c (.mr nm 0 rows.length) := rfl
    simp only [St.freeze, e, SV.frz, CV.frz, Nat.zero_add, hl, if_pos, Nat.le_refl, List.drop_zero] at this
    rw [← hl, List.take_length] at this
    cases this with
    | t h => exact h
  · have := hR'.slots 1
    have e : (mk [(0, SV.c (.mr nm 0 rows.length)), (1, SV.c (.t x))] [(nm, Blk.cells sz rows)]).slots 1 = .c (.t x) := rfl
    simp only [St.freeze, e, SV.frz, CV.frz] at this
    cases this with
    | t h => exact h
  · by_cases h : b < w.heap.size
    · exact hR'.hwOld b h hb
    · rw [hR'.hwNew b (by omega), h0 b (by omega)]
theorem Spec.tree {P : Program} {f : FuncId} {args : List AV} {nm sz : Nat} {rows : List (List CV)} {trows : List (List TV)} (hs : Spec P f args [] [.v (.mr nm 0 rows.length)] [(nm, .cells sz rows)]) (ht : viewRows rows = some trows) : Spec P f args [] [.v (.t (.sl sz trows))] [] := fun w G vals ha hn hz =>
  (hs w G vals ha hn hz).mono fun e w' ⟨v, G1, he, hr, hN, hm, _, hk, ho, hz'⟩ => by
    obtain ⟨G2, h1, _, h3, h4⟩ := tree_of hr hN hz' ht (x := .bool true) (y := .bool true) (.bool true)
    refine ⟨v, G2, he, .t h1, ⟨fun _ _ h => by simp [hGet] at h, fun _ _ _ h => by simp [hGet] at h, fun _ _ _ _ _ h => by simp [hGet] at h⟩, fun _ _ _ h => by simp [hGet] at h, fun _ _ _ h => by simp [hGet] at h, hk, fun b hb hm' => ?_, h4⟩
    rw [h3 b (fun h => by
      rcases hm nm (.cells sz rows) b (by simp [hGet]) h with h | h
      · exact hm' h
      · omega)]
    exact ho b hb hm'
theorem Spec.tree2 {P : Program} {f : FuncId} {args : List AV} {nm sz : Nat} {rows : List (List CV)} {trows : List (List TV)} {x : TV} (hs : Spec P f args [] [.v (.mr nm 0 rows.length), .v (.t x)] [(nm, .cells sz rows)]) (ht : viewRows rows = some trows) : Spec P f args [] [.v (.t (.sl sz trows)), .v (.t x)] [] := fun w G vals ha hn hz =>
  (hs w G vals ha hn hz).mono fun e w' ⟨v, G1, he, hr, hN, hm, _, hk, ho, hz'⟩ => by
    obtain ⟨us, hu, hr1⟩ := hr
    match us, hr1 with
    | [u1, u2], hr1 =>
      obtain ⟨q1, q2, _⟩ := hr1
      cases q2 with
      | t q2 =>
      obtain ⟨G2, h1, h2, h3, h4⟩ := tree_of q1 hN hz' ht q2
      refine ⟨v, G2, he, ⟨_, hu, .t h1, .t h2, trivial⟩, ⟨fun _ _ h => by simp [hGet] at h, fun _ _ _ h => by simp [hGet] at h, fun _ _ _ _ _ h => by simp [hGet] at h⟩, fun _ _ _ h => by simp [hGet] at h, fun _ _ _ h => by simp [hGet] at h, hk, fun b hb hm' => ?_, h4⟩
      rw [h3 b (fun h => by
        rcases hm nm (.cells sz rows) b (by simp [hGet]) h with h | h
        · exact hm' h
        · omega)]
      exact ho b hb hm'
end Go.Proofs.Ytgmjgognpabmdaa.Fx
