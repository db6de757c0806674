/- The evaluator's second make: lists that grow. -/
import Derived.Test.YtgmjgognpabmdaaFx6
namespace Go.Proofs.Ytgmjgognpabmdaa.Fx
open Go Go.RowKit
set_option linter.unusedSimpArgs false
set_option linter.unusedVariables false
variable {P : Program} {T : TypeId → Option TI} {w w' : World}

def St.give (st : St) (nm : Option Nat) (d : Nat) (b : Blk) : St := { slots := fun t => (st.slots t).kill d, heap := fun k => if k = d then some b else if nm = some k then none else st.heap k }

/-- No block but those that are given up leads to the name. -/
def Fresh2 (st : St) (nm : Option Nat) (d : Nat) : Prop := ∀ k blk, k ≠ d → nm ≠ some k → st.heap k = some blk → blk.has d = false

section
variable {cx : Cx} {G : Gh} {st : St} {a : Act}

/-- A name given up, and another given for what it held. -/
theorem R.give (hR : R cx G st a w) {nm : Option Nat} {d : Nat} (hdn : d < cx.n) {blk : Blk} (q : Option PH) (rg : Nat → Prop) (hnm : ∀ k, nm = some k → ∃ b, st.heap k = some b) (hk : Kept (fun b => ∃ k, nm = some k ∧ G.reg k b) w w')
    (hf : Fresh2 st nm d) (hn : blk.has d = false) (hrg : ∀ b, rg b → ((∃ k, nm = some k ∧ G.reg k b) ∨ w.heap.size ≤ b) ∧ b < w'.heap.size)
    (hB : ∀ G' : Gh, G'.hw = G.hw → G'.ph d = q → (∀ b, G'.reg d b ↔ rg b) → (∀ k, k ≠ d → G'.ph k = G.ph k) → BlkR G' w' d blk) :
    ∃ G', R cx G' (st.give nm d blk) a w' ∧ G'.ph d = q ∧ G'.hw = G.hw ∧ ∀ k, k ≠ d → G'.ph k = G.ph k := by
  have hown0 : ∀ b, (∃ k, nm = some k ∧ G.reg k b) → G.hw b = 0 := fun b ⟨k, h1, h2⟩ => by
    obtain ⟨bl, hb⟩ := hnm k h1
    exact (hR.reg k bl b hb h2).1
  refine ⟨⟨⟨G.hw, fun k => if k = d then q else G.ph k⟩, fun k b => if k = d then rg b else G.reg k b⟩, ?_, by simp, rfl, fun k hk => by simp [hk]⟩
  refine hR.change (fun b => ∃ k, nm = some k ∧ G.reg k b) (fun k => k = d ∨ nm = some k) (fun b ⟨k, h1, h2⟩ => ?_) hk (fun _ _ _ => rfl) (fun b hb => hR.hwNew b (Nat.le_trans hk.size hb)) ?_ ?_ ?_ ?_ ?_ (fun k hk' => by simp only; rw [if_neg (by omega)]) hR.tmps hR.defers
  · obtain ⟨bl, hb⟩ := hnm k h1
    exact ⟨k, bl, .inr h1, hb, h2⟩
  · intro k blk' hD hb'
    have h1 : k ≠ d := fun e => hD (.inl e)
    have h2 : nm ≠ some k := fun e => hD (.inr e)
    simp only [St.give, if_neg h1, if_neg h2] at hb'
    exact ⟨hb', by simp [h1], fun b => by simp [h1]⟩
  · intro k hph j blk' hD hb'
    have hkn : k = d := by
      rcases Classical.em (k = d) with h | h
      · exact h
      · simp [h] at hph
    subst hkn
    have h1 : j ≠ k := fun e => hD (.inl e)
    have h2 : nm ≠ some j := fun e => hD (.inr e)
    simp only [St.give, if_neg h1, if_neg h2] at hb'
    exact hf j blk' h1 h2 hb'
  · intro k blk' hD hb'
    by_cases h1 : k = d
    · subst h1
      simp only [St.give, if_pos] at hb'
      obtain rfl := Option.some.inj hb'
      refine ⟨hB _ rfl (by simp) (fun b => by simp) (fun j hj => by simp [hj]), fun b hb' => ?_⟩
      simp only [if_pos] at hb'
      obtain ⟨h3, h4⟩ := hrg b hb'
      refine ⟨?_, h4, h3⟩
      rcases h3 with h3 | h3
      · exact hown0 b h3
      · exact hR.hwNew _ h3
    · have h2 : nm = some k := by rcases hD with h | h; exact absurd h h1; exact h
      simp [St.give, h1, h2] at hb'
  · intro k k' blk1 blk2 b h1 h2 hb1 hb2 _ _
    have : ∀ j b', (j = d ∨ nm = some j) → (st.give nm d blk).heap j = some b' → j = d := by
      intro j b' hj hb'
      rcases Classical.em (j = d) with h | h
      · exact h
      · have h2 : nm = some j := by rcases hj with h' | h'; exact absurd h' h; exact h'
        simp [St.give, h, h2] at hb'
    rw [this k _ h1 hb1, this k' _ h2 hb2]
  · intro t h
    simp only [St.give, SV.kill]
    split
    · trivial
    · rename_i hh
      refine slot_move (G' := ⟨⟨G.hw, fun k => if k = d then q else G.ph k⟩, fun k b => if k = d then rg b else G.reg k b⟩) hR hown0 hk (fun _ _ _ => rfl) h (fun k hk' => ?_)
      have : k ≠ d := fun e => by subst e; exact hh hk'
      simp [this]

def CV.plain : CV → Bool
  | .t _ => true
  | .own _ rows => rows.isEmpty
  | .mr _ _ _ => true
  | .mp _ _ _ => true
  | .mm _ => true
  | .fnc _ _ _ => true
  | .ifc _ _ _ => true
  | .dead => false
def plainRows (rows : List (List CV)) : Bool := rows.all (·.all CV.plain)

theorem plain_up (rows : List (List TV)) : plainRows (up rows) = true := by
  simp [plainRows, up, CV.plain]

theorem CVR.plain {M : Mk} {S : Nat → Prop} {c : CV} {x : Value} (h : CVR M w S c x) (hq : c.plain = true) : CVR M w Emp c x ∧ x.oneCell' = true := by
  cases h with
  | t h => exact ⟨.t h, h.oneCell⟩
  | nil sz a => exact ⟨.nil sz a, rfl⟩
  | own sz rows b o cap cs el f g hb hg hd h0 hl hne hc hh hfit h1 h2 => cases rows <;> simp [CV.plain] at hq hne
  | mr0 nm lo a => exact ⟨.mr0 nm lo a, rfl⟩
  | mr nm lo len cap p hp h1 h2 h3 h4 => exact ⟨.mr nm lo len cap p hp h1 h2 h3 h4, rfl⟩
  | mp nm i o p hp => exact ⟨.mp nm i o p hp, rfl⟩
  | mm nm p hp => exact ⟨.mm nm p hp, rfl⟩
  | fnc f first caps us vs h1 h2 h3 h4 => exact ⟨.fnc f first caps us vs h1 h2 h3 h4, rfl⟩
  | ifcA ty cs us h1 h3 => exact ⟨.ifcA ty cs us h1 h3, rfl⟩
  | ifc ty c u h => exact ⟨.ifc ty c u h, rfl⟩
  | dead x => simp [CV.plain] at hq

/-- The rows that an append takes: a list's, as they are read. -/
def srcOf (st : St) : SV → Option (Nat × List (List CV))
  | .c (.t (.sl sz rows)) => some (sz, up rows)
  | .c (.own sz []) => some (sz, [])
  | .c (.mr nm lo len) => match st.heap nm with
    | some (.cells sz rows) => if lo + len ≤ rows.length ∧ plainRows ((rows.drop lo).take len) = true then some (sz, (rows.drop lo).take len) else none
    | _ => none
  | _ => none

/-- The list that an append makes longer: its name, and its rows. -/
def baseOf (st : St) : SV → Option (Option Nat × Nat × List (List CV))
  | .c (.own sz []) => some (none, sz, [])
  | .c (.mr nm lo len) => match st.heap nm with
    | some (.cells sz rows) => if lo + len ≤ rows.length then some (some nm, sz, (rows.drop lo).take len) else none
    | _ => none
  | _ => none

theorem sub_get {α : Type} {rows : List α} {lo len i : Nat} (hle : lo + len ≤ rows.length) {r : α} (h : ((rows.drop lo).take len)[i]? = some r) : i < len ∧ rows[lo + i]? = some r := by
  have hi : i < len := by
    have := (List.getElem?_eq_some_iff.1 h).1
    simp at this; omega
  rw [List.getElem?_take_of_lt hi, List.getElem?_drop] at h
  exact ⟨hi, h⟩

theorem sub_length {α : Type} {rows : List α} {lo len : Nat} (hle : lo + len ≤ rows.length) : ((rows.drop lo).take len).length = len := by simp; omega

theorem row_split {k sz : Nat} (h0 : 0 < sz) : k / sz * sz + k % sz = k := by rw [Nat.mul_comm]; exact Nat.div_add_mod k sz

/-- What a list behind an address hands to an append. -/
theorem src_rows {t e : TypeId} {info : TypeInfo} (hu : P.underlying t = some (.slice e)) {M : Mk} {sz : Nat} (h0 : 0 < sz) {rows : List (List CV)} (hsz : info.size = sz) (hl : ∀ r ∈ rows, r.length = sz) {b o cap : Nat}
    (hc : ∀ i r j c, rows[i]? = some r → r[j]? = some c → ∃ u, w.cell? ⟨b, o + (i * sz + j), none⟩ = some u ∧ CVR M w Emp c u ∧ u.oneCell' = true) :
    ∃ news : List Value, Src P info.size t (.slice (some ⟨b, o, none⟩) rows.length cap) rows.length news w ∧ ∀ i r j c, rows[i]? = some r → r[j]? = some c → ∃ u, news[i * sz + j]? = some u ∧ CVR M w Emp c u := by
  have hlt : ∀ k, k < rows.length * sz → k / sz < rows.length ∧ k % sz < sz := fun k hk => ⟨by rw [Nat.div_lt_iff_lt_mul h0]; exact hk, Nat.mod_lt _ h0⟩
  have hat : ∀ k, k < rows.length * sz → ∃ u, w.cell? ⟨b, o + k, none⟩ = some u ∧ u.oneCell' = true := by
    intro k hk
    obtain ⟨g1, g2⟩ := hlt k hk
    have hr : rows[k / sz]? = some rows[k / sz] := List.getElem?_eq_getElem g1
    have hrl := hl _ (List.getElem_mem g1)
    obtain ⟨u, h1, _, h3⟩ := hc _ _ (k % sz) _ hr (List.getElem?_eq_getElem (by rw [hrl]; exact g2))
    rw [row_split h0] at h1
    exact ⟨u, h1, h3⟩
  refine ⟨(List.range (rows.length * sz)).map fun k => (w.cell? ⟨b, o + k, none⟩).getD undef, Src.ofSlice w hu _ _ _ _ (by simp [hsz]) (fun j u hj => ?_) (fun u hu => ?_), fun i r j c hi hj => ?_⟩
  · have hj2 := (List.getElem?_eq_some_iff.1 hj).1
    simp only [List.length_map, List.length_range] at hj2
    rw [List.getElem?_map, List.getElem?_range hj2] at hj
    simp only [Option.map_some, Option.some.injEq] at hj
    obtain ⟨u', h1, _⟩ := hat j hj2
    rw [add_at, ← hj, h1]; rfl
  · obtain ⟨k, hk, rfl⟩ := List.mem_map.1 hu
    obtain ⟨u', h1, h2⟩ := hat k (List.mem_range.1 hk)
    rw [h1]; exact h2
  · have hi2 := (List.getElem?_eq_some_iff.1 hi).1
    have hj2 := (List.getElem?_eq_some_iff.1 hj).1
    rw [hl r (List.mem_of_getElem? hi)] at hj2
    have hlt2 := row_lt hi2 hj2
    obtain ⟨u, h1, h2, _⟩ := hc i r j c hi hj
    refine ⟨u, ?_, h2⟩
    rw [List.getElem?_map, List.getElem?_range hlt2]
    simp [h1]

theorem src_none {t e : TypeId} {info : TypeInfo} (hu : P.underlying t = some (.slice e)) (a : Option Addr) (cap : Nat) : Src P info.size t (.slice a 0 cap) 0 [] w := by
  cases a with
  | none => exact Src.ofNil w hu cap
  | some a => exact Src.ofSlice w hu a 0 cap [] (by simp) (fun j u hj => by simp at hj) (fun u hu => by cases hu)

theorem up_get {rows : List (List TV)} {i j : Nat} {r : List CV} {c : CV} (hi : (up rows)[i]? = some r) (hj : r[j]? = some c) : ∃ r0 v, rows[i]? = some r0 ∧ r0[j]? = some v ∧ c = .t v ∧ r = r0.map CV.t := by
  simp only [up, List.getElem?_map] at hi
  cases h : rows[i]? with
  | none => simp [h] at hi
  | some r0 =>
    simp only [h, Option.map_some, Option.some.injEq] at hi
    subst hi
    rw [List.getElem?_map] at hj
    cases h2 : r0[j]? with
    | none => simp [h2] at hj
    | some v =>
      simp only [h2, Option.map_some, Option.some.injEq] at hj
      exact ⟨r0, v, rfl, h2, hj.symm, rfl⟩

theorem plain_mem {rows : List (List CV)} (h : plainRows rows = true) {i j : Nat} {r : List CV} {c : CV} (hi : rows[i]? = some r) (hj : r[j]? = some c) : c.plain = true := by
  simp only [plainRows, List.all_eq_true] at h
  exact h r (List.mem_of_getElem? hi) c (List.mem_of_getElem? hj)

theorem srcOf_ok (hR : R cx G st a w) {t e : TypeId} {info : TypeInfo} (hu : P.underlying t = some (.slice e)) {sv : SV} {y : Value} (hq : SVR G.toMk w sv y) {sz : Nat} {rows : List (List CV)} (hs : srcOf st sv = some (sz, rows)) (hsz : info.size = sz) :
    (∀ r ∈ rows, r.length = sz) ∧ (rows ≠ [] → 0 < sz) ∧ ∃ news : List Value, Src P info.size t y rows.length news w ∧ ∀ i r j c, rows[i]? = some r → r[j]? = some c → ∃ u, news[i * sz + j]? = some u ∧ CVR G.toMk w Emp c u := by
  unfold srcOf at hs
  split at hs
  · rename_i sz rows
    simp only [Option.some.injEq, Prod.mk.injEq] at hs
    obtain ⟨rfl, rfl⟩ := hs
    have h2 := cv_tv hq
    cases h2 with
    | nil _ a cap => exact ⟨by simp [up], fun h => absurd rfl h, [], src_none hu a cap, fun i r j c hi => by simp [up] at hi⟩
    | sl _ _ b o cap f h0 hl hc he h1 h2 =>
      have hl' : ∀ r ∈ up rows, r.length = info.size := by
        intro r hr
        obtain ⟨r0, hr0, rfl⟩ := List.mem_map.1 hr
        rw [List.length_map, hl r0 hr0, hsz]
      obtain ⟨news, q1, q2⟩ := src_rows (w := w) (M := G.toMk) (rows := up rows) (b := b) (o := o) (cap := cap) hu h0 hsz (fun r hr => by rw [hl' r hr, hsz]) (fun i r j c hi hj => by
        obtain ⟨r0, v, g1, g2, rfl, _⟩ := up_get hi hj
        have hi2 := (List.getElem?_eq_some_iff.1 g1).1
        have hj2 := (List.getElem?_eq_some_iff.1 g2).1
        rw [hl r0 (List.mem_of_getElem? g1)] at hj2
        exact ⟨_, h1 i j hi2 hj2, .t (h2 i r0 j v g1 g2), (h2 i r0 j v g1 g2).oneCell⟩)
      refine ⟨fun r hr => by rw [hl' r hr, hsz], fun _ => h0, news, ?_, q2⟩
      have e1 : (up rows).length = rows.length := by simp [up]
      rw [e1] at q1 ⊢
      exact q1
  · simp only [Option.some.injEq, Prod.mk.injEq] at hs
    obtain ⟨rfl, rfl⟩ := hs
    obtain ⟨_, a0, rfl⟩ := cv_own hq
    exact ⟨by simp, fun h => absurd rfl h, [], src_none hu a0 0, fun i r j c hi => by simp at hi⟩
  · rename_i nm lo len
    split at hs
    · rename_i sz' rows' hb
      split at hs
      · rename_i hc
        simp only [Option.some.injEq, Prod.mk.injEq] at hs
        obtain ⟨rfl, rfl⟩ := hs
        have hln := sub_length hc.1
        have hq2 : CVR G.toMk w Emp (.mr nm lo len) y := hq
        cases hq2 with
        | mr0 =>
          exact ⟨by simp, fun h => absurd (by simp) h, [], by rw [hln]; exact src_none hu _ 0, fun i r j c hi => by simp at hi⟩
        | mr _ _ _ cap p hp h1 h2 h3 h4 =>
          have hB := hR.heap nm _ hb
          simp only [BlkR, hp] at hB
          obtain ⟨b1, b2, b3, b4, b5, cs, el, b6, b7, b8, g, g1, g2, g3⟩ := hB
          have hl' : ∀ r ∈ (rows'.drop lo).take len, r.length = sz' := fun r hr => b4 r (List.mem_of_mem_drop (List.mem_of_mem_take hr))
          obtain ⟨news, q1, q2⟩ := src_rows (w := w) (M := G.toMk) (rows := (rows'.drop lo).take len) (b := p.b) (o := p.o + lo * p.sz) (cap := cap) hu b3 hsz hl' (fun i r j c hi hj => by
            obtain ⟨hi2, hi3⟩ := sub_get hc.1 hi
            obtain ⟨x, e1, e2⟩ := g3 _ _ _ _ hi3 hj
            obtain ⟨e3, e4⟩ := e2.plain (plain_mem hc.2 hi hj)
            refine ⟨x, ?_, e3, e4⟩
            simp only [World.cell?, b6]
            rw [show p.o + lo * p.sz + (i * sz' + j) = p.o + ((lo + i) * sz' + j) by rw [b1, Nat.add_mul]; omega, e1]
            simp)
          refine ⟨hl', fun _ => b3, news, ?_, q2⟩
          rw [hln] at q1 ⊢
          exact q1
      · cases hs
    · cases hs
  · cases hs

theorem zeroCells_size (z : Array Value) (m : Nat) : (Builtin.zeroCells z m).size = m * z.size := by simp [Builtin.zeroCells]

/-- The cells of two lists, one behind the other. -/
theorem joined_get {sz : Nat} {rows ys : List (List CV)} {olds news : List Value} {Z : Array Value} {Rl : Nat → Nat → CV → Value → Prop} (hl : ∀ r ∈ rows ++ ys, r.length = sz) (hol : olds.length = rows.length * sz)
    (ho : ∀ i r j c, rows[i]? = some r → r[j]? = some c → ∃ u, olds[i * sz + j]? = some u ∧ Rl i j c u) (hn : ∀ i r j c, ys[i]? = some r → r[j]? = some c → ∃ u, news[i * sz + j]? = some u ∧ Rl (rows.length + i) j c u) (hnl : news.length = ys.length * sz) :
    ∀ i r j c, (rows ++ ys)[i]? = some r → r[j]? = some c → ∃ u, ((olds ++ news).toArray ++ Z)[i * sz + j]? = some u ∧ Rl i j c u := by
  intro i r j c hi hj
  have hj2 := (List.getElem?_eq_some_iff.1 hj).1
  rw [hl r (List.mem_of_getElem? hi)] at hj2
  by_cases hil : i < rows.length
  · rw [List.getElem?_append_left hil] at hi
    obtain ⟨u, hu', hv⟩ := ho i r j c hi hj
    refine ⟨u, ?_, hv⟩
    have hlt2 := row_lt hil hj2
    rw [Array.getElem?_append_left (by simp; omega)]
    simp only [List.getElem?_toArray]
    rw [List.getElem?_append_left (by omega), hu']
  · rw [List.getElem?_append_right (by omega)] at hi
    obtain ⟨u, hu', hv⟩ := hn _ r j c hi hj
    refine ⟨u, ?_, by rw [show rows.length + (i - rows.length) = i by omega] at hv; exact hv⟩
    have hil2 := (List.getElem?_eq_some_iff.1 hi).1
    have hlt2 := row_lt hil2 hj2
    have e1 : i * sz + j = olds.length + ((i - rows.length) * sz + j) := by
      rw [hol, ← Nat.add_assoc, ← Nat.add_mul]; congr 2; omega
    rw [e1, Array.getElem?_append_left (by simp; omega)]
    simp only [List.getElem?_toArray]
    rw [List.getElem?_append_right (by omega), Nat.add_sub_cancel_left, hu']

theorem cell_move (hR : R cx G st a w) {G' : Gh} {nm : Option Nat} {d : Nat} (hnm : ∀ k, nm = some k → ∃ b, st.heap k = some b) (hk : Kept (fun b => ∃ k, nm = some k ∧ G.reg k b) w w') (hhw : G'.hw = G.hw) (hph : ∀ k, k ≠ d → G'.ph k = G.ph k)
    {S : Nat → Prop} {c : CV} {x : Value} (h : CVR G.toMk w S c x) (hd : c.has d = false) (hS : ∀ k, S k → w'.heap[k]? = w.heap[k]?) : CVR G'.toMk w' S c x :=
  CVR.move h (fun v y hv => by
    rw [hhw]
    refine hv.mono (fun _ => Nat.le_refl _) fun b j u hj hu => ?_
    rw [World.cell?_of_block (w := w) (hk.block b (cell_lt hu) (fun ⟨k, h1, h2⟩ => by
      obtain ⟨bl, hb⟩ := hnm k h1
      rw [(hR.reg k bl b hb h2).1] at hj; omega)), hu]) hS (fun k hk' => hph k fun e => by subst e; rw [hd] at hk'; cases hk')

theorem has_mem {d sz : Nat} {rows : List (List CV)} (hn : (Blk.cells sz rows).has d = false) {i j : Nat} {r : List CV} {c : CV} (hi : rows[i]? = some r) (hj : r[j]? = some c) : c.has d = false := by
  cases h : c.has d with
  | false => rfl
  | true =>
    rw [show (Blk.cells sz rows).has d = hasRows d rows from rfl, hasRows_mem (List.mem_of_getElem? hi) (List.mem_of_getElem? hj) h] at hn
    cases hn

theorem append_run (hT : TOk P T) (hR : R cx G st a w) {t e t2 e2 ty : TypeId} {ti te : TI} (ht : T t = some ti) (hk : ti.k = .slice e) (he : T e = some te) (hu2 : P.underlying t2 = some (.slice e2)) {X Y : SV} {x y : Value} (hX : SVR G.toMk w X x) (hY : SVR G.toMk w Y y)
    {nm : Option Nat} {sz sz2 : Nat} {rows ys : List (List CV)} (hb : baseOf st X = some (nm, sz, rows)) (hs : srcOf st Y = some (sz2, ys)) (h1 : sz = te.size) (h2 : sz2 = te.size) (hbig : (rows.length + ys.length) * te.bytes ≤ 140737488355328) (hm : rows.length + ys.length ≤ 9223372036854775807)
    {d : Nat} (hdn : d < cx.n) (hf : Fresh2 st nm d) (hn : (Blk.cells te.size (rows ++ ys)).has d = false) :
    ∃ r w' G', (Builtin.append_ #[t, t2] ty #[x, y]).run P w = .ok r w' ∧ R cx G' (st.give nm d (.cells te.size (rows ++ ys))) a w' ∧ CVR G'.toMk w' Emp (.mr d 0 (rows ++ ys).length) r := by
  subst h1
  obtain ⟨info, z, hi, hsz, hby, hz, hzr, _⟩ := (hT _ _ he).info
  have hzs : z.cells.size = te.size := by
    have h9 := All2.toList hzr
    rw [(hT _ _ he).zlen] at h9; exact h9.symm
  have hu := kind_slice hT ht hk
  obtain ⟨hyl, hy0, news, hsrc, hnews⟩ := srcOf_ok (info := info) hR hu2 hY hs (by rw [h2]; exact hsz)
  rw [h2] at hyl hy0 hnews
  have hnl := hsrc.newsLen
  rw [hsz] at hnl
  -- the base's value
  have hbase : (rows = [] ∧ ∃ a0, x = .slice a0 0 0) ∨ ∃ k lo len rows0 p cap, nm = some k ∧ st.heap k = some (.cells te.size rows0) ∧ lo + len ≤ rows0.length ∧ rows = (rows0.drop lo).take len ∧ G.ph k = some p ∧ len ≤ cap ∧ p.len ≤ lo + cap ∧ p.o + (lo + cap) * p.sz ≤ p.tot ∧ x = .slice (some ⟨p.b, p.o + lo * p.sz, none⟩) len cap := by
    unfold baseOf at hb
    split at hb
    · simp only [Option.some.injEq, Prod.mk.injEq] at hb
      obtain ⟨_, _, rfl⟩ := hb
      obtain ⟨_, a0, rfl⟩ := cv_own hX
      exact .inl ⟨rfl, a0, rfl⟩
    · rename_i k lo len
      split at hb
      · rename_i sz' rows0 hk0
        split at hb
        · rename_i hle
          simp only [Option.some.injEq, Prod.mk.injEq] at hb
          obtain ⟨rfl, rfl, rfl⟩ := hb
          have hX2 : CVR G.toMk w Emp (.mr k lo len) x := hX
          cases hX2 with
          | mr0 => exact .inl ⟨by simp, _, rfl⟩
          | mr _ _ _ cap p hp h1 h2 h3 h4 => exact .inr ⟨k, lo, len, rows0, p, cap, rfl, hk0, hle, rfl, hp, h2, h3, h4, rfl⟩
        · cases hb
      · cases hb
    · cases hb
  have hnmlive : ∀ k, nm = some k → ∃ b, st.heap k = some b := by
    intro k hk'
    unfold baseOf at hb
    split at hb
    · simp only [Option.some.injEq, Prod.mk.injEq] at hb
      rw [hk'] at hb; cases hb.1
    · rename_i k' lo len
      split at hb
      · rename_i sz' rows0 hk0
        split at hb
        · simp only [Option.some.injEq, Prod.mk.injEq] at hb
          obtain ⟨rfl, _, _⟩ := hb
          obtain rfl := Option.some.inj hk'
          exact ⟨_, hk0⟩
        · cases hb
      · cases hb
    · cases hb
  have hlenR : (rows ++ ys).length = rows.length + ys.length := List.length_append
  -- a new block
  have grow : ∀ (a0 : Option Addr) (cap : Nat) (olds : List Value) (g : Nat → Nat → Nat → Prop), x = .slice a0 rows.length cap → cap < rows.length + ys.length → (Builtin.firstCells info.size rows.length (.slice a0 rows.length cap)).run P w.drew = .ok olds.toArray w.drew → olds.length = rows.length * te.size → (∀ r ∈ rows, r.length = te.size) →
      (∀ i j k, g i j k → ∃ n, nm = some n ∧ G.reg n k) → (∀ i j i' j' k, g i j k → g i' j' k → i = i' ∧ j = j') → (∀ i r j c, rows[i]? = some r → r[j]? = some c → ∃ u, olds[i * te.size + j]? = some u ∧ CVR G.toMk w (g i j) c u) →
      ∃ r w' G', (Builtin.append_ #[t, t2] ty #[x, y]).run P w = .ok r w' ∧ R cx G' (st.give nm d (.cells te.size (rows ++ ys))) a w' ∧ CVR G'.toMk w' Emp (.mr d 0 (rows ++ ys).length) r := by
    intro a0 cap olds g hxe hlt hold hol hrl hg1 hg2 hcell
    have hne : ys ≠ [] ∨ rows ≠ [] := by
      rcases Classical.em (ys = []) with h | h
      · refine .inr fun h' => ?_
        subst h h'
        simp at hlt
      · exact .inl h
    have h0 : 0 < te.size := by
      rcases Nat.eq_zero_or_pos te.size with h | h
      · have hz0 := (hT _ _ he).zlen
        exfalso
        rcases hne with h' | h'
        · have := hy0 h'; omega
        · unfold baseOf at hb
          split at hb
          · simp only [Option.some.injEq, Prod.mk.injEq] at hb; exact h' hb.2.2.symm
          · rename_i k lo len
            split at hb
            · rename_i sz' rows0 hk0
              split at hb
              · simp only [Option.some.injEq, Prod.mk.injEq] at hb
                obtain ⟨_, rfl, hb3⟩ := hb
                have hB := hR.heap k _ hk0
                simp only [BlkR] at hB
                split at hB
                · rw [hB] at hb3; simp at hb3; exact h' hb3
                · have := hB.2.2.1; omega
              · cases hb
            · cases hb
          · cases hb
      · exact h
    have hrun := run_append_grow_src w t t2 ty e info z hu hi hz a0 rows.length cap olds hold y ys.length news hsrc hlt (by omega) (growslice_fits (by omega) (by rw [hby]; exact hbig))
    rw [← hxe] at hrun
    have hge := grownCap_ge w (rows.length + ys.length) cap e
    generalize grownCap w (rows.length + ys.length) cap e = C at hrun hge
    generalize hZ : Builtin.zeroCells z.cells (C - (rows.length + ys.length)) = Z at hrun
    have hbel : Below w.heap.size w (w.drew.alloc (.cells ((olds ++ news).toArray ++ Z) e)) := ((Below.refl _ _).drew).alloc (Nat.le_refl _) _
    have hkept : Kept Emp w (w.drew.alloc (.cells ((olds ++ news).toArray ++ Z) e)) := Kept.of_below hbel
    have hh : (w.drew.alloc (.cells ((olds ++ news).toArray ++ Z) e)).heap[w.heap.size]? = some (.cells ((olds ++ news).toArray ++ Z) e (0, 0)) := by
      show (w.heap.push _)[w.heap.size]? = _
      simp
    have hall : ∀ r ∈ rows ++ ys, r.length = te.size := by
      intro r hr
      rcases List.mem_append.1 hr with hr | hr
      · exact hrl r hr
      · exact hyl r hr
    have htot : ((olds ++ news).toArray ++ Z).size = C * te.size := by
      rw [Array.size_append, List.size_toArray, List.length_append, hol, hnl, ← hZ, zeroCells_size, hzs, ← Nat.add_mul, ← Nat.add_mul]
      congr 1; omega
    have hk2 : Kept (fun b => ∃ k, nm = some k ∧ G.reg k b) w (w.drew.alloc (.cells ((olds ++ news).toArray ++ Z) e)) := hkept.wide fun _ h => h.elim
    have hregOld : ∀ b, (∃ k, nm = some k ∧ G.reg k b) → b < w.heap.size := fun b ⟨k, q1, q2⟩ => by
      obtain ⟨bl, hb'⟩ := hnmlive k q1
      exact (hR.reg k bl b hb' q2).2.2
    have hj : ∀ i r j c, (rows ++ ys)[i]? = some r → r[j]? = some c → ∃ u, ((olds ++ news).toArray ++ Z)[i * te.size + j]? = some u ∧ CVR G.toMk w (fun k => i < rows.length ∧ g i j k) c u := by
      refine joined_get hall hol (fun i r j c hi' hj => ?_) (fun i r j c hi' hj => ?_) hnl
      · obtain ⟨u, p1, p2⟩ := hcell i r j c hi' hj
        exact ⟨u, p1, p2.wide fun k hk' => ⟨(List.getElem?_eq_some_iff.1 hi').1, hk'⟩⟩
      · obtain ⟨u, p1, p2⟩ := hnews i r j c hi' hj
        exact ⟨u, p1, p2.wide fun _ h => h.elim⟩
    obtain ⟨G', hR', hph, hhw, hoth⟩ := hR.give hdn (some ⟨w.heap.size, 0, te.size, C * te.size, rows.length + ys.length⟩) (fun b => (∃ k, nm = some k ∧ G.reg k b) ∨ b = w.heap.size) hnmlive hk2 hf hn
      (fun b hb' => by
        rcases hb' with h | rfl
        · exact ⟨.inl h, Nat.lt_of_lt_of_le (hregOld b h) hbel.size⟩
        · exact ⟨.inr (Nat.le_refl _), block_lt hh⟩) (fun G' e1 e2 e3 e4 => by
        simp only [BlkR, e2]
        refine ⟨trivial, hlenR.symm, h0, hall, (e3 _).2 (.inr rfl), _, e, hh, htot, by rw [hlenR, Nat.zero_add]; exact Nat.mul_le_mul_right _ hge, fun i j k => i < rows.length ∧ g i j k, fun i j k hk' => ⟨(e3 _).2 (.inl (hg1 _ _ _ hk'.2)), fun e => by have := hregOld k (hg1 _ _ _ hk'.2); omega⟩, fun i j i' j' k p1 p2 => hg2 _ _ _ _ _ p1.2 p2.2, ?_⟩
        intro i r j c hi' hj'
        obtain ⟨u, p1, p2⟩ := hj i r j c hi' hj'
        refine ⟨u, by simpa using p1, cell_move hR hnmlive hk2 e1 e4 p2 (has_mem hn hi' hj') fun k hk' => hbel.block k (hregOld k (hg1 _ _ _ hk'.2))⟩)
    refine ⟨_, _, G', hrun, hR', ?_⟩
    have := CVR.mr (M := G'.toMk) (w := w.drew.alloc (.cells ((olds ++ news).toArray ++ Z) e)) (S := Emp) d 0 (rows ++ ys).length C _ hph (by rw [hlenR]; simp) (by rw [hlenR]; exact hge) (by simpa using hge) (by simp)
    rw [hlenR] at this ⊢
    simpa using this
  rcases hbase with ⟨hr0, a0, rfl⟩ | ⟨k, lo, len, rows0, p, cap, rfl, hk0, hle, hrows, hp, hlc, hpl, htot, rfl⟩
  · subst hr0
    by_cases hne : ys = []
    · subst hne
      have hn0 : news = [] := List.eq_nil_of_length_eq_zero (by rw [hnl]; simp)
      subst hn0
      have hrun : (Builtin.append_ #[t, t2] ty #[.slice a0 0 0, y]).run P w = .ok (.slice a0 0 0) w := run_append_nothing w t t2 ty e info hu hi a0 0 0 (Nat.le_refl _) y hsrc
      obtain ⟨G', hR', hph, hhw, hoth⟩ := hR.give (w' := w) hdn none Emp hnmlive (Kept.refl _ _) hf hn (fun _ h => h.elim) (fun G' e1 e2 e3 e4 => by simp only [BlkR, e2, List.append_nil])
      exact ⟨_, w, G', hrun, hR', .mr0 _ _ _⟩
    · have hyn := List.length_pos_iff.2 hne
      refine grow a0 0 [] (fun _ _ _ => False) rfl (by simpa using hyn) ?_ (by simp) (by simp) (fun _ _ _ h => h.elim) (fun _ _ _ _ _ h => h.elim) (fun i r j c hi' _ => by simp at hi')
      cases a0 with
      | none => simp [Builtin.firstCells]
      | some a0 => exact run_firstCells_some w.drew info.size 0 a0 0 0 [] (by simp) (fun j u hj => by simp at hj)
  · have hB := hR.heap k _ hk0
    simp only [BlkR, hp] at hB
    obtain ⟨b1, b2, b3, b4, b5, cs, el, b6, b7, b8, g, g1, g2, g3⟩ := hB
    have hln : rows.length = len := by rw [hrows]; exact sub_length hle
    have hrl : ∀ r ∈ rows, r.length = te.size := fun r hr => by rw [hrows] at hr; exact b4 r (List.mem_of_mem_drop (List.mem_of_mem_take hr))
    have hsub : ∀ i r j c, rows[i]? = some r → r[j]? = some c → ∃ u, cs[p.o + lo * p.sz + (i * te.size + j)]? = some u ∧ CVR G.toMk w (g (lo + i) j) c u := by
      intro i r j c hi' hj
      rw [hrows] at hi'
      obtain ⟨_, hi3⟩ := sub_get hle hi'
      obtain ⟨x, e1, e2⟩ := g3 _ _ _ _ hi3 hj
      refine ⟨x, ?_, e2⟩
      rw [← e1]; congr 1
      rw [b1, Nat.add_mul]; omega
    by_cases hroom : len + ys.length ≤ cap
    · -- in place
      have hmul : (lo + len) * te.size + ys.length * te.size ≤ (lo + cap) * te.size := by rw [← Nat.add_mul]; exact Nat.mul_le_mul_right _ (by omega)
      rw [b1] at htot
      have hexp1 := Nat.add_mul lo cap te.size
      have hexp2 := Nat.add_mul lo len te.size
      have hrun := run_append_room_src w t t2 ty e info hu hi p.b (p.o + lo * p.sz) len cap y ys.length news hsrc hroom (by
        intro j hj
        rw [hnl] at hj
        simp only [World.cell?, b6, hsz, b1]
        simp
        omega) (by
        intro j hj
        simp [World.frozen?, b6])
      have hwr := Wrote.cells p.b news (p.o + lo * p.sz + len * info.size) w
      have hk2 : Kept (fun b => ∃ n, some k = some n ∧ G.reg n b) w (w.setCells p.b (p.o + lo * p.sz + len * info.size) news) := hwr.kept ⟨k, rfl, b5⟩
      have hregLt : ∀ b, G.reg k b → b < w.heap.size := fun b hb' => (hR.reg k _ b hk0 hb').2.2
      obtain ⟨cs', q1, q2, q3⟩ := hwr.block cs el _ b6
      have hin := World.cell?_setCells_in p.b news (p.o + lo * p.sz + len * info.size) w (by
        intro j hj
        rw [hnl] at hj
        simp only [World.cell?, b6, hsz, b1]
        simp
        omega)
      obtain ⟨G', hR', hph, hhw, hoth⟩ := hR.give hdn (some ⟨p.b, p.o + lo * p.sz, te.size, p.tot, len + ys.length⟩) (fun b => G.reg k b) hnmlive hk2 hf hn
        (fun b hb' => ⟨.inl ⟨k, rfl, hb'⟩, by rw [hwr.size]; exact hregLt b hb'⟩) (fun G' e1 e2 e3 e4 => by
          simp only [BlkR, e2]
          refine ⟨trivial, by rw [hlenR, hln], b3, ?_, (e3 _).2 b5, cs', el, q1, by rw [q2, b7], by rw [hlenR, hln, b1, Nat.add_mul]; omega, fun i j b => i < len ∧ g (lo + i) j b, fun i j b hb' => ⟨(e3 _).2 (g1 _ _ _ hb'.2).1, (g1 _ _ _ hb'.2).2⟩, fun i j i' j' b p1 p2 => ?_, ?_⟩
          · intro r hr
            rcases List.mem_append.1 hr with hr | hr
            · exact hrl r hr
            · exact hyl r hr
          · obtain ⟨h3, h4⟩ := g2 _ _ _ _ _ p1.2 p2.2
            exact ⟨by omega, h4⟩
          · intro i r j c hi' hj
            have hhas := has_mem hn hi' hj
            have hj2 := (List.getElem?_eq_some_iff.1 hj).1
            by_cases hil : i < rows.length
            · rw [List.getElem?_append_left hil] at hi'
              rw [hrl r (List.mem_of_getElem? hi')] at hj2
              obtain ⟨u, p1, p2⟩ := hsub i r j c hi' hj
              have := row_lt hil hj2
              refine ⟨u, ?_, (cell_move hR hnmlive hk2 e1 e4 p2 hhas fun b hb' => hwr.other b (g1 _ _ _ hb').2).wide fun b hb' => ⟨by omega, hb'⟩⟩
              rw [q3 _ (by left; rw [hsz]; rw [hln] at this; omega)]
              exact p1
            · rw [List.getElem?_append_right (by omega)] at hi'
              obtain ⟨u, p1, p2⟩ := hnews _ r j c hi' hj
              rw [hyl r (List.mem_of_getElem? hi')] at hj2
              have hil2 := (List.getElem?_eq_some_iff.1 hi').1
              have hlt2 := row_lt hil2 hj2
              have hjl := (List.getElem?_eq_some_iff.1 p1).1
              refine ⟨u, ?_, (cell_move hR hnmlive hk2 e1 e4 p2 hhas fun b hb' => hb'.elim).wide fun _ h => h.elim⟩
              have h9 := hin _ hjl
              simp only [World.cell?, q1] at h9
              rw [List.getElem?_eq_getElem hjl] at p1
              rw [← p1]
              have e1 : p.o + lo * p.sz + (i * te.size + j) = p.o + lo * p.sz + len * info.size + ((i - rows.length) * te.size + j) := by
                have : i * te.size = rows.length * te.size + (i - rows.length) * te.size := by rw [← Nat.add_mul]; congr 1; omega
                rw [hsz, ← hln]; omega
              rw [e1]
              simpa using h9)
      refine ⟨_, _, G', hrun, hR', ?_⟩
      have := CVR.mr (M := G'.toMk) (w := w.setCells p.b (p.o + lo * p.sz + len * info.size) news) (S := Emp) d 0 (rows ++ ys).length cap _ hph (by rw [hlenR, hln]; simp) (by rw [hlenR, hln]; exact hroom) (by simpa using hroom) (by simp only [Nat.zero_add]; rw [b1]; omega)
      rw [hlenR, hln] at this ⊢
      simpa using this
    · -- no room
      have hcap2 : rows.length * te.size ≤ cap * te.size := Nat.mul_le_mul_right _ (by omega)
      rw [b1, Nat.add_mul] at htot
      have hlen9 : ∀ j, j < rows.length * te.size → ∃ u, cs[p.o + lo * p.sz + j]? = some u := fun j hj => by
        have : p.o + lo * p.sz + j < cs.size := by rw [b7, b1]; omega
        exact ⟨_, Array.getElem?_eq_getElem this⟩
      refine grow (some ⟨p.b, p.o + lo * p.sz, none⟩) cap ((List.range (rows.length * te.size)).map fun j => (cs[p.o + lo * p.sz + j]?).getD undef) (fun i j b => g (lo + i) j b) (by rw [hln]) (by omega) ?_ (by simp) hrl (fun i j b hb' => ⟨k, rfl, (g1 _ _ _ hb').1⟩) (fun i j i' j' b p1 p2 => by
        obtain ⟨h3, h4⟩ := g2 _ _ _ _ _ p1 p2
        exact ⟨by omega, h4⟩) (fun i r j c hi' hj => ?_)
      · rw [hsz]
        refine run_firstCells_some w.drew te.size rows.length _ _ cap _ (by simp) (fun j u hj => ?_)
        have hj2 := (List.getElem?_eq_some_iff.1 hj).1
        simp only [List.length_map, List.length_range] at hj2
        rw [List.getElem?_map, List.getElem?_range hj2] at hj
        simp only [Option.map_some, Option.some.injEq] at hj
        obtain ⟨u', hu'⟩ := hlen9 j hj2
        rw [hu'] at hj
        have h8 : w.drew.heap[p.b]? = some (.cells cs el (0, 0)) := b6
        rw [add_at]
        simp only [World.cell?, h8, hu']
        simpa using hj
      · obtain ⟨u, p1, p2⟩ := hsub i r j c hi' hj
        refine ⟨u, ?_, p2⟩
        have hi2 := (List.getElem?_eq_some_iff.1 hi').1
        have hj2 := (List.getElem?_eq_some_iff.1 hj).1
        rw [hrl r (List.mem_of_getElem? hi')] at hj2
        rw [List.getElem?_map, List.getElem?_range (row_lt hi2 hj2)]
        simp [p1]
end
end Go.Proofs.Ytgmjgognpabmdaa.Fx
