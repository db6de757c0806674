/- The evaluator's second make: names given, cells written. -/
import Derived.Test.YtgmjgognpabmdaaFx5
import Derived.IntWalk
import Derived.Deep.Upon
namespace Go.Proofs.Ytgmjgognpabmdaa.Fx
open Go Go.RowKit
set_option linter.unusedSimpArgs false
set_option linter.unusedVariables false
variable {P : Program} {T : TypeId → Option TI} {w w' : World}

def SV.kill (nm : Nat) (v : SV) : SV := if v.has nm = true then .undef else v

/-- A name given: what led to it before leads nowhere. -/
def St.name (st : St) (nm : Nat) (b : Blk) : St := { slots := fun t => (st.slots t).kill nm, heap := fun k => if k = nm then some b else st.heap k }

/-- No other name's block leads to the name. -/
def Fresh (st : St) (nm : Nat) : Prop := ∀ k blk, k ≠ nm → st.heap k = some blk → blk.has nm = false

def up (rows : List (List TV)) : List (List CV) := rows.map (·.map CV.t)

theorem hasL_up (nm : Nat) : ∀ (l : List TV), hasL nm (l.map CV.t) = false
  | [] => rfl
  | v :: l => by simp [hasL, CV.has, hasL_up nm l]
theorem hasRows_up (nm : Nat) : ∀ (rows : List (List TV)), hasRows nm (up rows) = false
  | [] => rfl
  | r :: rs => by
    have := hasRows_up nm rs
    simp only [up] at this
    simp [up, hasRows, hasL_up, this]

theorem hasL_append (nm : Nat) : ∀ (l m : List CV), hasL nm (l ++ m) = (hasL nm l || hasL nm m)
  | [], m => by simp [hasL]
  | c :: l, m => by simp [hasL, hasL_append nm l m, Bool.or_assoc]
theorem hasRows_append (nm : Nat) : ∀ (l m : List (List CV)), hasRows nm (l ++ m) = (hasRows nm l || hasRows nm m)
  | [], m => by simp [hasRows]
  | c :: l, m => by simp [hasRows, hasRows_append nm l m, Bool.or_assoc]
theorem hasRows_replicate (nm : Nat) (r : List CV) (h : hasL nm r = false) : ∀ n, hasRows nm (List.replicate n r) = false
  | 0 => rfl
  | n + 1 => by simp [List.replicate_succ, hasRows, h, hasRows_replicate nm r h n]
theorem hasRows_sub {nm : Nat} {l m : List (List CV)} (hs : ∀ r ∈ l, r ∈ m) (h : hasRows nm m = false) : hasRows nm l = false := by
  induction l with
  | nil => rfl
  | cons r rs ih =>
    simp only [hasRows, Bool.or_eq_false_iff]
    refine ⟨?_, ih fun x hx => hs x (by simp [hx])⟩
    have hr := hs r (by simp)
    clear ih hs
    induction m with
    | nil => cases hr
    | cons x m ih =>
      simp only [hasRows, Bool.or_eq_false_iff] at h
      rcases List.mem_cons.1 hr with rfl | hr
      · exact h.1
      · exact ih h.2 hr

section
variable {cx : Cx} {G : Gh} {st : St} {a : Act}

/-- A new block, with a name. -/
theorem R.name (hR : R cx G st a w) {nm : Nat} (hnm : nm < cx.n) {blk : Blk} (hf : Fresh st nm) (hn : blk.has nm = false) (hk : Kept Emp w w') (p : PH) (hp : p.b < w'.heap.size) (hp2 : w.heap.size ≤ p.b)
    (hb : ∀ G' : Gh, G'.hw = G.hw → G'.ph nm = some p → G'.reg nm p.b → (∀ k, k ≠ nm → G'.ph k = G.ph k) → BlkR G' w' nm blk) :
    ∃ G', R cx G' (st.name nm blk) a w' ∧ G'.ph nm = some p ∧ G'.hw = G.hw ∧ ∀ k, k ≠ nm → G'.ph k = G.ph k := by
  have hwz : ∀ b, w'.heap.size ≤ b → G.hw b = 0 := fun b hb => hR.hwNew b (Nat.le_trans hk.size hb)
  refine ⟨{ hw := G.hw, ph := fun k => if k = nm then some p else G.ph k, reg := fun k b => if k = nm then b = p.b else G.reg k b }, ?_, by simp, rfl, fun k hk => by simp [hk]⟩
  refine hR.change Emp (fun k => k = nm) (fun _ h => h.elim) hk (fun _ _ _ => rfl) hwz ?_ ?_ ?_ ?_ ?_ (fun k hk' => by simp only; rw [if_neg (by omega)]) hR.tmps hR.defers
  · intro k blk' hD hb'
    simp only [St.name, if_neg hD] at hb'
    exact ⟨hb', by simp [hD], fun b => by simp [hD]⟩
  · intro k hph j blk' hD hb'
    have hkn : k = nm := by
      rcases Classical.em (k = nm) with h | h
      · exact h
      · simp [h] at hph
    subst hkn
    simp only [St.name, if_neg hD] at hb'
    exact hf j blk' hD hb'
  · intro k blk' hD hb'
    subst hD
    simp only [St.name, if_pos] at hb'
    obtain rfl := Option.some.inj hb'
    refine ⟨hb _ rfl (by simp) (by simp) (fun j hj => by simp [hj]), fun b hb' => ?_⟩
    simp only [if_pos] at hb'
    subst hb'
    exact ⟨hR.hwNew _ hp2, hp, .inr hp2⟩
  · intro k k' blk1 blk2 b h1 h2 _ _ _ _
    exact h1.trans h2.symm
  · intro t h
    simp only [St.name, SV.kill]
    split
    · trivial
    · rename_i hh
      refine slot_move (G' := ⟨⟨G.hw, fun k => if k = nm then some p else G.ph k⟩, fun k b => if k = nm then b = p.b else G.reg k b⟩) hR (own := Emp) (fun _ h => h.elim) hk (fun _ _ _ => rfl) h (fun k hk' => ?_)
      have : k ≠ nm := fun e => by subst e; exact hh hk'
      simp [this]

def nameK (n : Nat) (dst : Option Nat) (blk : Blk) (sv : Nat → SV) (K : St → Prop) (st : St) : Prop :=
  match dst with
  | some d => if d < n then Fresh st d ∧ blk.has d = false ∧ K ((st.name d blk).put d (sv d)) else False
  | none => False

def putK (n : Nat) (dst : Option Nat) (sv : SV) (K : St → Prop) (st : St) : Prop :=
  match dst with
  | some d => if d < n then K (st.put d sv) else False
  | none => K st

/-- What holds of the frame and the world where K holds of the state. -/
def Post (cx : Cx) (K : St → Prop) : Act → World → Prop := fun a w => ∃ G st, R cx G st a w ∧ K st

theorem Oper.wp_value {o : Oper} {K : Act → World → Prop} {Q : Exit → Act → World → Prop} {v : Value} {w' : World} (h : (execOp a.eval o).run P w = .ok (.value v) w') (hK : K (a.put o.dst v) w') : o.wp P a w K Q := by
  unfold Oper.wp
  rw [h]
  exact hK

theorem Oper.wp_skip {o : Oper} {K : Act → World → Prop} {Q : Exit → Act → World → Prop} {w' : World} (h : (execOp a.eval o).run P w = .ok .skip w') (hK : K (a.put o.dst undef) w') : o.wp P a w K Q := by
  unfold Oper.wp
  rw [h]
  exact hK

theorem putK_ok (hR : R cx G st a w) {dst : Option Nat} {sv : SV} {x : Value} (hq : SVR G.toMk w sv x) {K : St → Prop} (h : putK cx.n dst sv K st) : Post cx K (a.put dst x) w := by
  cases dst with
  | none => exact ⟨G, st, hR, h⟩
  | some d =>
    simp only [putK] at h
    split at h
    · rename_i hd
      exact ⟨G, _, hR.put hd hq, h⟩
    · exact h.elim

theorem quietK_ok (hT : TOk P T) (hR : R cx G st a w) {o : Oper} {K : St → Prop} {Q : Exit → Act → World → Prop} (h : match quiet T st o with | some sv => putK cx.n o.dst sv K st | none => False) : o.wp P a w (Post cx K) Q := by
  split at h
  · rename_i sv hsv
    obtain ⟨x, hx, hq⟩ := quiet_ok hT hR hsv
    exact Oper.wp_value hx (putK_ok hR hq h)
  · exact h.elim

/-- A new block of cells, with a name. -/
theorem nameCells_ok (hR : R cx G st a w) {dst : Option Nat} {sz : Nat} {rows : List (List CV)} {sv : Nat → SV} {K : St → Prop} (h : nameK cx.n dst (.cells sz rows) sv K st) {w1 : World} (h1 : w1 = w ∨ w1 = w.drew) {cs : Array Value} {el : TypeId} (hsz : 0 < sz) (hrows : ∀ r ∈ rows, r.length = sz)
    (hfit : rows.length * sz ≤ cs.size) (hcell : ∀ i r j c, rows[i]? = some r → r[j]? = some c → ∃ x, cs[i * sz + j]? = some x ∧ CVR G.toMk w Emp c x) {x : Value}
    (hx : ∀ d (M : Mk), M.ph d = some ⟨w.heap.size, 0, sz, cs.size, rows.length⟩ → SVR M (w1.alloc (.cells cs el (0, 0))) (sv d) x) :
    Post cx K (a.put dst x) (w1.alloc (.cells cs el (0, 0))) := by
  have hs1 : w1.heap.size = w.heap.size := by rcases h1 with rfl | rfl <;> rfl
  have hb1 : Below w.heap.size w w1 := by rcases h1 with rfl | rfl; exact Below.refl _ _; exact (Below.refl _ _).drew
  have hbel : Below w.heap.size w (w1.alloc (.cells cs el (0, 0))) := hb1.alloc (by omega) _
  cases dst with
  | none => exact h.elim
  | some d =>
    simp only [nameK] at h
    split at h
    · rename_i hd
      obtain ⟨hf, hn, h⟩ := h
      have hh : (w1.alloc (.cells cs el (0, 0))).heap[w.heap.size]? = some (.cells cs el (0, 0)) := by
        show (w1.heap.push _)[w.heap.size]? = _
        rw [← hs1]; simp
      obtain ⟨G', hR', hph, hhw, hoth⟩ := hR.name hd hf hn (Kept.of_below hbel) ⟨w.heap.size, 0, sz, cs.size, rows.length⟩ (block_lt hh) (Nat.le_refl _) (fun G' e1 e2 e3 e4 => by
        simp only [BlkR, e2]
        refine ⟨trivial, trivial, hsz, hrows, e3, cs, el, hh, rfl, by simpa using hfit, fun _ _ _ => False, fun _ _ _ h => h.elim, fun _ _ _ _ _ h => h.elim, fun i r j c hi hj => ?_⟩
        obtain ⟨x, q1, q2⟩ := hcell i r j c hi hj
        refine ⟨x, by simpa using q1, CVR.move q2 (fun v y hv => hv.mono (fun b => by rw [e1]; exact Nat.le_refl _) fun b j u _ hu => by rw [World.cell?_of_block (w := w) (hbel.block b (cell_lt hu)), hu]) (fun _ h => h.elim) fun k hk => e4 k fun e => ?_⟩
        subst e
        rw [show (Blk.cells sz rows).has k = hasRows k rows from rfl, hasRows_mem (List.mem_of_getElem? hi) (List.mem_of_getElem? hj) hk] at hn
        cases hn)
      exact ⟨_, _, hR'.put hd (hx d G'.toMk hph), h⟩
    · exact h.elim

/-- Cells of a block written between two places. -/
structure Wrote (b lo hi : Nat) (w w' : World) : Prop where
  os : w'.os = w.os
  tape : w'.tape = w.tape
  output : w'.output = w.output
  size : w'.heap.size = w.heap.size
  other : ∀ k, k ≠ b → w'.heap[k]? = w.heap[k]?
  block : ∀ cs el fr, w.heap[b]? = some (.cells cs el fr) → ∃ cs', w'.heap[b]? = some (.cells cs' el fr) ∧ cs'.size = cs.size ∧ ∀ j, j < lo ∨ hi ≤ j → cs'[j]? = cs[j]?

theorem Wrote.cells (b : Nat) : ∀ (vs : List Value) (o : Nat) (w : World), Wrote b o (o + vs.length) w (w.setCells b o vs)
  | [], o, w => ⟨rfl, rfl, rfl, rfl, fun _ _ => rfl, fun cs el fr h => ⟨cs, h, rfl, fun _ _ => rfl⟩⟩
  | v :: r, o, w => by
    have ih := Wrote.cells b r (o + 1) (w.setCell ⟨b, o, none⟩ v)
    refine ⟨ih.os, ih.tape, ih.output, ih.size.trans (by simp), fun k hk => (ih.other k hk).trans (Below.heap_setCell _ _ _ _ hk), fun cs el fr h => ?_⟩
    obtain ⟨cs', h1, h2, h3⟩ := ih.block (cs.setIfInBounds o v) el fr (by simp [World.setCell, Array.getElem?_modify, h])
    refine ⟨cs', h1, by simpa using h2, fun j hj => ?_⟩
    rw [h3 j (by simp at hj; omega), Array.getElem?_setIfInBounds_ne (by simp at hj; omega)]

theorem Wrote.kept {b lo hi : Nat} (h : Wrote b lo hi w w') {own : Nat → Prop} (hb : own b) : Kept own w w' :=
  ⟨h.os, h.tape, h.output, by rw [h.size]; exact Nat.le_refl _, fun k _ hk => h.other k (fun e => by subst e; exact hk hb)⟩

theorem lay_get {zs cs : List CV} {o : Nat} (h : o + cs.length ≤ zs.length) (j : Nat) : (lay zs o cs)[j]? = if o ≤ j ∧ j < o + cs.length then cs[j - o]? else zs[j]? := by
  simp only [lay]
  by_cases h1 : j < o
  · rw [if_neg (by omega), List.append_assoc, List.getElem?_append_left (by simp; omega), List.getElem?_take_of_lt h1]
  · by_cases h2 : j < o + cs.length
    · rw [if_pos (by omega), List.append_assoc, List.getElem?_append_right (by simp; omega), List.getElem?_append_left (by simp; omega)]
      congr 1; simp; omega
    · rw [if_neg (by omega), List.append_assoc, List.getElem?_append_right (by simp; omega), List.getElem?_append_right (by simp; omega), List.getElem?_drop]
      congr 1; simp; omega

theorem lay_length {zs cs : List CV} {o : Nat} (h : o + cs.length ≤ zs.length) : (lay zs o cs).length = zs.length := by simp [lay]; omega

def St.upd (st : St) (nm : Nat) (b : Blk) : St := { st with heap := fun k => if k = nm then some b else st.heap k }

/-- A name's block turned, where it stands. -/
theorem R.turn (hR : R cx G st a w) {nm : Nat} {blk blk' : Blk} (hb : st.heap nm = some blk) (hk : Kept (fun b => G.reg nm b) w w') (hsz : w'.heap.size = w.heap.size) (hB : BlkR G w' nm blk') : R cx G (st.upd nm blk') a w' := by
  refine hR.change (fun b => G.reg nm b) (fun k => k = nm) (fun b h => ⟨nm, blk, rfl, hb, h⟩) hk (fun _ _ _ => rfl) (fun b hb' => hR.hwNew b (by omega)) ?_ (fun k h => absurd rfl h) ?_ ?_ (fun t h => slot_move hR (own := fun b => G.reg nm b) (fun b h => (hR.reg nm blk b hb h).1) hk (fun _ _ _ => rfl) h (fun _ _ => rfl)) (fun _ _ => rfl) hR.tmps hR.defers
  · intro k b hD hb'
    simp only [St.upd, if_neg hD] at hb'
    exact ⟨hb', rfl, fun _ => Iff.rfl⟩
  · intro k b hD hb'
    subst hD
    simp only [St.upd, if_pos] at hb'
    obtain rfl := Option.some.inj hb'
    exact ⟨hB, fun j hj => ⟨(hR.reg k blk j hb hj).1, by rw [hsz]; exact (hR.reg k blk j hb hj).2.2, .inl hj⟩⟩
  · intro k k' b b' j h1 h2 _ _ _ _
    exact h1.trans h2.symm

/-- Trees stand where only a name's blocks turned. -/
theorem tree_move (hR : R cx G st a w) {nm : Nat} {blk : Blk} (hb : st.heap nm = some blk) (hk : Kept (fun b => G.reg nm b) w w') {v : TV} {y : Value} (h : TVR G.hw w v y) : TVR G.hw w' v y :=
  h.mono (fun _ => Nat.le_refl _) fun b j u hj hu => by
    rw [World.cell?_of_block (w := w) (hk.block b (cell_lt hu) (fun ho => by rw [(hR.reg nm blk b hb ho).1] at hj; omega)), hu]

/-- Cells of a name's block written. -/
theorem R.store (hR : R cx G st a w) {nm i o sz : Nat} {rows : List (List CV)} (hb : st.heap nm = some (.cells sz rows)) {row : List CV} (hi : rows[i]? = some row) {cs : List CV} {vs : List Value} (hle : o + cs.length ≤ row.length) (hv : All2 (CVR G.toMk w Emp) cs vs) {p : PH} (hp : G.ph nm = some p) :
    R cx G (st.upd nm (.cells sz (rows.set i (lay row o cs)))) a (w.setCells p.b (p.o + (i * p.sz + o)) vs) := by
  have hB := hR.heap nm _ hb
  simp only [BlkR, hp] at hB
  obtain ⟨h1, h2, h3, h4, h5, bcs, el, h6, h7, h8, g, g1, g2, g3⟩ := hB
  have hlen := hv.length
  have hrl := h4 row (List.mem_of_getElem? hi)
  have hil := (List.getElem?_eq_some_iff.1 hi).1
  have hw := Wrote.cells p.b vs (p.o + (i * p.sz + o)) w
  have hk : Kept (fun b => G.reg nm b) w (w.setCells p.b (p.o + (i * p.sz + o)) vs) := hw.kept h5
  refine hR.turn hb hk hw.size ?_
  obtain ⟨cs', q1, q2, q3⟩ := hw.block bcs el _ h6
  have hmv : ∀ (S : Nat → Prop) (c : CV) (x : Value), (∀ k, S k → k ≠ p.b) → CVR G.toMk w S c x → CVR G.toMk (w.setCells p.b (p.o + (i * p.sz + o)) vs) S c x := fun S c x hS h => CVR.move h (fun v y h => tree_move hR hb hk h) (fun k hk' => hw.other k (hS k hk')) (fun _ _ => rfl)
  have hin := World.cell?_setCells_in p.b vs (p.o + (i * p.sz + o)) w (by
    intro j' hj'
    simp only [World.cell?, h6]
    have := row_lt (j := o + j') hil (show o + j' < sz by omega)
    rw [h1]
    simp
    omega)
  have hcs : ∀ j' x, (w.setCells p.b (p.o + (i * p.sz + o)) vs).cell? ⟨p.b, j', none⟩ = some x → cs'[j']? = some x := by
    intro j' x hx
    simp only [World.cell?, q1] at hx
    simpa using hx
  simp only [BlkR, hp]
  refine ⟨h1, by simpa using h2, h3, ?_, h5, cs', el, q1, by rw [q2, h7], by simpa using h8, fun i' j' k => g i' j' k ∧ ¬ (i' = i ∧ o ≤ j' ∧ j' < o + cs.length), fun i' j' k hk' => g1 i' j' k hk'.1, fun i1 j1 i2 j2 k ha hb' => g2 i1 j1 i2 j2 k ha.1 hb'.1, ?_⟩
  · intro r hr
    rcases List.mem_or_eq_of_mem_set hr with hr | rfl
    · exact h4 r hr
    · rw [lay_length hle, hrl]
  · intro i' r j c hi' hj
    by_cases hii : i' = i
    · subst hii
      rw [List.getElem?_set_self hil] at hi'
      obtain rfl := Option.some.inj hi'
      rw [lay_get hle] at hj
      by_cases hjj : o ≤ j ∧ j < o + cs.length
      · rw [if_pos hjj] at hj
        have hjv : j - o < vs.length := by omega
        obtain ⟨x, e1, e2⟩ := hv.get _ _ hj
        refine ⟨x, hcs _ _ ?_, (hmv Emp c x (fun _ h => h.elim) e2).wide fun _ h => h.elim⟩
        have := hin (j - o) hjv
        rw [List.getElem?_eq_getElem hjv] at e1
        rw [← Option.some.inj e1, ← this]
        congr 2
        rw [h1]; omega
      · rw [if_neg hjj] at hj
        obtain ⟨x, e1, e2⟩ := g3 i' row j c hi hj
        refine ⟨x, ?_, (hmv _ c x (fun k hk' => (g1 _ _ k hk').2) e2).wide fun k hk' => ⟨hk', fun h => hjj h.2⟩⟩
        rw [q3 _ (by rw [h1]; omega)]
        exact e1
    · rw [List.getElem?_set_ne (Ne.symm hii)] at hi'
      obtain ⟨x, e1, e2⟩ := g3 i' r j c hi' hj
      have hjl := (List.getElem?_eq_some_iff.1 hj).1
      rw [h4 r (List.mem_of_getElem? hi')] at hjl
      refine ⟨x, ?_, (hmv _ c x (fun k hk' => (g1 _ _ k hk').2) e2).wide fun k hk' => ⟨hk', fun h => hii h.1⟩⟩
      rw [q3 _ ?_]
      · exact e1
      · rw [h1]
        rcases Nat.lt_or_ge i' i with hlt | hge
        · have := Nat.mul_le_mul_right sz (show i' + 1 ≤ i by omega)
          rw [Nat.succ_mul] at this
          left; omega
        · have := Nat.mul_le_mul_right sz (show i + 1 ≤ i' by omega)
          rw [Nat.succ_mul] at this
          right; omega

/-- The rows of cells laid side by side. -/
def chunk (sz : Nat) : Nat → List CV → List (List CV)
  | 0, _ => []
  | k + 1, cs => cs.take sz :: chunk sz k (cs.drop sz)

theorem chunk_spec (sz : Nat) : ∀ (k : Nat) (cs : List CV), cs.length = k * sz → (chunk sz k cs).length = k ∧ (∀ r ∈ chunk sz k cs, r.length = sz) ∧ ∀ i r j v, (chunk sz k cs)[i]? = some r → r[j]? = some v → cs[i * sz + j]? = some v
  | 0, cs, _ => ⟨rfl, by simp [chunk], by simp [chunk]⟩
  | k + 1, cs, h => by
    have hl : (cs.drop sz).length = k * sz := by rw [List.length_drop, h, Nat.succ_mul]; omega
    obtain ⟨h1, h2, h3⟩ := chunk_spec sz k (cs.drop sz) hl
    have hsz : sz ≤ cs.length := by rw [h, Nat.succ_mul]; omega
    refine ⟨by simp [chunk, h1], ?_, ?_⟩
    · intro r hr
      simp only [chunk, List.mem_cons] at hr
      rcases hr with rfl | hr
      · simp; omega
      · exact h2 r hr
    · intro i r j v hi hj
      cases i with
      | zero =>
        simp only [chunk, List.getElem?_cons_zero, Option.some.injEq] at hi
        subst hi
        have hjl := (List.getElem?_eq_some_iff.1 hj).1
        simp at hjl
        rw [List.getElem?_take_of_lt (by omega)] at hj
        simpa using hj
      | succ i =>
        simp only [chunk, List.getElem?_cons_succ] at hi
        have q1 := h3 i r j v hi hj
        rw [List.getElem?_drop] at q1
        rw [show (i + 1) * sz + j = sz + (i * sz + j) by rw [Nat.succ_mul]; omega]; exact q1

theorem zeros_get (z : Array Value) (m k : Nat) (hz : 0 < z.size) (hk : k < m * z.size) : ((Array.range (m * z.size)).map (z[· % z.size]!))[k]? = z[k % z.size]? := by
  have hlt : k % z.size < z.size := Nat.mod_lt _ hz
  simp [hk, Array.getElem?_eq_getElem hlt, getElem!_pos z (k % z.size) hlt]

theorem flat_get {α : Type} (zs : List α) (h0 : 0 < zs.length) : ∀ (m k : Nat), k < m * zs.length → (List.replicate m zs).flatten[k]? = zs[k % zs.length]?
  | 0, k, h => by simp at h
  | m + 1, k, h => by
    rw [List.replicate_succ, List.flatten_cons]
    by_cases hk : k < zs.length
    · rw [List.getElem?_append_left hk, Nat.mod_eq_of_lt hk]
    · rw [List.getElem?_append_right (by omega), flat_get zs h0 m (k - zs.length) (by rw [Nat.succ_mul] at h; omega)]
      congr 1
      rw [Nat.mod_eq_sub_mod (show k ≥ zs.length by omega)]

theorem layParts_length {place : Nat → Option (Nat × Nat)} {get : Operand → SV} : ∀ (ps : List (Nat × Operand)) (zs cs : List CV), layParts T place get zs ps = some cs → cs.length = zs.length
  | [], zs, cs, h => by simp only [layParts, Option.some.injEq] at h; rw [h]
  | p :: ps, zs, cs, h => by
    obtain ⟨i, x⟩ := p
    simp only [layParts] at h
    split at h
    · split at h
      · rename_i hle
        rw [layParts_length ps _ _ h, lay_length (by omega)]
      · cases h
    · cases h

theorem buildSlice_ok (hT : TOk P T) (hR : R cx G st a w) {o : Oper} {t e : TypeId} {len : Nat} {parts : Array (Nat × Operand)} (ho : o.op = .buildSlice t len parts) {ti te : TI} (ht : T t = some ti) (hk : ti.k = .slice e) (he : T e = some te) (h0 : 0 < te.size) (hl0 : 0 < len)
    (hbig : len * te.size ≤ 16777216) {cs : List CV} (hcs : layParts T (fun i => some (i * te.size, te.size)) (rd T st e) ((List.replicate len te.zero).flatten) parts.toList = some cs) {K : St → Prop} {Q : Exit → Act → World → Prop}
    (h : nameK cx.n o.dst (.cells te.size (chunk te.size len cs)) (fun d => .c (.mr d 0 len)) K st) : o.wp P a w (Post cx K) Q := by
  obtain ⟨info, z, hi, hsz, hby, hz, hzr, _⟩ := (hT _ _ he).info
  have hu := kind_slice hT ht hk
  have hzl := All2.toList hzr
  rw [(hT _ _ he).zlen] at hzl
  have hzr' : All2 (CVR G.toMk w Emp) te.zero z.cells.toList := hzr.mono fun _ _ => zero_cv
  have hfl : ((List.replicate len te.zero).flatten).length = len * te.size := by simp [(hT _ _ he).zlen]
  have hbase : All2 (CVR G.toMk w Emp) ((List.replicate len te.zero).flatten) ((Array.range (len * info.size)).map (z.cells[· % z.cells.size]!)).toList := by
    refine All2.of_get (by simp [(hT _ _ he).zlen, hsz]) (fun i c x hc hx => ?_)
    have hil := (List.getElem?_eq_some_iff.1 hc).1
    rw [hfl] at hil
    rw [flat_get te.zero (by rw [(hT _ _ he).zlen]; exact h0) len i (by rw [(hT _ _ he).zlen]; exact hil), (hT _ _ he).zlen] at hc
    rw [hsz, hzl, Array.getElem?_toList, zeros_get z.cells len i (by omega) (by rw [← hzl]; exact hil), ← hzl] at hx
    obtain ⟨y, q1, q2⟩ := hzr'.get _ _ hc
    rw [Array.getElem?_toList, hx] at q1
    exact Option.some.inj q1 ▸ q2
  obtain ⟨B, hB, hRB⟩ := fill_lay' (place' := fun i => some (i * info.size, info.size)) (ρ := a.eval) (fun i x hx => by rw [hsz]; exact hx) parts.toList (fun x _ cs hc => cells_q (rd_q (T := T) hR e x.2) hc) _ cs _ hbase hcs
  have hrun := run_buildSlice (P := P) w t e len (parts.map fun (i, x) => (i, a.eval x)) B info z hu hi hz (by rw [hsz]; omega) (by rw [hsz]; exact Nat.pos_iff_ne_zero.1 (Nat.mul_pos hl0 h0)) (by rw [← hB]; congr 1; simp)
  have hBl := All2.toList hRB
  have hcl : cs.length = len * te.size := by rw [layParts_length _ _ _ hcs, hfl]
  obtain ⟨c1, c2, c3⟩ := chunk_spec te.size len cs hcl
  refine Oper.wp_value (by simp only [execOp, ho]; exact run_value' _ _ _ _ hrun) ?_
  refine nameCells_ok hR h (.inl rfl) h0 c2 (by rw [c1]; omega) (fun i r j c hi' hj => ?_) (fun d M hph => ?_)
  · obtain ⟨u, p1, p2⟩ := hRB.get _ _ (c3 i r j c hi' hj)
    exact ⟨u, by simpa using p1, p2⟩
  · have := CVR.mr (M := M) (w := w.alloc (.cells B e (0, 0))) (S := Emp) d 0 len len _ hph (by simp [c1]) (Nat.le_refl _) (by simp [c1]) (by simp [← hBl, hcl])
    show CVR M _ Emp _ _
    simpa using this

theorem buildSlice0_ok (hT : TOk P T) (hR : R cx G st a w) {o : Oper} {t e : TypeId} {parts : Array (Nat × Operand)} (ho : o.op = .buildSlice t 0 parts) {ti te : TI} (ht : T t = some ti) (hk : ti.k = .slice e) (he : T e = some te) (h0 : 0 < te.size) (hp : parts.toList = []) {K : St → Prop} {Q : Exit → Act → World → Prop}
    (h : nameK cx.n o.dst (.cells te.size []) (fun d => .c (.mr d 0 0)) K st) : o.wp P a w (Post cx K) Q := by
  obtain ⟨info, z, hi, hsz, hby, hz, hzr, _⟩ := (hT _ _ he).info
  have hu := kind_slice hT ht hk
  obtain rfl : parts = #[] := by simpa using hp
  have hrun : (Instr.buildSlice t 0 #[]).run P w = .ok (.slice (some ⟨w.heap.size, 0, none⟩) 0 0) (w.alloc (.cells #[] e (0, 0))) := by
    simp [Instr.buildSlice, run_under hu, sizeOf, typeInfo, hi, newRow, Instr.fill]
    rw [show Array.range 0 = #[] from by simp]
    simp
  refine Oper.wp_value (by simp only [execOp, ho]; exact run_value' _ _ _ _ (by simpa using hrun)) ?_
  refine nameCells_ok hR h (.inl rfl) h0 (fun r hr => by cases hr) (by simp) (fun i r j c hi' hj => by simp at hi') (fun d M hph => ?_)
  exact CVR.mr0 _ _ _

theorem makeSlice_ok (hT : TOk P T) (hR : R cx G st a w) {o : Oper} {t e : TypeId} {l c : Operand} (ho : o.op = .makeSlice t l c) {ti te : TI} (ht : T t = some ti) (hk : ti.k = .slice e) (he : T e = some te) {k k' : IntKind} {m : Int} (hl : rd T st 0 l = .c (.t (.int k m))) (hc : rd T st 0 c = .c (.t (.int k' m)))
    (h0 : 0 < te.size) (hm : 0 ≤ m) (hmx : m ≤ 9223372036854775807) (hb : m * te.bytes ≤ 140737488355328) {K : St → Prop} {X : Exit → Act → World → Prop}
    (h : nameK cx.n o.dst (.cells te.size (List.replicate m.toNat te.zero)) (fun d => .c (.mr d 0 m.toNat)) K st) : o.wp P a w (Post cx K) X := by
  obtain ⟨info, z, hi, hsz, hby, hz, hzr, _⟩ := (hT _ _ he).info
  have hu := kind_slice hT ht hk
  have hzl := All2.toList hzr
  rw [(hT _ _ he).zlen] at hzl
  have hzr' : All2 (CVR G.toMk w Emp) te.zero z.cells.toList := hzr.mono fun _ _ => zero_cv
  have e1 := rd_int hR hl
  have e2 := rd_int hR hc
  have hwrap : IntKind.i64.wrap m = m := IntWalk.i64_in m ⟨by omega, hmx⟩
  have hb2 : ¬ ((te.bytes : Int) * m > 2 ^ 48) := by rw [Int.mul_comm]; omega
  have hrun : (Instr.makeSlice t (.int k m) (.int k' m)).run P w = .ok (.slice (some ⟨w.heap.size, 0, none⟩) m.toNat m.toNat) (w.alloc (.cells ((Array.range (m.toNat * te.size)).map (z.cells[· % z.cells.size]!)) e (0, 0))) := by
    by_cases hz0 : m.toNat * te.size = 0
    · have hm0 : m = 0 := by
        rcases Nat.mul_eq_zero.1 hz0 with h | h <;> omega
      subst hm0
      simp [Instr.makeSlice, run_under hu, typeInfo, hi, asInt, asIntOf, hwrap, hby, sizeOf, hsz, newRow]
      rw [show Array.range 0 = #[] from by simp]
      simp
    · simp [Instr.makeSlice, run_under hu, typeInfo, hi, asInt, asIntOf, hwrap, hby, hb2, hm, sizeOf, hsz, newRow, zeroValue, hz, hz0]
      intro hx
      exfalso
      have : (2 : Int) ^ 48 = 281474976710656 := by decide
      omega
  refine Oper.wp_value (by simp only [execOp, ho]; exact run_value' _ _ _ _ (by rw [e1, e2]; exact hrun)) ?_
  refine nameCells_ok hR h (.inl rfl) h0 (fun r hr => ?_) (by simp) ?_ (fun d M hph => ?_)
  · obtain ⟨_, rfl⟩ := List.mem_replicate.1 hr
    exact (hT _ _ he).zlen
  · intro i r j c' hi' hj
    have hil := (List.getElem?_eq_some_iff.1 hi').1
    simp only [List.length_replicate] at hil
    rw [List.getElem?_replicate, if_pos hil] at hi'
    obtain rfl := Option.some.inj hi'
    have hjl := (List.getElem?_eq_some_iff.1 hj).1
    rw [(hT _ _ he).zlen] at hjl
    obtain ⟨x, q1, q2⟩ := hzr'.get _ _ hj
    refine ⟨x, ?_, q2⟩
    have hlt := row_lt hil hjl
    have := zeros_get z.cells m.toNat (i * te.size + j) (by omega) (by rw [← hzl]; exact hlt)
    rw [← hzl] at this
    rw [← hzl, this]
    rw [show (i * te.size + j) % te.size = j by rw [Nat.add_comm, Nat.add_mul_mod_self_right, Nat.mod_eq_of_lt hjl]]
    simpa using q1
  · have := CVR.mr (M := M) (w := w.alloc (.cells ((Array.range (m.toNat * te.size)).map (z.cells[· % z.cells.size]!)) e (0, 0))) (S := Emp) d 0 m.toNat m.toNat _ hph (by simp) (Nat.le_refl _) (by simp) (by simp)
    show CVR M _ Emp _ _
    simpa using this

/-- A struct's or a variable's place, new. -/
theorem newVar_ok (hR : R cx G st a w) {o : Oper} {el : TypeId} {cs : List CV} {x : Value} (hcs : All2 (CVR G.toMk w Emp) cs x.cells.toList) (h0 : 0 < cs.length) {K : St → Prop} {X : Exit → Act → World → Prop}
    (hrun : (execOp a.eval o).run P w = .ok (.value (.pointer (some ⟨w.heap.size, 0, none⟩))) (w.alloc (.cells x.cells el (0, 0)))) (h : nameK cx.n o.dst (.cells cs.length [cs]) (fun d => .c (.mp d 0 0)) K st) : o.wp P a w (Post cx K) X := by
  have hl := All2.toList hcs
  refine Oper.wp_value hrun ?_
  refine nameCells_ok hR h (.inl rfl) h0 (fun r hr => by simp at hr; rw [hr]) (by simp; omega) (fun i r j c hi hj => ?_) (fun d M hph => ?_)
  · cases i with
    | zero =>
      simp only [List.getElem?_cons_zero, Option.some.injEq] at hi
      subst hi
      obtain ⟨u, h1, h2⟩ := hcs.get _ _ hj
      exact ⟨u, by simpa using h1, h2⟩
    | succ i => simp at hi
  · have := CVR.mp (M := M) (w := w.alloc (.cells x.cells el (0, 0))) (S := Emp) d 0 0 _ hph
    show CVR M _ Emp _ _
    simpa using this
end
end Go.Proofs.Ytgmjgognpabmdaa.Fx
