import Derived.Test.YteoddaeipckgcaaEv10
namespace Go.Proofs.Yteoddaeipckgcaa.Ev
open Go Go.RowKit
set_option linter.unusedSimpArgs false
set_option linter.unusedVariables false
variable {P : Program} {T : TypeId → Option TI}

abbrev Env := FuncId → List AV → List AV → Prop

/-- What is known of a function's walk beside its text: how many slots; at which slots a list comes with the room behind it (1), or is told as one that stays as it is (2). -/
structure Hint where
  n : Nat
  tk : Nat → Nat

def putK (n : Nat) (dst : Option Nat) (sv : SV) (K : St → Prop) (st : St) : Prop :=
  match dst with
  | some d => if d < n then K (st.put d sv) else False
  | none => K st

def nameK (n : Nat) (dst : Option Nat) (blk : Blk) (sv : Nat → SV) (K : St → Prop) (st : St) : Prop :=
  match dst with
  | some d => if d < n then (∀ t, t ≠ d → (st.slots t).refs d = false) ∧ K ((st.name d blk).put d (sv d)) else False
  | none => False

/-- The rows of cells laid side by side. -/
def chunk (sz : Nat) : Nat → List CV → List (List TV)
  | 0, _ => []
  | k + 1, cs => (cs.take sz).map CV.tv :: chunk sz k (cs.drop sz)

/-- A list with the room behind it, as an append takes it: where it lies, and what it holds. -/
def ownOf (T : TypeId → Option TI) (st : St) (ty : TypeId) : Operand → Option (Option Nat × Nat × List (List TV))
  | .tmp s => match st.slots s with
    | .c (.own sz rows) => some (some s, sz, rows)
    | _ => none
  | .const v => match rety T ty (cst v) with
    | .c (.own sz rows) => match rows with
      | [] => some (none, sz, [])
      | _ => none
    | _ => none
  | _ => none

def listOf : SV → Option (Nat × List (List TV))
  | .c (.t (.sl sz rows)) => some (sz, rows)
  | .c (.own sz rows) => some (sz, rows)
  | _ => none

def St.dropO (st : St) : Option Nat → St
  | some s => st.dropSlot s
  | none => st

def appendK (T : TypeId → Option TI) (n : Nat) (dst : Option Nat) (x y : Operand) (t t2 : TypeId) (K : St → Prop) (st : St) : Prop :=
  match T t, T t2 with
  | some ti, some ti2 => match ti.k, ti2.k with
    | .slice e, .slice _ => match T e, ownOf T st t x, listOf (rd T st t2 y), dst with
      | some te, some (s, sz, rows), some (sz2, ys), some d =>
        if sz = te.size ∧ sz2 = te.size ∧ d < n then
          ((rows.length + ys.length) * te.bytes ≤ 140737488355328 ∧ rows.length + ys.length ≤ 9223372036854775807) ∧
            K ((st.dropO s).put d (.c (.own te.size (rows ++ ys))))
        else False
      | _, _, _, _ => False
    | _, _ => False
  | _, _ => False

def callK (E : Env) (T : TypeId → Option TI) (n : Nat) (dst : Option Nat) (f : FuncId) (args : List Operand) (types : List TypeId) (K : St → Prop) (st : St) : Prop :=
  match argsOf T st args types with
  | some vs => ∃ res, E f vs res ∧ (anyMr T st args types = true → res.all AV.flat = true) ∧ putK n dst (resSV res) K st
  | none => False

def St.upd (st : St) (nm : Nat) (b : Blk) : St := { st with heap := fun k => if k = nm then some b else st.heap k }

def wpOp (E : Env) (T : TypeId → Option TI) (h : Hint) (o : Oper) (K : St → Prop) (st : St) : Prop :=
  match o.op with
  | .alloc t => match T t with
    | some ti => if 0 < ti.zero.length then nameK h.n o.dst ⟨ti.zero.length, [ti.zero]⟩ (.mp · 0 0) K st else False
    | none => False
  | .box t x => match cells (rd T st t x) with
    | some cs => if 0 < cs.length then nameK h.n o.dst ⟨cs.length, [cs]⟩ (.mp · 0 0) K st else False
    | none => False
  | .makeSlice t l c => match T t, rd T st 0 l, rd T st 0 c with
    | some ti, .c (.t (.int _ m)), .c (.t (.int _ m')) => match ti.k with
      | .slice e => match T e with
        | some te => if m = m' ∧ 0 < te.size then (0 ≤ m ∧ m ≤ 9223372036854775807 ∧ m * te.bytes ≤ 140737488355328) ∧ nameK h.n o.dst ⟨te.size, List.replicate m.toNat te.zero⟩ (.mr · 0 m.toNat) K st else False
        | none => False
      | _ => False
    | _, _, _ => False
  | .buildSlice t len parts => match T t with
    | some ti => match ti.k with
      | .slice e => match T e with
        | some te => if 0 < te.size ∧ 0 < len ∧ len * te.size ≤ 16777216 then
            match layParts T (fun i => some (i * te.size, te.size)) (rd T st e) ((List.replicate len te.zero).flatten) parts.toList with
            | some cs => putK h.n o.dst (.c (.own te.size (chunk te.size len cs))) K st
            | none => False
            else False
        | none => False
      | _ => False
    | none => False
  | .store t x v => match T t, rd T st 0 x, cells (rd T st t v) with
    | some ti, .mp nm i o0, some cs => match st.heap nm with
      | some blk => match blk.rows[i]? with
        | some row => if o.dst = none ∧ cs.length = ti.size ∧ o0 + cs.length ≤ row.length then
            (match v, ti.k with
              | .tmp s, .slice _ => match st.slots s with
                | .c c => K ((st.dropSlot s).upd nm (blk.set i o0 [c]))
                | _ => False
              | _, _ => K (st.upd nm (blk.set i o0 cs)))
            else False
        | none => False
      | none => False
    | _, _, _ => False
  | .move (.tmp s) => match o.dst with
    | some d => if h.tk d = 1 then (match st.slots s with
        | .c c => if d < h.n then K ((st.dropSlot s).put d (.c c)) else False
        | _ => False) else match quiet T st o with
          | some sv => putK h.n o.dst sv K st
          | none => False
    | none => K st
  | .assign (.tmp s) => match o.dst with
    | some d => if h.tk d = 1 then (match st.slots s with
        | .c c => if d < h.n then K ((st.dropSlot s).put d (.c c)) else False
        | _ => False) else match quiet T st o with
          | some sv => putK h.n o.dst sv K st
          | none => False
    | none => K st
  | .load t x => match o.dst with
    | some d => if h.tk d = 1 then (match T t, rd T st 0 x with
        | some ti, .mp nm i o0 => match st.heap nm with
          | some blk => match blk.rows[i]? with
            | some row => match row[o0]? with
              | some c => if d < h.n ∧ ti.k.isAgg = false then K ((st.upd nm (blk.set i o0 [.t c.tv])).put d (.c c)) else False
              | none => False
            | none => False
          | none => False
        | _, _ => False) else match quiet T st o with
          | some sv => putK h.n o.dst sv K st
          | none => False
    | none => False
  | .call c => match c.callee with
    | .value (.func f) => callK E T h.n o.dst f c.args.toList c.argTypes.toList K st
    | .builtin .append => match c.args.toList, c.argTypes.toList with
      | [x, y], [t, t2] => appendK T h.n o.dst x y t t2 K st
      | _, _ => False
    | _ => match quiet T st o with
      | some sv => putK h.n o.dst sv K st
      | none => False
  | _ => match quiet T st o with
    | some sv => putK h.n o.dst sv K st
    | none => False

/-- What holds of the frame and the world where K holds of the state. -/
def Post (n : Nat) (w0 : World) (hw0 : Nat → Nat) (K : St → Prop) : Act → World → Prop := fun a w => ∃ G st, R n w0 hw0 G st a w ∧ K st

section
variable {n : Nat} {w0 : World} {hw0 : Nat → Nat} {G : Gh} {st : St} {a : Act} {w : World} {E : Env}

theorem Oper.wp_value {o : Oper} {K : Act → World → Prop} {Q : Exit → Act → World → Prop} {v : Value} {w' : World} (h : (execOp a.eval o).run P w = .ok (.value v) w') (hK : K (a.put o.dst v) w') : o.wp P a w K Q := by
  unfold Oper.wp
  rw [h]
  exact hK

theorem Oper.wp_skip {o : Oper} {K : Act → World → Prop} {Q : Exit → Act → World → Prop} {w' : World} (h : (execOp a.eval o).run P w = .ok .skip w') (hK : K (a.put o.dst undef) w') : o.wp P a w K Q := by
  unfold Oper.wp
  rw [h]
  exact hK

theorem putK_ok (hR : R n w0 hw0 G st a w) {dst : Option Nat} {sv : SV} {x : Value} (hq : Q G w w0.heap.size st.heap sv x) {K : St → Prop} (h : putK n dst sv K st) : Post n w0 hw0 K (a.put dst x) w := by
  cases dst with
  | none => exact ⟨G, st, hR, h⟩
  | some d =>
    simp only [putK] at h
    split at h
    · rename_i hd
      exact ⟨G, _, hR.put hd (hq d), h⟩
    · exact h.elim

theorem quietK_ok (hT : TOk P T) (hR : R n w0 hw0 G st a w) {o : Oper} {K : St → Prop} {Q : Exit → Act → World → Prop} (h : match quiet T st o with | some sv => putK n o.dst sv K st | none => False) : o.wp P a w (Post n w0 hw0 K) Q := by
  split at h
  · rename_i sv hsv
    obtain ⟨x, hx, hq⟩ := quiet_ok hT hR hsv
    exact Oper.wp_value hx (putK_ok hR hq h)
  · exact h.elim

/-- A new block of cells, with a name. -/
theorem nameK_ok (hR : R n w0 hw0 G st a w) {dst : Option Nat} {blk : Blk} {sv : Nat → SV} {K : St → Prop} (h : nameK n dst blk sv K st) {cs : Array Value} {el : TypeId} (hsz : 0 < blk.sz) (hrows : ∀ r ∈ blk.rows, r.length = blk.sz)
    (hfit : blk.rows.length * blk.sz ≤ cs.size) (hcell : ∀ i r j c, blk.rows[i]? = some r → r[j]? = some c → ∃ x, cs[i * blk.sz + j]? = some x ∧ AggR G.hw w c x) {x : Value}
    (hx : ∀ d G', (∀ k, (G'.ph k) = if k = d then (w.heap.size, 0) else G.ph k) → SVR G' (w.alloc (.cells cs el (0, 0))) w0.heap.size (fun k => if k = d then some blk else st.heap k) d (sv d) x) :
    Post n w0 hw0 K (a.put dst x) (w.alloc (.cells cs el (0, 0))) := by
  cases dst with
  | none => exact h.elim
  | some d =>
    simp only [nameK] at h
    split at h
    · rename_i hd
      replace h := h.2
      have hbel : Below w.heap.size w (w.alloc (.cells cs el (0, 0))) := (Below.refl _ _).alloc (Nat.le_refl _) _
      have hg : Grew G G st w (w.alloc (.cells cs el (0, 0))) := ⟨hbel, fun _ _ => rfl, fun k hk => hR.hwNew k (by simp only [World.size_alloc] at hk; omega), fun _ _ _ => rfl, fun _ _ => rfl⟩
      have hR1 := hR.grow hg
      have hh : (w.alloc (.cells cs el (0, 0))).heap[w.heap.size]? = some (.cells cs el (0, 0)) := by
        show (w.heap.push _)[w.heap.size]? = _
        simp
      have hR2 := hR1.name (nm := d) hh (hR.hwNew _ (Nat.le_refl _)) hR.below.size hsz hrows hfit (fun nm' blk' hb' => by
        obtain ⟨cs, el, g1, _⟩ := hR.heap nm' blk' hb'
        have := block_lt g1
        omega) (fun i r j c hi hj => by
        obtain ⟨x, q1, q2⟩ := hcell i r j c hi hj
        exact ⟨x, q1, AggR.move (fun v y h => h.mono (fun _ => Nat.le_refl _) fun b j u _ hu => by rw [World.cell?_of_block (w := w) (hbel.block b (cell_lt hu)), hu]) q2⟩)
      exact ⟨_, _, hR2.put hd (hx d _ (fun _ => rfl)), h⟩
    · exact h.elim
end
end Go.Proofs.Yteoddaeipckgcaa.Ev
