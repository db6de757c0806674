/- The evaluator's second make: steps, and code. -/
import Derived.Test.YtgmjgognpabmdaaFx10
namespace Go.Proofs.Ytgmjgognpabmdaa.Fx
open Go Go.RowKit
set_option linter.unusedSimpArgs false
set_option linter.unusedVariables false
variable {P : Program} {T : TypeId → Option TI} {w w' : World}

/-- What an operation does to a state. -/
inductive Ef where
  | put (sv : SV)
  | name (blk : Blk) (sv : Nat → SV)
  | give (nm : Option Nat) (blk : Blk) (sv : Nat → SV)
  | upd (nm : Nat) (blk : Blk)

def giveK (n : Nat) (dst : Option Nat) (nm : Option Nat) (blk : Blk) (sv : Nat → SV) (K : St → Prop) (st : St) : Prop :=
  match dst with
  | some d => if d < n then Fresh2 st nm d ∧ blk.has d = false ∧ K ((st.give nm d blk).put d (sv d)) else False
  | none => False

/-- What is asked of a state's step. -/
def runE (n : Nat) (dst : Option Nat) (K : St → Prop) (st : St) : Ef → Prop
  | .put sv => putK n dst sv K st
  | .name blk sv => nameK n dst blk sv K st
  | .give nm blk sv => giveK n dst nm blk sv K st
  | .upd nm blk => dst = none ∧ K (st.upd nm blk)

def appendE (T : TypeId → Option TI) (x y : Operand) (t t2 : TypeId) (R : Ef → Prop) (st : St) : Prop :=
  match T t, T t2 with
  | some ti, some ti2 => match ti.k, ti2.k with
    | .slice e, .slice _ => match T e, baseOf st (rd T st t x), srcOf st (rd T st t2 y) with
      | some te, some (nm, sz, rows), some (sz2, ys) =>
        if sz = te.size ∧ sz2 = te.size then
          ((rows.length + ys.length) * te.bytes ≤ 140737488355328 ∧ rows.length + ys.length ≤ 9223372036854775807) ∧ R (.give nm (.cells te.size (rows ++ ys)) (fun d => .c (.mr d 0 (rows ++ ys).length)))
        else False
      | _, _, _ => False
    | _, _ => False
  | _, _ => False

/-- Two names, one for the other. -/
def sw (a b : Nat) : Nat → Nat := fun k => if k = a then b else if k = b then a else k
theorem sw_left (a b : Nat) : sw a b a = b := by simp [sw]
theorem sw_right (a b : Nat) : sw a b b = a := by unfold sw; split <;> simp_all
theorem sw_sw (a b k : Nat) : sw a b (sw a b k) = k := by unfold sw; grind
theorem sw_inj {a b x y : Nat} (h : sw a b x = sw a b y) : x = y := by rw [← sw_sw a b x, h, sw_sw]
theorem sw_other {a b k : Nat} (h1 : k ≠ a) (h2 : k ≠ b) : sw a b k = k := by simp [sw, h1, h2]
mutual
theorem ren_none (ρ : Nat → Nat) : ∀ c : CV, (∀ k, c.has k = false) → c.ren ρ = c
  | .t _, _ => rfl
  | .own sz rows, h => by simp only [CV.ren, CV.has] at *; rw [renRows_none ρ rows h]
  | .mr k _ _, h => by have := h k; simp [CV.has] at this
  | .mp k _ _, h => by have := h k; simp [CV.has] at this
  | .mm k, h => by have := h k; simp [CV.has] at this
  | .fnc f a b, h => by
    simp only [CV.ren, CV.has, Bool.or_eq_false_iff] at *
    rw [renL_none ρ a fun k => (h k).1, renL_none ρ b fun k => (h k).2]
  | .ifc _ _ cs, h => by simp only [CV.ren, CV.has] at *; rw [renL_none ρ cs h]
  | .dead, _ => rfl
theorem renL_none (ρ : Nat → Nat) : ∀ l : List CV, (∀ k, hasL k l = false) → renL ρ l = l
  | [], _ => rfl
  | c :: r, h => by
    simp only [renL, hasL, Bool.or_eq_false_iff] at *
    rw [ren_none ρ c fun k => (h k).1, renL_none ρ r fun k => (h k).2]
theorem renRows_none (ρ : Nat → Nat) : ∀ l : List (List CV), (∀ k, hasRows k l = false) → renRows ρ l = l
  | [], _ => rfl
  | c :: r, h => by
    simp only [renRows, hasRows, Bool.or_eq_false_iff] at *
    rw [renL_none ρ c fun k => (h k).1, renRows_none ρ r fun k => (h k).2]
end
theorem called_name {st : St} {nm d : Nat} {sz : Nat} {rows : List (List CV)} (hp : ∀ k, hasRows k rows = false) : st.called (sw nm d) [] [(nm, .cells sz rows)] = st.name d (.cells sz rows) := by
  unfold St.called St.name
  congr 1
  · funext t
    simp only [List.any_cons, List.any_nil, List.map_nil, List.contains_nil, Bool.not_false, Bool.true_and, Bool.or_false, sw_left, SV.kill]
  · funext k
    simp only [hRen, hGet, sw_left, Blk.ren, renRows_none _ rows hp, List.map_nil, List.contains_nil, Bool.false_eq_true, if_false]
    by_cases e : k = d
    · subst e; simp
    · simp [Ne.symm e, e]
theorem av_ren_none (ρ : Nat → Nat) : ∀ v : AV, (∀ k, v.has k = false) → v.ren ρ = v
  | .v c, h => by simp only [AV.ren, ren_none ρ c h]
  | .agg cs, h => by simp only [AV.ren, renL_none ρ cs h]
theorem renA_none (ρ : Nat → Nat) : ∀ vs : List AV, (∀ k, hasA k vs = false) → vs.map (AV.ren ρ) = vs
  | [], _ => rfl
  | v :: vs, h => by
    simp only [hasA, Bool.or_eq_false_iff] at h
    rw [List.map_cons, av_ren_none ρ v fun k => (h k).1, renA_none ρ vs fun k => (h k).2]
/-- Functions whose calls may answer with one new named block within a drawn region. -/
def namedFn (f : Nat) : Bool := f == 14
def namedOp (o : Oper) : Bool :=
  match o.op with
  | .call c => match c.callee with | .value (.func f) => namedFn f | _ => false
  | _ => false
/-- A call without names that answers with one new name. -/
def callN (E : Env) (T : TypeId → Option TI) (cal : Callee) (args : List Operand) (types : List TypeId) (R : Ef → Prop) (st : St) : Prop :=
  match calleeOf T st cal, argsRaw T st args types with
  | some (f, [], []), some vs => (∀ k, hasA k vs = false) ∧ ∃ nm sz rows len, E f vs [] [.v (.mr nm 0 len)] [(nm, .cells sz rows)] ∧ (∀ k, hasRows k rows = false) ∧ R (.name (.cells sz rows) (fun d => .c (.mr d 0 len)))
  | _, _ => False
theorem callN_M {E : Env} {n : Nat} {dst : Option Nat} {cal : Callee} {args : List Operand} {types : List TypeId} {K : St → Prop} {st : St} (h : callN E T cal args types (runE n dst K st) st) : callM E T n dst cal args types K st := by
  unfold callN at h
  split at h
  · rename_i f vs hc ha
    obtain ⟨hno, nm, sz, rows, len, hE, hp, hk⟩ := h
    cases dst with
    | none => exact hk.elim
    | some d =>
      simp only [runE, nameK] at hk
      by_cases hd : d < n
      · rw [if_pos hd] at hk
        obtain ⟨hf, hb, hk⟩ := hk
        unfold callM
        rw [hc, ha]
        refine ⟨sw nm d, vs, [], _, _, hE, by simpa using renA_none (sw nm d) vs hno, ⟨trivial, fun a _ b _ h => sw_inj h, ?_, ?_⟩, ?_⟩
        · intro p hp' _
          rw [List.mem_singleton] at hp'
          subst hp'
          simp only [sw_left]
          refine ⟨hd, fun k blk _ h2 h3 => ?_⟩
          refine hf k blk ?_ h3
          rintro rfl
          simp [sw_left] at h2
        · rintro k (h | ⟨p, h1, h2⟩)
          · simp only [hasA, AV.has, CV.has, Bool.or_false, beq_iff_eq] at h
            simp [h]
          · rw [List.mem_singleton] at h1
            subst h1
            simp only [Blk.has, hp] at h2
            cases h2
        · rw [called_name hp]
          simp only [putK, hd, if_true, List.map_cons, List.map_nil, AV.ren, CV.ren, sw_left, resSV, AV.sv]
          exact hk
      · rw [if_neg hd] at hk; exact hk.elim
  · exact h.elim

def quietE (T : TypeId → Option TI) (o : Oper) (R : Ef → Prop) (st : St) : Prop :=
  match quiet T st o with
  | some sv => R (.put sv)
  | none => False

def storeE (T : TypeId → Option TI) (t : TypeId) (x v : Operand) (R : Ef → Prop) (st : St) : Prop :=
  match T t, rd T st 0 x, cells (rd T st t v) with
  | some ti, .c (.mp nm i o0), some cs => match st.heap nm with
    | some (.cells sz rows) => match rows[i]? with
      | some row => if cs.length = ti.size ∧ o0 + cs.length ≤ row.length ∧ cs.all CV.plain = true then R (.upd nm (.cells sz (rows.set i (lay row o0 cs)))) else False
      | none => False
    | _ => False
  | _, _, _ => False

/-- The step, told by the state. -/
def wpE (E : Env) (T : TypeId → Option TI) (o : Oper) (R : Ef → Prop) (st : St) : Prop :=
  match o.op with
  | .alloc t => match T t with
    | some ti => if 0 < ti.zero.length then R (.name (.cells ti.zero.length [ti.zero]) (fun d => .c (.mp d 0 0))) else False
    | none => False
  | .box t x => match cells (rd T st t x) with
    | some cs => if 0 < cs.length then R (.name (.cells cs.length [cs]) (fun d => .c (.mp d 0 0))) else False
    | none => False
  | .makeSlice t l c => match T t, rd T st 0 l, rd T st 0 c with
    | some ti, .c (.t (.int _ m)), .c (.t (.int _ m')) => match ti.k with
      | .slice e => match T e with
        | some te => if m = m' ∧ 0 < te.size then (0 ≤ m ∧ m ≤ 9223372036854775807 ∧ m * te.bytes ≤ 140737488355328) ∧ R (.name (.cells te.size (List.replicate m.toNat te.zero)) (fun d => .c (.mr d 0 m.toNat))) else False
        | none => False
      | _ => False
    | _, _, _ => False
  | .buildSlice t len parts => match T t with
    | some ti => match ti.k with
      | .slice e => match T e with
        | some te => if 0 < te.size ∧ (0 < len ∨ parts.toList = []) ∧ len * te.size ≤ 16777216 then
            match layParts T (fun i => some (i * te.size, te.size)) (rd T st e) ((List.replicate len te.zero).flatten) parts.toList with
            | some cs => R (.name (.cells te.size (chunk te.size len cs)) (fun d => .c (.mr d 0 len)))
            | none => False
            else False
        | none => False
      | _ => False
    | none => False
  | .store t x v => storeE T t x v R st
  | .call c => match c.callee with
    | .value x => callE E T (.value x) c.args.toList c.argTypes.toList (fun sv => R (.put sv)) st ∨ (namedOp o = true ∧ callN E T (.value x) c.args.toList c.argTypes.toList R st)
    | .invoke x m => callE E T (.invoke x m) c.args.toList c.argTypes.toList (fun sv => R (.put sv)) st
    | .builtin .append => match c.args.toList, c.argTypes.toList with
      | [x, y], [t, t2] => appendE T x y t t2 R st
      | _, _ => False
    | _ => quietE T o R st
  | _ => quietE T o R st

def wpO (E : Env) (T : TypeId → Option TI) (n : Nat) (o : Oper) (K : St → Prop) (st : St) : Prop := wpE E T o (runE n o.dst K st) st

def wpM (E : Env) (T : TypeId → Option TI) (n : Nat) (o : Oper) (K : St → Prop) (st : St) : Prop :=
  match o.op with
  | .call c => match c.callee with
    | .value x => callM E T n o.dst (.value x) c.args.toList c.argTypes.toList K st
    | .invoke x m => callM E T n o.dst (.invoke x m) c.args.toList c.argTypes.toList K st
    | _ => False
  | _ => False

def wpOp (E : Env) (T : TypeId → Option TI) (n : Nat) (o : Oper) (K : St → Prop) (st : St) : Prop := wpO E T n o K st ∨ wpM E T n o K st

section
variable {cx : Cx} {G : Gh} {st : St} {a : Act} {E : Env}

theorem storeVar_run (hT : TOk P T) {t : TypeId} {ti : TI} (ht : T t = some ti) {b o : Nat} {v : Value} (hsz : v.cells.size = ti.size) (hc : ∀ j, j < v.cells.size → (w.cell? ⟨b, o + j, none⟩).isSome = true) (hf : ∀ j, j < v.cells.size → w.frozen? ⟨b, o + j, none⟩ = false)
    (h1 : ∀ u ∈ v.cells.toList, u.oneCell' = true) : (storeVar t ⟨b, o, none⟩ v).run P w = .ok () (w.setCells b o v.cells.toList) := by
  have := run_storeCells_cells (P := P) b o v.cells.toList 0 w (by simpa using hc) (by simpa using hf) h1
  simp only [Nat.add_zero] at this
  simp [storeVar, run_size (hT _ _ ht), hsz, this]

theorem append_ok (hT : TOk P T) (hR : R cx G st a w) {o : Oper} {x y : Operand} {t t2 : TypeId} (ho : o.op = .call { callee := .builtin .append, args := #[x, y], argTypes := #[t, t2] }) {K : St → Prop} {X : Exit → Act → World → Prop}
    (h : appendE T x y t t2 (runE cx.n o.dst K st) st) : o.wp P a w (Post cx K) X := by
  unfold appendE at h
  split at h
  · rename_i ti ti2 ht ht2
    split at h
    · rename_i e e2 hk hk2
      split at h
      · rename_i te nm sz rows sz2 ys he hx hy
        split at h
        · rename_i hc
          obtain ⟨hsz, hsz2⟩ := hc
          obtain ⟨⟨hb, hm⟩, h⟩ := h
          obtain ⟨d, hd, hdn, hf, hn, hK⟩ : ∃ d, o.dst = some d ∧ d < cx.n ∧ Fresh2 st nm d ∧ (Blk.cells te.size (rows ++ ys)).has d = false ∧ K ((st.give nm d (.cells te.size (rows ++ ys))).put d (.c (.mr d 0 (rows ++ ys).length))) := by
            simp only [runE, giveK] at h
            cases hd : o.dst with
            | none => rw [hd] at h; exact h.elim
            | some d =>
              rw [hd] at h
              simp only at h
              by_cases hdn : d < cx.n
              · rw [if_pos hdn] at h; exact ⟨d, rfl, hdn, h⟩
              · rw [if_neg hdn] at h; exact h.elim
          obtain ⟨r, w', G', hrun, hR2, hO⟩ := append_run (ty := o.type) hT hR ht hk he (kind_slice hT ht2 hk2) (rd_q (T := T) hR t x) (rd_q (T := T) hR t2 y) hx hy hsz hsz2 hb hm hdn hf hn
          have hrun2 : (execOp a.eval o).run P w = .ok (.value r) w' := by
            simp only [execOp, ho, resolve, Sem.run_bind, Sem.run_pure, Result.andThen_ok, invoke, builtin]
            simp [hrun]
          refine Oper.wp_value hrun2 ?_
          rw [hd]
          exact ⟨G', _, hR2.put (sv := .c (.mr d 0 (rows ++ ys).length)) hdn hO, hK⟩
        · exact h.elim
      · exact h.elim
    · exact h.elim
  · exact h.elim

theorem store_ok (hT : TOk P T) (hR : R cx G st a w) {o : Oper} {t : TypeId} {x v : Operand} (ho : o.op = .store t x v) {K : St → Prop} {X : Exit → Act → World → Prop} (h : storeE T t x v (runE cx.n o.dst K st) st) : o.wp P a w (Post cx K) X := by
  unfold storeE at h
  split at h
  · rename_i ti nm i o0 cs ht hx hcs
    have hq := rd_q (T := T) hR 0 x
    rw [hx] at hq
    obtain ⟨p, hp, hxe⟩ := cv_mp hq
    have hv := cells_q (rd_q (T := T) hR t v) hcs
    split at h
    · rename_i sz rows hb
      split at h
      · rename_i row hrow
        split at h
        · rename_i hc
          obtain ⟨hl, hle, hpl⟩ := hc
          obtain ⟨hd, h⟩ := h
          have hR2 := hR.store hb hrow hle hv hp
          have hB := hR.heap nm _ hb
          simp only [BlkR, hp] at hB
          obtain ⟨b1, b2, b3, b4, b5, bcs, el, b6, b7, b8, b9⟩ := hB
          have hvl := All2.toList hv
          have hrow2 := b4 row (List.mem_of_getElem? hrow)
          have hil := (List.getElem?_eq_some_iff.1 hrow).1
          have hlt := Nat.mul_le_mul_right sz (show i + 1 ≤ rows.length by omega)
          rw [Nat.succ_mul] at hlt
          have hcell : ∀ j, j < (a.eval v).cells.toList.length → (w.cell? ⟨p.b, p.o + (i * p.sz + o0) + j, none⟩).isSome = true := by
            intro j hj
            rw [Array.length_toList] at hj
            simp only [World.cell?, b6, b1]
            simp
            omega
          have hfr : ∀ j, j < (a.eval v).cells.toList.length → w.frozen? ⟨p.b, p.o + (i * p.sz + o0) + j, none⟩ = false := by
            intro j hj
            simp [World.frozen?, b6]
          have hone : ∀ u ∈ (a.eval v).cells.toList, u.oneCell' = true := by
            intro u hu
            obtain ⟨j, hj, rfl⟩ := List.mem_iff_getElem.1 hu
            have hjc : j < cs.length := by rw [hv.length]; exact hj
            obtain ⟨y, h1, h2⟩ := hv.get j _ (List.getElem?_eq_getElem hjc)
            rw [List.getElem?_eq_getElem hj] at h1
            rw [Option.some.inj h1]
            exact (h2.plain (List.all_eq_true.1 hpl _ (List.getElem_mem hjc))).2
          have hsv := storeVar_run hT ht (b := p.b) (o := p.o + (i * p.sz + o0)) (v := a.eval v) (by rw [← hvl, hl]) (fun j hj => hcell j (by simpa using hj)) (fun j hj => hfr j (by simpa using hj)) hone
          have hrun : (execOp a.eval o).run P w = .ok .skip (w.setCells p.b (p.o + (i * p.sz + o0)) (a.eval v).cells.toList) := by
            simp only [execOp, ho]
            rw [hxe]
            simp [Instr.storeAt, Instr.sureAddr, hsv]
          refine Oper.wp_skip hrun ?_
          rw [hd]
          exact ⟨G, _, hR2, h⟩
        · exact h.elim
      · exact h.elim
    · exact h.elim
  · exact h.elim

/-- THE STEP: what a state's step says holds of the operation's. -/
theorem wpOp_ok (hE : EnvOk P E) (hT : TOk P T) (hR : R cx G st a w) {o : Oper} {K : St → Prop} {X : Exit → Act → World → Prop} (hw : wpOp E T cx.n o K st) : o.wp P a w (Post cx K) X := by
  have hM : wpM E T cx.n o K st → o.wp P a w (Post cx K) X := by
    intro hw
    unfold wpM at hw
    split at hw
    · rename_i c ho
      obtain ⟨cal, args, types⟩ := c
      simp only at hw
      split at hw
      · exact callM_ok hE hT hR ho hw
      · exact callM_ok hE hT hR ho hw
      · exact hw.elim
    · exact hw.elim
  rcases hw with hw | hw
  case inr => exact hM hw
  have hqk : quietE T o (runE cx.n o.dst K st) st → o.wp P a w (Post cx K) X := fun h => quietK_ok hT hR h
  unfold wpO wpE at hw
  split at hw
  · rename_i t ho
    split at hw
    · rename_i ti ht
      split at hw
      · rename_i h0
        obtain ⟨info, z, hi, hsz, hby, hz, hzr, _⟩ := (hT _ _ ht).info
        exact newVar_ok (x := z) (el := t) hR (hzr.mono fun _ _ => zero_cv) h0 (by simp only [execOp, ho]; exact run_value' _ _ _ _ (by simp [Instr.alloc, zeroValue, typeInfo, hi, hz, newVar, newRow])) hw
      · exact hw.elim
    · exact hw.elim
  · rename_i t x ho
    split at hw
    · rename_i cs hcs
      split at hw
      · rename_i h0
        exact newVar_ok (x := a.eval x) (el := t) hR (cells_q (rd_q (T := T) hR t x) hcs) h0 (by simp only [execOp, ho]; exact run_value' _ _ _ _ (by simp [Instr.box, newVar, newRow])) hw
      · exact hw.elim
    · exact hw.elim
  · rename_i t l c ho
    split at hw
    · rename_i ti k m k' m' ht hl hc
      split at hw
      · rename_i e hk
        split at hw
        · rename_i te he
          split at hw
          · rename_i hcnd
            obtain ⟨rfl, h0⟩ := hcnd
            obtain ⟨⟨hm, hmx, hb⟩, hK⟩ := hw
            exact makeSlice_ok hT hR ho ht hk he hl hc h0 hm hmx hb hK
          · exact hw.elim
        · exact hw.elim
      · exact hw.elim
    · exact hw.elim
  · rename_i t len parts ho
    split at hw
    · rename_i ti ht
      split at hw
      · rename_i e hk
        split at hw
        · rename_i te he
          split at hw
          · rename_i hcnd
            split at hw
            · rename_i cs hcs
              rcases Nat.eq_zero_or_pos len with hl | hl
              · subst hl
                have hps := hcnd.2.1.resolve_left (Nat.lt_irrefl 0)
                rw [hps] at hcs
                simp only [layParts, List.replicate, List.flatten_nil, Option.some.injEq] at hcs
                subst hcs
                exact buildSlice0_ok hT hR ho ht hk he hcnd.1 hps hw
              · exact buildSlice_ok hT hR ho ht hk he hcnd.1 hl hcnd.2.2 hcs hw
            · exact hw.elim
          · exact hw.elim
        · exact hw.elim
      · exact hw.elim
    · exact hw.elim
  · rename_i t x v ho
    exact store_ok hT hR ho hw
  · rename_i c ho
    obtain ⟨cal, args, types⟩ := c
    simp only at hw
    split at hw
    · rcases hw with hw | ⟨_, hw⟩
      · exact call_ok hE hT hR ho hw
      · exact callM_ok hE hT hR ho (callN_M hw)
    · exact call_ok hE hT hR ho hw
    · split at hw
      · rename_i x y t t2 ha ht
        obtain rfl : args = #[x, y] := by rw [← Array.toArray_toList (xs := args), ha]
        obtain rfl : types = #[t, t2] := by rw [← Array.toArray_toList (xs := types), ht]
        exact append_ok hT hR ho hw
      · exact hw.elim
    · exact hqk hw
  · exact hqk hw

/-- Is the operation wanted? (Its guard, by what the guard's slot holds.) -/
def guardOf (all : Array Oper) (st : St) (o : Oper) : Option Bool :=
  match o.guard with
  | none => some true
  | some (j, want) => match (all[j]?).bind (·.dst) with
    | some d => match st.slots d with
      | .c (.t (.bool b)) => some (b == want)
      | .tup [] => some false
      | _ => none
    | none => none

def wpI (E : Env) (T : TypeId → Option TI) (n : Nat) (all : Array Oper) (i : Nat) (K : St → Prop) (st : St) : Prop :=
  match all[i]? with
  | none => K st
  | some o => match guardOf all st o with
    | some c => if c = true then wpOp E T n o K st else putK n o.dst (.tup []) K st
    | none => False

/-- The guard, by the slots that the operations ahead have written. -/
def guardD (ds : List (Option Nat)) (st : St) (o : Oper) : Option Bool :=
  match o.guard with
  | none => some true
  | some (j, want) => match ds[j]? with
    | some (some d) => match st.slots d with
      | .c (.t (.bool b)) => some (b == want)
      | .tup [] => some false
      | _ => none
    | _ => none

/-- What is known turned into what follows from it. -/
def Gho (n : Nat) (st st' : St) : Prop := ∀ (cx : Cx) (G : Gh) (a : Act) (w : World), cx.n = n → R cx G st a w → ∃ G', R cx G' st' a w
theorem Gho.refl (n : Nat) (st : St) : Gho n st st := fun _ G _ _ _ hR => ⟨G, hR⟩
theorem Gho.trans {n : Nat} {s1 s2 s3 : St} (h1 : Gho n s1 s2) (h2 : Gho n s2 s3) : Gho n s1 s3 := fun cx G a w hn hR => by
  obtain ⟨G', hR'⟩ := h1 cx G a w hn hR
  exact h2 cx G' a w hn hR'

/-- A region's operations in their order. -/
def wpS (E : Env) (T : TypeId → Option TI) (n : Nat) : List (Option Nat) → List Oper → (St → Prop) → St → Prop
  | _, [], K, st => K st
  | ds, o :: l, K, st => ∃ st1, Gho n st st1 ∧ match guardD ds st1 o with
    | some c => if c = true then wpOp E T n o (wpS E T n (ds ++ [o.dst]) l K) st1 else putK n o.dst (.tup []) (wpS E T n (ds ++ [o.dst]) l K) st1
    | none => False

def wpAnyL (E : Env) (T : TypeId → Option TI) (n : Nat) (all : Array Oper) : Nat → Array Bool → (St → Prop) → St → Prop
  | 0, listed, K, st => Region.ready .any all listed = [] ∧ K st
  | f + 1, listed, K, st => (Region.ready .any all listed = [] → K st) ∧ ∀ i ∈ Region.ready .any all listed, ∃ st1, Gho n st st1 ∧ wpI E T n all i (wpAnyL E T n all f (listed.setIfInBounds i true) K) st1

def wpCode (E : Env) (T : TypeId → Option TI) (n : Nat) : Code → (Exit → St → Prop) → St → Prop
  | .skip, Q, st => Q .normal st
  | .region _ ops draw, Q, st => if draw then wpAnyL E T n ops ops.size (Array.replicate ops.size false) (Q .normal) st else wpS E T n [] ops.toList (Q .normal) st
  | .seq x y, Q, st => wpCode E T n x (fun e st' => match e with | .normal => ∃ st2, Gho n st' st2 ∧ wpCode E T n y Q st2 | e => Q e st') st
  | .cond c x y, Q, st => match rd T st 0 c with
    | .c (.t (.bool b)) => (b = true → wpCode E T n x Q st) ∧ (b = false → wpCode E T n y Q st)
    | _ => False
  | .block id x, Q, st => wpCode E T n x (fun e st' => match e with | .exit id' => if id' = id then Q .normal st' else Q (.exit id') st' | e => Q e st') st
  | .loop x, Q, st => ∃ (σ : Type) (I : σ → St → Prop) (μ : σ → Nat), (∃ s st0, Gho n st st0 ∧ I s st0) ∧ ∀ s st', I s st' → wpCode E T n x (fun e st'' => match e with | .normal => ∃ s' st2, Gho n st'' st2 ∧ I s' st2 ∧ μ s' < μ s | e => Q e st'') st'
  | .exit id, Q, st => Q (.exit id) st
  | .ret, Q, st => Q .ret st
  | _, _, _ => False

theorem skipped_q {M : Mk} : SVR M w (.tup []) undef := ⟨[], rfl, trivial⟩

theorem guard_ok (hR : R cx G st a w) {all : Array Oper} {o : Oper} {c : Bool} (h : guardOf all st o = some c) : Region.wanted o (yielded all a.tmps) = c := by
  unfold guardOf at h
  unfold Region.wanted
  split at h
  · rename_i hg; rw [hg]; exact Option.some.inj h
  · rename_i j want hg
    rw [hg]
    split at h
    · rename_i d hd
      split at h
      · rename_i b hb
        obtain rfl := Option.some.inj h
        have hs := hR.slots d
        rw [hb] at hs
        have hv := cv_bool hs
        have ht : a.tmps[d]? = some (.bool b) := by
          rw [Array.getD_eq_getD_getElem?] at hv
          cases h9 : a.tmps[d]? with
          | none => rw [h9] at hv; cases hv
          | some x => rw [h9] at hv; simp only [Option.getD_some] at hv; rw [hv]
        simp only [yielded, hd, Option.bind_some, ht]
        cases b <;> cases want <;> rfl
      · rename_i hb
        obtain rfl := Option.some.inj h
        have hs := hR.slots d
        rw [hb] at hs
        obtain ⟨vs, hv, h2⟩ := hs
        have hv0 : a.tmps.getD d undef = undef := by
          rw [hv]
          cases vs with
          | nil => rfl
          | cons _ _ => exact h2.elim
        have hy : yielded all a.tmps j = none := by
          rw [Array.getD_eq_getD_getElem?] at hv0
          simp only [yielded, hd, Option.bind_some]
          cases h9 : a.tmps[d]? with
          | none => rfl
          | some x => rw [h9] at hv0; simp only [Option.getD_some] at hv0; rw [hv0]; rfl
        simp only [hy]; rfl
      · cases h
    · cases h

theorem wpI_ok (hE : EnvOk P E) (hT : TOk P T) (hR : R cx G st a w) {all : Array Oper} {i : Nat} {K : St → Prop} {X : Exit → Act → World → Prop} (hw : wpI E T cx.n all i K st) : Go.wpOp P all X i (Post cx K) a w := by
  unfold wpI at hw
  unfold Go.wpOp
  cases hi : all[i]? with
  | none => rw [hi] at hw; exact ⟨G, st, hR, hw⟩
  | some o =>
    rw [hi] at hw
    simp only at hw ⊢
    split at hw
    · rename_i c hc
      rw [guard_ok hR hc]
      cases c with
      | true => exact .inl (wpOp_ok hE hT hR hw)
      | false => exact putK_ok hR skipped_q hw
    · exact hw.elim

theorem guardD_eq {all : Array Oper} {st : St} {o : Oper} {c : Bool} {k : Nat} (h : guardD ((all.toList.take k).map (·.dst)) st o = some c) : guardOf all st o = some c := by
  unfold guardD at h
  unfold guardOf
  split at h
  · exact h
  · rename_i j want hg
    split at h
    · rename_i d hd
      rw [List.getElem?_map] at hd
      cases ho : (all.toList.take k)[j]? with
      | none => simp [ho] at hd
      | some o' =>
        simp only [ho, Option.map_some, Option.some.injEq] at hd
        have hj : j < k := by
          have := (List.getElem?_eq_some_iff.1 ho).1
          simp at this; omega
        rw [List.getElem?_take_of_lt hj] at ho
        have ho' : all[j]? = some o' := by simpa using ho
        simp only [ho', Option.bind_some, hd]
        exact h
    · cases h

theorem wpS_ok (hE : EnvOk P E) (hT : TOk P T) {all : Array Oper} {K : St → Prop} {X : Exit → Act → World → Prop} (hX : ∀ a w, Post cx K a w → X .normal a w) : ∀ (l : List Oper) (k : Nat) {st a w G}, all.toList.drop k = l → R cx G st a w →
    wpS E T cx.n ((all.toList.take k).map (·.dst)) l K st → wpOps P all X (List.range' k l.length) a w
  | [], k, st, a, w, G, _, hR, hw => hX a w ⟨G, st, hR, hw⟩
  | o :: l, k, st, a, w, G, hl, hR, hw => by
    have hk : k < all.toList.length := by
      rcases Nat.lt_or_ge k all.toList.length with h | h
      · exact h
      · rw [List.drop_of_length_le h] at hl; cases hl
    have ho : all[k]? = some o := by
      have : (all.toList.drop k)[0]? = some o := by rw [hl]; rfl
      rw [List.getElem?_drop] at this
      simpa using this
    have hl2 : all.toList.drop (k + 1) = l := by rw [← List.drop_drop, hl]; rfl
    have ht2 : (all.toList.take (k + 1)).map (·.dst) = (all.toList.take k).map (·.dst) ++ [o.dst] := by
      rw [List.take_add_one, List.map_append]
      have : all.toList[k]? = some o := by simpa using ho
      rw [this]; rfl
    rw [List.length_cons, List.range'_succ, wpOps_cons]
    simp only [wpS] at hw
    obtain ⟨st1, hgh, hw⟩ := hw
    obtain ⟨G1, hR1⟩ := hgh cx G a w rfl hR
    split at hw
    · rename_i c hc
      rw [← ht2] at hw
      have hnext : ∀ a' w', Post cx (wpS E T cx.n ((all.toList.take (k + 1)).map (·.dst)) l K) a' w' → wpOps P all X (List.range' (k + 1) l.length) a' w' := fun a' w' ⟨G', st', hR', hK'⟩ => wpS_ok hE hT hX l (k + 1) hl2 hR' hK'
      refine wpOp_mono hnext ?_
      unfold Go.wpOp
      rw [ho]
      simp only
      rw [guard_ok hR1 (guardD_eq hc)]
      cases c with
      | true => exact .inl (wpOp_ok hE hT hR1 hw)
      | false => exact putK_ok hR1 skipped_q hw
    · exact hw.elim

theorem wpAnyL_ok (hE : EnvOk P E) (hT : TOk P T) {all : Array Oper} {K : St → Prop} {X : Exit → Act → World → Prop} (hX : ∀ a w, Post cx K a w → X .normal a w) : ∀ (f : Nat) (listed : Array Bool) {st a w G}, R cx G st a w → wpAnyL E T cx.n all f listed K st → wpAny P .any all X f listed a w
  | 0, listed, st, a, w, G, hR, hw => ⟨hw.1, hX a w ⟨G, st, hR, hw.2⟩⟩
  | f + 1, listed, st, a, w, G, hR, hw => ⟨fun he => hX a w ⟨G, st, hR, hw.1 he⟩, fun i hi => by
    obtain ⟨st1, hg, h1⟩ := hw.2 i hi
    obtain ⟨G1, hR1⟩ := hg cx G a w rfl hR
    exact wpOp_mono (fun a' w' ⟨G', st', hR', hK'⟩ => wpAnyL_ok hE hT hX f _ hR' hK') (wpI_ok hE hT hR1 h1)⟩

theorem R.drew (hR : R cx G st a w) : R cx G st a w.drew :=
  hR.grow G.hw (Kept.of_below (Below.refl _ _).drew) (fun _ _ => rfl) hR.hwNew

/-- A loop, by what holds at its head of something beside the frame, that each round lessens. -/
theorem wp_loop_of {σ : Type} {c : Code} {X : Exit → Act → World → Prop} (I : σ → Act → World → Prop) (μ : σ → Nat) (round : ∀ s a w, I s a w → c.wp P (Exit.then (fun a' w' => ∃ s', I s' a' w' ∧ μ s' < μ s) X) a w) :
    ∀ s a w, I s a w → (Code.loop c).wp P X a w := by
  intro s a w h0 b k cs
  have key : ∀ m s a w, μ s = m → I s a w → ∃ e a' w', X e a' w' ∧ Arrives P (lone (b.at a (.code c :: .inLoop c :: k)) cs w) b k cs e a' w' := by
    intro m
    induction m using Nat.strongRecOn with
    | _ m ih =>
      intro s a w hm hI
      obtain ⟨e, a1, w1, hq, harr⟩ := round s a w hI b (.inLoop c :: k) cs
      cases e with
      | normal =>
        obtain ⟨s1, hI1, hlt⟩ := hq
        obtain ⟨e2, a2, w2, hq2, harr2⟩ := ih (μ s1) (hm ▸ hlt) s1 a1 w1 rfl hI1
        exact ⟨e2, a2, w2, hq2, .of_steps (Steps.trans harr (.one step_inLoop)) harr2⟩
      | outgrown => exact ⟨.outgrown, a1, w1, hq, harr⟩
      | ret => exact ⟨.ret, a1, w1, hq, harr⟩
      | panic ch => exact ⟨.panic ch, a1, w1, hq, harr⟩
      | exit id => exact ⟨.exit id, a1, w1, hq, .pass (x := .inLoop c) rfl (fun _ _ => .inl (by simp)) harr⟩
      | goto l => exact ⟨.goto l, a1, w1, hq, .pass (x := .inLoop c) rfl (fun _ _ => .inl (by simp)) harr⟩
  obtain ⟨e, a', w', hq, harr⟩ := key _ s a w rfl h0
  exact ⟨e, a', w', hq, .of_steps (.one step_loop) harr⟩

theorem wpCode_ok (hm : P.follows .mixedOrders = true) (hE : EnvOk P E) (hT : TOk P T) : ∀ (c : Code) {Q : Exit → St → Prop} {X : Exit → Act → World → Prop} {st a w G}, (∀ e a w G st, R cx G st a w → Q e st → X e a w) → R cx G st a w → wpCode E T cx.n c Q st → c.wp P X a w
  | .skip, Q, X, st, a, w, G, hX, hR, hw => wp_skip (hX _ _ _ _ _ hR hw)
  | .region id ops draw, Q, X, st, a, w, G, hX, hR, hw => by
    have hX' : ∀ a w, Post cx (Q .normal) a w → X .normal a w := fun a w ⟨G, st, hR, hq⟩ => hX _ _ _ _ _ hR hq
    cases draw with
    | true => exact wp_region_any hm (wpAnyL_ok hE hT hX' _ _ hR.drew hw)
    | false => exact wp_region (by have := wpS_ok hE hT hX' ops.toList 0 (all := ops) (by simp) hR hw; rw [List.range_eq_range']; simpa using this)
  | .seq x y, Q, X, st, a, w, G, hX, hR, hw => by
    refine wp_seq (wpCode_ok hm hE hT x (fun e a w G st hR hq => ?_) hR hw)
    cases e with
    | normal =>
      obtain ⟨st2, hg, hq⟩ := hq
      obtain ⟨G2, hR2⟩ := hg cx G a w rfl hR
      exact wpCode_ok hm hE hT y hX hR2 hq
    | _ => exact hX _ _ _ _ _ hR hq
  | .cond c x y, Q, X, st, a, w, G, hX, hR, hw => by
    simp only [wpCode] at hw
    split at hw
    · rename_i b hb
      have hq := rd_q (T := T) hR 0 c
      rw [hb] at hq
      exact wp_cond_split (cv_bool hq) (fun ht => wpCode_ok hm hE hT x hX hR (hw.1 ht)) (fun hf => wpCode_ok hm hE hT y hX hR (hw.2 (by simpa using hf)))
    · exact hw.elim
  | .block id x, Q, X, st, a, w, G, hX, hR, hw => by
    refine wp_block (wpCode_ok hm hE hT x (fun e a w G st hR hq => ?_) hR hw)
    cases e with
    | exit id' =>
      simp only [Exit.inBlock]
      simp only at hq
      split at hq
      · rename_i he; rw [if_pos he]; exact hX _ _ _ _ _ hR hq
      · rename_i he; rw [if_neg he]; exact hX _ _ _ _ _ hR hq
    | _ => exact hX _ _ _ _ _ hR hq
  | .loop x, Q, X, st, a, w, G, hX, hR, hw => by
    obtain ⟨σ, I, μ, ⟨s0, st0, hg0, h0⟩, hround⟩ := hw
    obtain ⟨G0, hR0⟩ := hg0 cx G a w rfl hR
    refine wp_loop_of (σ := σ) (fun s a w => ∃ G st, R cx G st a w ∧ I s st) μ (fun s a w ⟨G, st, hR, hI⟩ => ?_) s0 a w ⟨G0, _, hR0, h0⟩
    refine wpCode_ok hm hE hT x (fun e a w G st hR hq => ?_) hR (hround s st hI)
    cases e with
    | normal =>
      obtain ⟨s', st2, hg, h1, h2⟩ := hq
      obtain ⟨G2, hR2⟩ := hg cx G a w rfl hR
      exact ⟨s', ⟨G2, _, hR2, h1⟩, h2⟩
    | _ => exact hX _ _ _ _ _ hR hq
  | .exit id, Q, X, st, a, w, G, hX, hR, hw => wp_exit (hX _ _ _ _ _ hR hw)
  | .ret, Q, X, st, a, w, G, hX, hR, hw => wp_ret (hX _ _ _ _ _ hR hw)
  | .rangeFunc .., _, _, _, _, _, _, _, _, hw => hw.elim
  | .scope _, _, _, _, _, _, _, _, _, hw => hw.elim
  | .label _, _, _, _, _, _, _, _, _, hw => hw.elim
  | .goto _, _, _, _, _, _, _, _, _, hw => hw.elim

/-- A FUNCTION'S CONTRACT, by its text. -/
theorem spec_by {f : FuncId} {fn : Func} {c : Code} (hf : P.funcs[f]? = some fn) (hb : fn.body = some c) (hm : P.follows .mixedOrders = true) (hT : TOk P T) (hE : EnvOk P E) {n : Nat} (hn : n = fn.ntmps) {args res : List AV} {h h' : List (Nat × Blk)} (hargs : args.length ≤ fn.ntmps) (hnm : ∀ p ∈ h, fn.ntmps ≤ p.1)
    (hw : wpCode E T n c (KRes T fn.results.toList res h') (initSt args h)) : Spec P f args h res h' :=
  spec_of hf hb hT hargs hnm fun cx G a w X hcn hR hX => wpCode_ok hm hE hT c (fun e a w G st h1 h2 => hX e G st a w h1 h2) hR (by rw [hcn, ← hn]; exact hw)
end
end Go.Proofs.Ytgmjgognpabmdaa.Fx
