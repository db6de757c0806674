/- The evaluator's second make: types, operands, numbers. -/
import Derived.Test.YtgmjgognpabmdaaFx1
import Derived.Laws.StructEq
import Derived.Great.BuildSlice
namespace Go.Proofs.Ytgmjgognpabmdaa.Fx
open Go Go.RowKit
set_option linter.unusedSimpArgs false
set_option linter.unusedVariables false

inductive TK where
  | bool
  | int (k : IntKind)
  | str
  | slice (e : TypeId)
  | arr (n : Nat) (e : TypeId)
  | struct (fs : List (TypeId × Nat))
  | ptr (e : TypeId)
  | map (k e : TypeId)
  | func
  | iface (e : Bool)

/-- What is used of a type: its kind, its cells, its bytes, its zero; whether structs of it may be held against each other cell by cell. -/
structure TI where
  k : TK
  size : Nat
  bytes : Nat
  zero : List CV
  cmp : Bool := false
  meth : List (String × FuncId) := []

def TK.fits : TK → TypeDesc → Prop
  | .bool, d => d = .bool
  | .int k, d => d = .int k
  | .str, d => d = .string
  | .slice e, d => d = .slice e
  | .arr n e, d => d = .array n e
  | .struct fs, d => ∃ fields : Array Field, d = .struct fields ∧ fields.toList.map (fun f => (f.type, f.offset)) = fs ∧ fields.toList.all (fun f => f.name != "_") = true
  | .ptr e, d => d = .pointer e
  | .map k e, d => d = .map k e
  | .func, d => ∃ a b c, d = .func a b c
  | .iface e, d => ∃ ms, d = .interface ms ∧ ms.isEmpty = e

def TK.isAgg : TK → Bool
  | .arr _ _ | .struct _ => true
  | _ => false

def zeroR : CV → Value → Prop
  | .t (.bool b), x => x = .bool b
  | .t (.int k n), x => x = .int k n
  | .t (.str s), x => x = .string s
  | .t .nilp, x => x = .pointer none
  | .t .nilf, x => x = .nilFunc
  | .t .nili, x => x = .nilIface
  | .t .nilm, x => x = .map none
  | .own _ rows, x => rows = [] ∧ x = .slice none 0 0
  | _, _ => False

structure TIOk (P : Program) (t : TypeId) (ti : TI) : Prop where
  info : ∃ info z, P.info? t = some info ∧ info.size = ti.size ∧ info.bytes = ti.bytes ∧ info.zero = some z ∧ All2 zeroR ti.zero z.cells.toList ∧ (ti.k.isAgg = true → ∃ cs, z = .agg cs)
  zlen : ti.zero.length = ti.size
  kind : ∃ d, P.underlying t = some d ∧ ti.k.fits d
  flds : ∀ fields, P.underlying t = some (.struct fields) → fields.toList.all (fun f => (P.info? f.type).isSome) = true
  elt : ∀ n e, P.underlying t = some (.array n e) → (P.info? e).isSome = true
  zone : ∀ info cs, P.info? t = some info → info.zero = some (.agg cs) → ti.k.isAgg = true
  cmp : ti.cmp = true → P.stoodInHeld t = false ∧ P.eqGuardType P.depth t = false
  meth : ∀ p ∈ ti.meth, ∀ (v : Value) (w : World), (method (P.types.size + Made.depth) t v p.1).run P w = .ok (p.2, v) w

def TOk (P : Program) (T : TypeId → Option TI) : Prop := ∀ t ti, T t = some ti → TIOk P t ti

def cst : Value → SV
  | .bool b => .c (.t (.bool b))
  | .int k n => .c (.t (.int k n))
  | .string s => .c (.t (.str s))
  | .slice none 0 0 => .c (.own 0 [])
  | .pointer none => .c (.t .nilp)
  | .nilFunc => .c (.t .nilf)
  | .nilIface => .c (.t .nili)
  | .map none => .c (.t .nilm)
  | _ => .undef

/-- A list that is none, of the type's rows. -/
def rety (T : TypeId → Option TI) (ty : TypeId) : SV → SV
  | .c (.own sz []) =>
    match T ty with
    | some ti => match ti.k with
      | .slice e => match T e with
        | some te => .c (.own te.size [])
        | none => .c (.own sz [])
      | _ => .c (.own sz [])
    | none => .c (.own sz [])
  | v => v

/-- An operand as it is read. -/
def rd (T : TypeId → Option TI) (st : St) (ty : TypeId) : Operand → SV
  | .tmp t => st.slots t
  | .const v => rety T ty (cst v)
  | .func f => .c (.t (.fn f))
  | .global _ => .undef

def intOp (op : BinOp) (k : IntKind) (a b : Int) : Option TV :=
  match op with
  | .add => some (.int k (k.wrap (a + b)))
  | .sub => some (.int k (k.wrap (a - b)))
  | .mul => some (.int k (k.wrap (a * b)))
  | .quo => if b = 0 then none else some (.int k (k.wrap (a.tdiv b)))
  | .rem => if b = 0 then none else some (.int k (a.tmod b))
  | .and => some (.int k (k.wrap (BitVec.ofInt k.bits a &&& BitVec.ofInt k.bits b).toNat))
  | .or => some (.int k (k.wrap (BitVec.ofInt k.bits a ||| BitVec.ofInt k.bits b).toNat))
  | .xor => some (.int k (k.wrap (BitVec.ofInt k.bits a ^^^ BitVec.ofInt k.bits b).toNat))
  | .andNot => some (.int k (k.wrap (BitVec.ofInt k.bits a &&& ~~~ BitVec.ofInt k.bits b).toNat))
  | .eql => some (.bool (a == b))
  | .neq => some (.bool (a != b))
  | .lss => some (.bool (decide (a < b)))
  | .leq => some (.bool (decide (a ≤ b)))
  | .gtr => some (.bool (decide (a > b)))
  | .geq => some (.bool (decide (a ≥ b)))
  | .shl | .shr => none

def shiftOp (op : BinOp) (k : IntKind) (a b : Int) : Option TV :=
  if b < 0 then none else
  match op with
  | .shl => some (.int k (k.wrap (a * 2 ^ (min b.toNat k.bits))))
  | .shr => some (.int k (a.fdiv (2 ^ (min b.toNat k.bits))))
  | _ => none

def strOp (op : BinOp) (a b : ByteArray) : Option TV :=
  match op with
  | .eql => some (.bool (a.toList == b.toList))
  | .neq => some (.bool (!(a.toList == b.toList)))
  | .lss => some (.bool (Op.bytesLess a.toList b.toList))
  | _ => none

/-- Two cells, held against each other, by their type. -/
def eqCV (k : TK) : CV → CV → Option Bool
  | .t (.bool a), .t (.bool b) => match k with | .bool => some (a == b) | _ => none
  | .t (.int i a), .t (.int j b) => match k with | .int _ => if i = j then some (a == b) else none | _ => none
  | .t (.str a), .t (.str b) => match k with | .str => some (a.toList == b.toList) | _ => none
  | .t .nilp, .t .nilp => match k with | .ptr _ => some true | _ => none
  | .t .nilp, .mp _ _ _ => match k with | .ptr _ => some false | _ => none
  | .mp _ _ _, .t .nilp => match k with | .ptr _ => some false | _ => none
  | .t .nilf, .t .nilf => match k with | .func => some true | _ => none
  | .t (.fn _), .t .nilf => match k with | .func => some false | _ => none
  | .t .nilf, .t (.fn _) => match k with | .func => some false | _ => none
  | .fnc _ _ _, .t .nilf => match k with | .func => some false | _ => none
  | .t .nilm, .t .nilm => match k with | .map _ _ => some true | _ => none
  | .mm _, .t .nilm => match k with | .map _ _ => some false | _ => none
  | .ifc _ _ _, .t .nili => match k with | .iface _ => some false | _ => none
  | .t .nili, .ifc _ _ _ => match k with | .iface _ => some false | _ => none
  | _, _ => none

def eqCells (T : TypeId → Option TI) (xs ys : List CV) : List (TypeId × Nat) → Option Bool
  | [] => some true
  | (t, off) :: fs =>
    match T t, xs[off]?, ys[off]? with
    | some ti, some x, some y => match eqCV ti.k x y with
      | some b => match eqCells T xs ys fs with
        | some r => some (b && r)
        | none => none
      | none => none
    | _, _, _ => none

def eqRes : BinOp → Option Bool → Option TV
  | .eql, some b => some (.bool b)
  | .neq, some b => some (.bool (!b))
  | _, _ => none

/-- An operation of two numbers, two texts; two of anything, held against each other. -/
def binS (T : TypeId → Option TI) (op : BinOp) (ty : TypeId) : SV → SV → Option TV
  | .c (.t (.int k a)), .c (.t (.int k' b)) =>
    match op with
    | .shl | .shr => shiftOp op k a b
    | _ => if k = k' then intOp op k a b else none
  | .c (.t (.str a)), .c (.t (.str b)) => strOp op a b
  | .c x, .c y =>
    match T ty with
    | some ti => match ti.k with
      | .int _ | .str => none
      | _ => eqRes op (eqCV ti.k x y)
    | none => none
  | .agg xs, .agg ys =>
    match T ty with
    | some ti => match ti.k with
      | .struct fs => if ti.cmp then eqRes op (eqCells T xs ys fs) else none
      | _ => none
    | none => none
  | _, _ => none

def unS (op : UnOp) : SV → Option TV
  | .c (.t (.bool b)) => match op with | .not => some (.bool !b) | _ => none
  | .c (.t (.int k n)) => match op with
    | .neg => some (.int k (k.wrap (0 - n)))
    | .xor => intOp .xor k (if k.signed then -1 else k.max) n
    | _ => none
  | _ => none

def CV.cells : CV → Option (List CV)
  | .t v => some [.t v]
  | .own sz rows => some [.own sz rows]
  | .mr nm lo len => some [.mr nm lo len]
  | .mp nm i o => some [.mp nm i o]
  | .mm nm => some [.mm nm]
  | .fnc f a b => some [.fnc f a b]
  | .ifc ty g cs => some [.ifc ty g cs]
  | .dead => none
def cells : SV → Option (List CV)
  | .c v => v.cells
  | .agg cs => some cs
  | _ => none

/-- Cells laid over others from a place on. -/
def lay (zs : List CV) (off : Nat) (cs : List CV) : List CV := zs.take off ++ cs ++ zs.drop (off + cs.length)

def layParts (T : TypeId → Option TI) (place : Nat → Option (Nat × Nat)) (get : Operand → SV) : List CV → List (Nat × Operand) → Option (List CV)
  | zs, [] => some zs
  | zs, (i, x) :: ps =>
    match place i, cells (get x) with
    | some (off, size), some cs => if cs.length = size ∧ off + size ≤ zs.length then layParts T place get (lay zs off cs) ps else none
    | _, _ => none

def placeOf (T : TypeId → Option TI) (ti : TI) (i : Nat) : Option (Nat × Nat) :=
  match ti.k with
  | .struct fs => match fs[i]? with
    | some (t, off) => match T t with | some te => some (off, te.size) | none => none
    | none => none
  | .arr _ e => match T e with | some te => some (i * te.size, te.size) | none => none
  | _ => none

variable {P : Program} {T : TypeId → Option TI} {M : Mk} {w : World} {S : Nat → Prop}

theorem add_at (b o n : Nat) : (⟨b, o, none⟩ : Addr).add n = ⟨b, o + n, none⟩ := by
  unfold Addr.add
  split <;> simp_all

theorem info_of {t : TypeId} {ti : TI} (h : TIOk P t ti) : ∃ info, P.info? t = some info ∧ info.size = ti.size ∧ info.bytes = ti.bytes := by
  obtain ⟨i, z, h1, h2, h3, _⟩ := h.info
  exact ⟨i, h1, h2, h3⟩

theorem run_size {t : TypeId} {ti : TI} (h : TIOk P t ti) (w : World) : (sizeOf t).run P w = .ok ti.size w := by
  obtain ⟨i, h1, h2, _⟩ := info_of h
  simp [sizeOf, typeInfo, h1, h2]

theorem run_under {t : TypeId} {d : TypeDesc} (h : P.underlying t = some d) (w : World) : (underlying t).run P w = .ok d w := by
  simp [underlying, h]

theorem run_agg {t : TypeId} {ti : TI} (h : TIOk P t ti) (w : World) : (isAgg t).run P w = .ok ti.k.isAgg w := by
  obtain ⟨d, hd, hf⟩ := h.kind
  cases hk : ti.k <;> simp only [hk, TK.fits] at hf
  case struct fs => obtain ⟨fields, rfl, _⟩ := hf; simp [isAgg, run_under hd, TK.isAgg]
  case func => obtain ⟨_, _, _, rfl⟩ := hf; simp [isAgg, run_under hd, TK.isAgg]
  case iface => obtain ⟨_, rfl, _⟩ := hf; simp [isAgg, run_under hd, TK.isAgg]
  all_goals subst hf; simp [isAgg, run_under hd, TK.isAgg]

theorem cv_bool {b : Bool} {x : Value} (h : CVR M w S (.t (.bool b)) x) : x = .bool b := by cases h with | t h => cases h; rfl
theorem cv_int {k : IntKind} {n : Int} {x : Value} (h : CVR M w S (.t (.int k n)) x) : x = .int k n := by cases h with | t h => cases h; rfl
theorem cv_str {s : ByteArray} {x : Value} (h : CVR M w S (.t (.str s)) x) : x = .string s := by cases h with | t h => cases h; rfl
theorem cv_nilp {x : Value} (h : CVR M w S (.t .nilp) x) : x = .pointer none := by cases h with | t h => cases h; rfl
theorem cv_nilf {x : Value} (h : CVR M w S (.t .nilf) x) : x = .nilFunc := by cases h with | t h => cases h; rfl
theorem cv_nili {x : Value} (h : CVR M w S (.t .nili) x) : x = .nilIface := by cases h with | t h => cases h; rfl
theorem cv_nilm {x : Value} (h : CVR M w S (.t .nilm) x) : x = .map none := by cases h with | t h => cases h; rfl
theorem cv_fn {f : FuncId} {x : Value} (h : CVR M w S (.t (.fn f)) x) : x = .func (.func f) #[] #[] := by cases h with | t h => cases h; rfl
theorem cv_mp {nm i o : Nat} {x : Value} (h : CVR M w S (.mp nm i o) x) : ∃ p, M.ph nm = some p ∧ x = .pointer (some ⟨p.b, p.o + (i * p.sz + o), none⟩) := by cases h with | mp _ _ _ p hp => exact ⟨p, hp, rfl⟩
theorem cv_mm {nm : Nat} {x : Value} (h : CVR M w S (.mm nm) x) : ∃ p, M.ph nm = some p ∧ x = .map (some p.b) := by cases h with | mm _ p hp => exact ⟨p, hp, rfl⟩
theorem cv_tv {v : TV} {x : Value} (h : CVR M w S (.t v) x) : TVR M.hw w v x := by cases h with | t h => exact h
theorem cv_own {sz : Nat} {rows : List (List CV)} {x : Value} (h : CVR M w Emp (.own sz rows) x) : rows = [] ∧ ∃ a, x = .slice a 0 0 := by
  cases h with
  | nil sz a => exact ⟨rfl, a, rfl⟩
  | own _ _ _ _ _ _ _ _ _ hb => exact hb.elim

theorem cst_q (v : Value) : SVR M w (cst v) v := by
  unfold cst
  split
  · exact .t (.bool _)
  · exact .t (.int _ _)
  · exact .t (.str _)
  · exact .nil _ _
  · exact .t .nilp
  · exact .t .nilf
  · exact .t .nili
  · exact .t .nilm
  · trivial

theorem rety_q {ty : TypeId} {sv : SV} {x : Value} (h : SVR M w sv x) : SVR M w (rety T ty sv) x := by
  unfold rety
  split
  · have : ∀ sz', SVR M w (.c (.own sz' [])) x := by
      intro sz'
      obtain ⟨_, a, rfl⟩ := cv_own h
      exact .nil _ _
    split
    · split
      · split <;> exact this _
      · exact this _
    · exact this _
  · exact h

theorem rd_q {cx : Cx} {G : Gh} {st : St} {a : Act} (hR : R cx G st a w) (ty : TypeId) (x : Operand) : SVR G.toMk w (rd T st ty x) (a.eval x) := by
  cases x with
  | tmp t => exact hR.slots t
  | const v => exact rety_q (cst_q v)
  | global g => trivial
  | func f => exact .t (.fn f)

theorem intOp_ok {op : BinOp} {k : IntKind} {x y : Int} {v : TV} (h : intOp op k x y = some v) (hs : op ≠ .shl ∧ op ≠ .shr) (w : World) (ty : TypeId) :
    ∃ r, (Go.binOp op ty (.int k x) (.int k y)).run P w = .ok r w ∧ ∀ hw w', TVR hw w' v r := by
  cases op <;> simp only [intOp, Option.some.injEq, reduceCtorEq] at h
  case quo => split at h; · cases h
              rename_i hy; obtain rfl := Option.some.inj h
              exact ⟨_, by simp [Go.binOp, Op.intDiv, hy] <;> rfl, fun _ _ => .int _ _⟩
  case rem => split at h; · cases h
              rename_i hy; obtain rfl := Option.some.inj h
              exact ⟨_, by simp [Go.binOp, Op.intDiv, hy] <;> rfl, fun _ _ => .int _ _⟩
  all_goals
    subst h
    first
      | exact ⟨_, by simp [Go.binOp, Op.intArith, Op.intBits, Op.intCmp] <;> rfl, fun _ _ => .int _ _⟩
      | exact ⟨_, by simp [Go.binOp, Op.intArith, Op.intBits, Op.intCmp] <;> rfl, fun _ _ => .bool _⟩

theorem shiftOp_ok {op : BinOp} {k k' : IntKind} {x y : Int} {v : TV} (h : shiftOp op k x y = some v) (w : World) (ty : TypeId) :
    ∃ r, (Go.binOp op ty (.int k x) (.int k' y)).run P w = .ok r w ∧ ∀ hw w', TVR hw w' v r := by
  unfold shiftOp at h
  split at h
  · cases h
  · rename_i hy
    cases op <;> simp only [Option.some.injEq, reduceCtorEq] at h
    case shl => subst h; exact ⟨_, by simp [Go.binOp, Op.shift, hy] <;> rfl, fun _ _ => .int _ _⟩
    case shr => subst h; exact ⟨_, by simp [Go.binOp, Op.shift, hy] <;> rfl, fun _ _ => .int _ _⟩

theorem strOp_ok {op : BinOp} {x y : ByteArray} {v : TV} (h : strOp op x y = some v) (w : World) (ty : TypeId) :
    ∃ r, (Go.binOp op ty (.string x) (.string y)).run P w = .ok r w ∧ ∀ hw w', TVR hw w' v r := by
  cases op <;> simp only [strOp, Option.some.injEq, reduceCtorEq] at h
  all_goals
    subst h
    exact ⟨_, by simp [Go.binOp, Op.stringOp] <;> rfl, fun _ _ => .bool _⟩

theorem run_equalIn_ptr0 (w : World) (d : Nat) (t e : TypeId) (hd : P.underlying t = some (.pointer e)) (x : Option Addr) : (Op.equalIn (d + 1) t (.pointer none) (.pointer x)).run P w = .ok x.isNone w := by
  simp [Op.equalIn, run_under hd]

theorem eqCV_ok {t : TypeId} {ti : TI} (ht : TIOk P t ti) {x y : CV} {b : Bool} (h : eqCV ti.k x y = some b) {u v : Value} (hx : CVR M w Emp x u) (hy : CVR M w Emp y v) (d : Nat) :
    ti.k.isAgg = false ∧ (Op.equalIn (d + 1) t u v).run P w = .ok b w := by
  obtain ⟨dd, hd, hf⟩ := ht.kind
  unfold eqCV at h
  split at h
  · split at h
    · rename_i hk
      simp only [hk, TK.fits] at hf; subst hf
      obtain rfl := Option.some.inj h
      rw [cv_bool hx, cv_bool hy]
      exact ⟨by rw [hk]; rfl, by simp [Op.equalIn, run_under hd]⟩
    · cases h
  · split at h
    · rename_i hk
      split at h
      · rename_i hij
        obtain rfl := Option.some.inj h
        simp only [hk, TK.fits] at hf; subst hf hij
        rw [cv_int hx, cv_int hy]
        exact ⟨by rw [hk]; rfl, by simp [Op.equalIn, run_under hd]⟩
      · cases h
    · cases h
  · split at h
    · rename_i hk
      simp only [hk, TK.fits] at hf; subst hf
      obtain rfl := Option.some.inj h
      rw [cv_str hx, cv_str hy]
      exact ⟨by rw [hk]; rfl, by simp [Op.equalIn, run_under hd]; rw [beq_toListBytes]⟩
    · cases h
  · split at h
    · rename_i hk
      simp only [hk, TK.fits] at hf; subst hf
      obtain rfl := Option.some.inj h
      rw [cv_nilp hx, cv_nilp hy]
      exact ⟨by rw [hk]; rfl, by simp [Op.equalIn, run_under hd]⟩
    · cases h
  · split at h
    · rename_i hk
      simp only [hk, TK.fits] at hf; subst hf
      obtain rfl := Option.some.inj h
      obtain ⟨p, _, rfl⟩ := cv_mp hy
      rw [cv_nilp hx]
      exact ⟨by rw [hk]; rfl, by simp [Op.equalIn, run_under hd]⟩
    · cases h
  · split at h
    · rename_i hk
      simp only [hk, TK.fits] at hf; subst hf
      obtain rfl := Option.some.inj h
      obtain ⟨p, _, rfl⟩ := cv_mp hx
      rw [cv_nilp hy]
      exact ⟨by rw [hk]; rfl, by simp [Op.equalIn, run_under hd]⟩
    · cases h
  · split at h
    · rename_i hk
      simp only [hk, TK.fits] at hf; obtain ⟨_, _, _, rfl⟩ := hf
      obtain rfl := Option.some.inj h
      rw [cv_nilf hx, cv_nilf hy]
      exact ⟨by rw [hk]; rfl, by simp [Op.equalIn, run_under hd]⟩
    · cases h
  · split at h
    · rename_i hk
      simp only [hk, TK.fits] at hf; obtain ⟨_, _, _, rfl⟩ := hf
      obtain rfl := Option.some.inj h
      rw [cv_fn hx, cv_nilf hy]
      exact ⟨by rw [hk]; rfl, by simp [Op.equalIn, run_under hd]⟩
    · cases h
  · split at h
    · rename_i hk
      simp only [hk, TK.fits] at hf; obtain ⟨_, _, _, rfl⟩ := hf
      obtain rfl := Option.some.inj h
      rw [cv_nilf hx, cv_fn hy]
      exact ⟨by rw [hk]; rfl, by simp [Op.equalIn, run_under hd]⟩
    · cases h
  · split at h
    · rename_i hk
      simp only [hk, TK.fits] at hf; obtain ⟨_, _, _, rfl⟩ := hf
      obtain rfl := Option.some.inj h
      cases hx with
      | fnc =>
        rw [cv_nilf hy]
        exact ⟨by rw [hk]; rfl, by simp [Op.equalIn, run_under hd]⟩
    · cases h
  · split at h
    · rename_i hk
      simp only [hk, TK.fits] at hf; subst hf
      obtain rfl := Option.some.inj h
      rw [cv_nilm hx, cv_nilm hy]
      exact ⟨by rw [hk]; rfl, by simp [Op.equalIn, run_under hd]⟩
    · cases h
  · split at h
    · rename_i hk
      simp only [hk, TK.fits] at hf; subst hf
      obtain rfl := Option.some.inj h
      obtain ⟨p, _, rfl⟩ := cv_mm hx
      rw [cv_nilm hy]
      exact ⟨by rw [hk]; rfl, by simp [Op.equalIn, run_under hd]⟩
    · cases h
  · split at h
    · rename_i hk
      simp only [hk, TK.fits] at hf; obtain ⟨_, rfl, _⟩ := hf
      obtain rfl := Option.some.inj h
      rw [cv_nili hy]
      cases hx <;> exact ⟨by rw [hk]; rfl, by simp [Op.equalIn, run_under hd]⟩
    · cases h
  · split at h
    · rename_i hk
      simp only [hk, TK.fits] at hf; obtain ⟨_, rfl, _⟩ := hf
      obtain rfl := Option.some.inj h
      rw [cv_nili hx]
      cases hy <;> exact ⟨by rw [hk]; rfl, by simp [Op.equalIn, run_under hd]⟩
    · cases h
  · cases h

theorem eqCells_ok (hT : TOk P T) {xs ys : List CV} {us vs : List Value} (hx : All2 (CVR M w Emp) xs us) (hy : All2 (CVR M w Emp) ys vs) (d : Nat) :
    ∀ (fields : List Field) (b : Bool), fields.all (fun f => f.name != "_") = true → eqCells T xs ys (fields.map fun f => (f.type, f.offset)) = some b →
      (Op.eqFields (d + 1) us.toArray vs.toArray fields).run P w = .ok b w
  | [], b, _, h => by simp [eqCells] at h; subst h; simp [Op.eqFields]
  | f :: fs, b, hn, h => by
    simp only [List.all_cons, Bool.and_eq_true, bne_iff_ne] at hn
    simp only [List.map_cons, eqCells] at h
    split at h
    · rename_i ti x y ht hxo hyo
      split at h
      · rename_i c hc
        split at h
        · rename_i r hr
          obtain rfl := Option.some.inj h
          obtain ⟨u, hu, hxu⟩ := hx.get _ _ hxo
          obtain ⟨v, hv, hyv⟩ := hy.get _ _ hyo
          obtain ⟨hag, he⟩ := eqCV_ok (hT _ _ ht) hc hxu hyv d
          have ih := eqCells_ok hT hx hy d fs r hn.2 hr
          simp only [Op.eqFields, if_pos hn.1, Sem.run_bind, part, run_agg (hT _ _ ht), hag, Result.andThen_ok, Bool.false_eq_true, if_false, List.getElem?_toArray, hu, hv, Sem.run_pure, he]
          cases c
          · simp
          · simp [ih]
        · cases h
      · cases h
    · cases h

theorem eqGuard_other (op : BinOp) (t : TypeId) (xo yo : Operand) {u v : Value} (h1 : ¬ (u = .nilIface ∧ v = .nilIface)) (h2 : ∀ a b, ¬ (u = .agg a ∧ v = .agg b)) : (eqGuard op t xo yo u v).run P w = .ok () w := by
  cases op <;> first | (simp [eqGuard]; done) | (cases u <;> cases v <;> first | exact absurd ⟨rfl, rfl⟩ h1 | exact absurd ⟨rfl, rfl⟩ (h2 _ _) | (simp [eqGuard]; done))

theorem eqCV_guard {k : TK} {x y : CV} {b : Bool} (h : eqCV k x y = some b) {u v : Value} (hx : CVR M w Emp x u) (hy : CVR M w Emp y v) (op : BinOp) (t : TypeId) (xo yo : Operand) : (eqGuard op t xo yo u v).run P w = .ok () w := by
  refine eqGuard_other op t xo yo ?_ ?_
  · rintro ⟨rfl, rfl⟩
    unfold eqCV at h
    split at h <;> first | (cases h; done) | (cases hx; done) | (cases hy; done) | (cases hx with | t h9 => cases h9; done) | (cases hy with | t h9 => cases h9; done)
  · rintro a b ⟨rfl, rfl⟩
    unfold eqCV at h
    split at h <;> first | (cases h; done) | (cases hx; done) | (cases hy; done) | (cases hx with | t h9 => cases h9; done) | (cases hy with | t h9 => cases h9; done)

theorem binOp_eql {k : TK} {x y : CV} {b : Bool} (h : eqCV k x y = some b) (hk : (∀ i, k ≠ .int i) ∧ k ≠ .str) {u v : Value} (hx : CVR M w Emp x u) (hy : CVR M w Emp y v) (ty : TypeId) : Go.binOp .eql ty u v = (do pure (.bool (← Op.equal ty u v))) ∧ Go.binOp .neq ty u v = (do pure (.bool (!(← Op.equal ty u v)))) := by
  unfold eqCV at h
  split at h
  · rw [cv_bool hx, cv_bool hy]; exact ⟨rfl, rfl⟩
  · split at h
    · exact absurd rfl (hk.1 _)
    · cases h
  · split at h
    · exact absurd rfl hk.2
    · cases h
  · rw [cv_nilp hx, cv_nilp hy]; exact ⟨rfl, rfl⟩
  · obtain ⟨p, _, rfl⟩ := cv_mp hy; rw [cv_nilp hx]; exact ⟨rfl, rfl⟩
  · obtain ⟨p, _, rfl⟩ := cv_mp hx; rw [cv_nilp hy]; exact ⟨rfl, rfl⟩
  · rw [cv_nilf hx, cv_nilf hy]; exact ⟨rfl, rfl⟩
  · rw [cv_fn hx, cv_nilf hy]; exact ⟨rfl, rfl⟩
  · rw [cv_nilf hx, cv_fn hy]; exact ⟨rfl, rfl⟩
  · cases hx with
    | fnc => rw [cv_nilf hy]; exact ⟨rfl, rfl⟩
  · rw [cv_nilm hx, cv_nilm hy]; exact ⟨rfl, rfl⟩
  · obtain ⟨p, _, rfl⟩ := cv_mm hx; rw [cv_nilm hy]; exact ⟨rfl, rfl⟩
  · rw [cv_nili hy]; cases hx <;> exact ⟨rfl, rfl⟩
  · rw [cv_nili hx]; cases hy <;> exact ⟨rfl, rfl⟩
  · cases h

/-- A list that is surely not none. -/
def SV.many : SV → Bool
  | .c (.mr _ _ len) => decide (0 < len)
  | .c (.t (.sl _ rows)) => decide (0 < rows.length)
  | _ => false
def nilS (op : BinOp) (y : Operand) (X : SV) : Option TV :=
  match y with
  | .const (.slice none 0 0) => if X.many = true then (match op with | .eql => some (.bool false) | .neq => some (.bool true) | _ => none) else none
  | _ => none
theorem many_val {X : SV} {x : Value} (h : X.many = true) (hx : SVR M w X x) : ∃ a len cap, x = .slice (some a) len cap := by
  unfold SV.many at h
  split at h
  · have h' := of_decide_eq_true h
    cases hx with
    | mr0 => omega
    | mr => exact ⟨_, _, _, rfl⟩
  · have h' := of_decide_eq_true h
    cases hx with
    | t ht =>
      cases ht with
      | nil => simp at h'
      | sl => exact ⟨_, _, _, rfl⟩
  · cases h
theorem nilS_ok (hT : TOk P T) {op : BinOp} {ty : TypeId} {ti : TI} {e : TypeId} (ht : T ty = some ti) (hk : ti.k = .slice e) {X : SV} {v : TV} {yo : Operand} (h : nilS op yo X = some v) (xo yo' : Operand) {x y : Value} (hx : SVR M w X x) (hy : ∀ c, yo = .const c → y = c) :
    ∃ r, ((do eqGuard op ty xo yo' x y; Go.binOp op ty x y) : Sem Value).run P w = .ok r w ∧ ∀ hw w', TVR hw w' v r := by
  unfold nilS at h
  split at h
  · obtain rfl := hy _ rfl
    split at h
    · rename_i hm
      obtain ⟨a, len, cap, rfl⟩ := many_val hm hx
      obtain ⟨d, hd, hf⟩ := (hT _ _ ht).kind
      simp only [hk, TK.fits] at hf
      subst hf
      have he : (Op.equal ty (.slice (some a) len cap) (.slice none 0 0)).run P w = .ok false w := by
        have hg : ∀ d, (Op.equalIn (d + 1) ty (.slice (some a) len cap) (.slice none 0 0)).run P w = .ok false w := fun d => by simp [Op.equalIn, run_under hd]
        exact hg 9999
      have hg := eqGuard_other (P := P) (w := w) op ty xo yo' (u := .slice (some a) len cap) (v := .slice none 0 0) (by simp) (by simp)
      split at h
      · obtain rfl := Option.some.inj h
        exact ⟨.bool false, by simp [hg, Go.binOp, he], fun _ _ => .bool _⟩
      · obtain rfl := Option.some.inj h
        exact ⟨.bool true, by simp [hg, Go.binOp, he], fun _ _ => .bool _⟩
      · cases h
    · cases h
  · cases h

theorem binS_ok (hT : TOk P T) {op : BinOp} {ty : TypeId} {X Y : SV} {v : TV} (h : binS T op ty X Y = some v) (xo yo : Operand) {x y : Value}
    (hx : SVR M w X x) (hy : SVR M w Y y) : ∃ r, ((do eqGuard op ty xo yo x y; Go.binOp op ty x y) : Sem Value).run P w = .ok r w ∧ ∀ hw w', TVR hw w' v r := by
  unfold binS at h
  split at h
  · rename_i k a k' b
    have ha := cv_int hx
    have hb := cv_int hy
    subst ha hb
    simp only [Sem.run_bind, eqGuard_other op ty xo yo (u := .int k a) (v := .int k' b) (by simp) (by simp), Result.andThen_ok]
    split at h
    · exact shiftOp_ok h w ty
    · exact shiftOp_ok h w ty
    · rename_i h1 h2
      split at h
      · rename_i hk; subst hk
        exact intOp_ok h ⟨h1, h2⟩ w ty
      · cases h
  · rename_i a b
    have ha := cv_str hx
    have hb := cv_str hy
    subst ha hb
    simp only [Sem.run_bind, eqGuard_other op ty xo yo (u := .string a) (v := .string b) (by simp) (by simp), Result.andThen_ok]
    exact strOp_ok h w ty
  · rename_i xc yc _ _
    split at h
    · rename_i ti ht
      have key : ∀ (hk : (∀ i, ti.k ≠ .int i) ∧ ti.k ≠ .str), eqRes op (eqCV ti.k xc yc) = some v → ∃ r, ((do eqGuard op ty xo yo x y; Go.binOp op ty x y) : Sem Value).run P w = .ok r w ∧ ∀ hw w', TVR hw w' v r := by
        clear h
        intro hk h
        generalize hq : eqCV ti.k xc yc = ob at h
        unfold eqRes at h
        split at h
        · rename_i b
          have hb := hq
          obtain rfl := Option.some.inj h
          have he := (eqCV_ok (hT _ _ ht) hb hx hy 9999).2
          refine ⟨.bool b, ?_, fun _ _ => .bool _⟩
          rw [(binOp_eql hb hk hx hy ty).1]
          simp [eqCV_guard hb hx hy _ ty xo yo, Op.equal, Op.maxDepth, he]
        · rename_i b
          have hb := hq
          obtain rfl := Option.some.inj h
          have he := (eqCV_ok (hT _ _ ht) hb hx hy 9999).2
          refine ⟨.bool !b, ?_, fun _ _ => .bool _⟩
          rw [(binOp_eql hb hk hx hy ty).2]
          simp [eqCV_guard hb hx hy _ ty xo yo, Op.equal, Op.maxDepth, he]
        · cases h
      split at h
      · cases h
      · cases h
      · rename_i h1 h2
        exact key ⟨fun i e => h1 i e, h2⟩ h
    · cases h
  · rename_i xs ys
    obtain ⟨us, rfl, hxs⟩ := hx
    obtain ⟨vs, rfl, hys⟩ := hy
    split at h
    · rename_i ti ht
      split at h
      · rename_i fs hk
        split at h
        · rename_i hc
          obtain ⟨hst, hg⟩ := (hT _ _ ht).cmp hc
          obtain ⟨d, hd, hf⟩ := (hT _ _ ht).kind
          simp only [hk, TK.fits] at hf
          obtain ⟨fields, rfl, hfs, hnm⟩ := hf
          have hfo : P.fieldsOf ty = fields := by simp [Program.fieldsOf, hd]
          have key : ∀ b, eqCells T xs ys fs = some b → (Op.equal ty (.agg us.toArray) (.agg vs.toArray)).run P w = .ok b w := by
            intro b hb
            show (Op.equalIn (9999 + 1) ty _ _).run P w = _
            rw [run_equalIn_struct w 9999 ty _ _ (by rw [hfo]; exact hd) hst, hfo]
            exact eqCells_ok hT hxs hys 9998 fields.toList b hnm (by rw [hfs]; exact hb)
          generalize hq : eqCells T xs ys fs = ob at h
          unfold eqRes at h
          split at h
          · rename_i b
            have hb := hq
            obtain rfl := Option.some.inj h
            exact ⟨.bool b, by simp [run_eqGuard_agg w _ ty xo yo _ _ hg, Go.binOp, key b hb], fun _ _ => .bool _⟩
          · rename_i b
            have hb := hq
            obtain rfl := Option.some.inj h
            exact ⟨.bool !b, by simp [run_eqGuard_agg w _ ty xo yo _ _ hg, Go.binOp, key b hb], fun _ _ => .bool _⟩
          · cases h
        · cases h
      · cases h
    · cases h
  · cases h

theorem unS_ok {op : UnOp} {X : SV} {v : TV} (h : unS op X = some v) {x : Value} (hx : SVR M w X x) :
    ∃ r, (Op.unary op x).run P w = .ok r w ∧ ∀ hw w', TVR hw w' v r := by
  unfold unS at h
  split at h
  · rw [cv_bool hx]
    split at h
    · obtain rfl := Option.some.inj h; exact ⟨_, by simp [Op.unary] <;> rfl, fun _ _ => .bool _⟩
    · cases h
  · rename_i k n
    rw [cv_int hx]
    split at h
    · obtain rfl := Option.some.inj h; exact ⟨_, by simp [Op.unary, Op.intArith] <;> rfl, fun _ _ => .int _ _⟩
    · obtain ⟨r, hr, hv⟩ := intOp_ok (P := P) h ⟨by simp, by simp⟩ w 0
      exact ⟨r, by simpa [Op.unary, Go.binOp] using hr, hv⟩
    · cases h
  · cases h
end Go.Proofs.Ytgmjgognpabmdaa.Fx
