import Derived.Test.YteoddaeipckgcaaEv1
import Derived.Laws.StructEq
import Derived.Great.BuildSlice
namespace Go.Proofs.Yteoddaeipckgcaa.Ev
open Go Go.RowKit

inductive TK where
  | bool
  | int (k : IntKind)
  | str
  | slice (e : TypeId)
  | arr (n : Nat) (e : TypeId)
  | struct (fs : List (TypeId × Nat))
  | ptr (e : TypeId)

/-- What is used of a type: its kind, its cells, its bytes, its zero; whether structs of it may be held against each other cell by cell. -/
structure TI where
  k : TK
  size : Nat
  bytes : Nat
  zero : List CV
  cmp : Bool := false

def TK.fits : TK → TypeDesc → Prop
  | .bool, d => d = .bool
  | .int k, d => d = .int k
  | .str, d => d = .string
  | .slice e, d => d = .slice e
  | .arr n e, d => d = .array n e
  | .struct fs, d => ∃ fields : Array Field, d = .struct fields ∧ fields.toList.map (fun f => (f.type, f.offset)) = fs ∧ fields.toList.all (fun f => f.name != "_") = true
  | .ptr e, d => d = .pointer e

def TK.isAgg : TK → Bool
  | .arr _ _ | .struct _ => true
  | _ => false

def zeroR : CV → Value → Prop
  | .t (.bool b), x => x = .bool b
  | .t (.int k n), x => x = .int k n
  | .t (.str s), x => x = .string s
  | .t .nilp, x => x = .pointer none
  | .t (.sl _ _), _ => False
  | .own _ rows, x => rows = [] ∧ x = .slice none 0 0

structure TIOk (P : Program) (t : TypeId) (ti : TI) : Prop where
  info : ∃ info z, P.info? t = some info ∧ info.size = ti.size ∧ info.bytes = ti.bytes ∧ info.zero = some z ∧ All2 zeroR ti.zero z.cells.toList ∧ (ti.k.isAgg = true → ∃ cs, z = .agg cs)
  zlen : ti.zero.length = ti.size
  kind : ∃ d, P.underlying t = some d ∧ ti.k.fits d
  flds : ∀ fields, P.underlying t = some (.struct fields) → fields.toList.all (fun f => (P.info? f.type).isSome) = true
  elt : ∀ n e, P.underlying t = some (.array n e) → (P.info? e).isSome = true
  cmp : ti.cmp = true → P.stoodInHeld t = false ∧ P.eqGuardType P.depth t = false

def TOk (P : Program) (T : TypeId → Option TI) : Prop := ∀ t ti, T t = some ti → TIOk P t ti

def CV.tv : CV → TV
  | .t v => v
  | .own sz rows => .sl sz rows

def SV.drop : SV → SV
  | .c v => .c (.t v.tv)
  | v => v

def cst : Value → SV
  | .bool b => .c (.t (.bool b))
  | .int k n => .c (.t (.int k n))
  | .string s => .c (.t (.str s))
  | .slice none 0 0 => .c (.own 0 [])
  | .pointer none => .c (.t .nilp)
  | _ => .undef

/-- A list that is none, of the type's rows. -/
def rety (T : TypeId → Option TI) (ty : TypeId) : SV → SV
  | .c (.own sz []) =>
    match T ty with
    | some ti => match ti.k with
      | .slice e => match T e with
        | some te => .c (.own te.size [])
        | none => .c (.own sz [])
      | _ => .c (.own sz [])
    | none => .c (.own sz [])
  | v => v

/-- An operand as it is read: no room behind a list is handed on (a constant nil has none). -/
def rd (T : TypeId → Option TI) (st : St) (ty : TypeId) : Operand → SV
  | .tmp t => (st.slots t).drop
  | .const v => rety T ty (cst v)
  | _ => .undef

def intOp (op : BinOp) (k : IntKind) (a b : Int) : Option TV :=
  match op with
  | .add => some (.int k (k.wrap (a + b)))
  | .sub => some (.int k (k.wrap (a - b)))
  | .mul => some (.int k (k.wrap (a * b)))
  | .quo => if b = 0 then none else some (.int k (k.wrap (a.tdiv b)))
  | .rem => if b = 0 then none else some (.int k (a.tmod b))
  | .and => some (.int k (k.wrap (BitVec.ofInt k.bits a &&& BitVec.ofInt k.bits b).toNat))
  | .or => some (.int k (k.wrap (BitVec.ofInt k.bits a ||| BitVec.ofInt k.bits b).toNat))
  | .xor => some (.int k (k.wrap (BitVec.ofInt k.bits a ^^^ BitVec.ofInt k.bits b).toNat))
  | .andNot => some (.int k (k.wrap (BitVec.ofInt k.bits a &&& ~~~ BitVec.ofInt k.bits b).toNat))
  | .eql => some (.bool (a == b))
  | .neq => some (.bool (a != b))
  | .lss => some (.bool (decide (a < b)))
  | .leq => some (.bool (decide (a ≤ b)))
  | .gtr => some (.bool (decide (a > b)))
  | .geq => some (.bool (decide (a ≥ b)))
  | .shl | .shr => none

def shiftOp (op : BinOp) (k : IntKind) (a b : Int) : Option TV :=
  if b < 0 then none else
  match op with
  | .shl => some (.int k (k.wrap (a * 2 ^ (min b.toNat k.bits))))
  | .shr => some (.int k (a.fdiv (2 ^ (min b.toNat k.bits))))
  | _ => none

def strOp (op : BinOp) (a b : ByteArray) : Option TV :=
  match op with
  | .eql => some (.bool (a.toList == b.toList))
  | .neq => some (.bool (!(a.toList == b.toList)))
  | .lss => some (.bool (Op.bytesLess a.toList b.toList))
  | _ => none

/-- Two cells, held against each other, by their type. -/
def eqTV (k : TK) : TV → TV → Option Bool
  | .bool a, .bool b => match k with | .bool => some (a == b) | _ => none
  | .int i a, .int j b => match k with | .int _ => if i = j then some (a == b) else none | _ => none
  | .str a, .str b => match k with | .str => some (a.toList == b.toList) | _ => none
  | _, _ => none

def eqCells (T : TypeId → Option TI) (xs ys : List CV) : List (TypeId × Nat) → Option Bool
  | [] => some true
  | (t, off) :: fs =>
    match T t, xs[off]?, ys[off]? with
    | some ti, some x, some y => match eqTV ti.k x.tv y.tv with
      | some b => match eqCells T xs ys fs with
        | some r => some (b && r)
        | none => none
      | none => none
    | _, _, _ => none

def binS (T : TypeId → Option TI) (op : BinOp) (ty : TypeId) : SV → SV → Option TV
  | .c (.t (.int k a)), .c (.t (.int k' b)) =>
    match op with
    | .shl | .shr => shiftOp op k a b
    | _ => if k = k' then intOp op k a b else none
  | .c (.t (.str a)), .c (.t (.str b)) => strOp op a b
  | .c (.t (.bool a)), .c (.t (.bool b)) =>
    match T ty with
    | some ti => match ti.k, op with
      | .bool, .eql => some (.bool (a == b))
      | .bool, .neq => some (.bool (!(a == b)))
      | _, _ => none
    | none => none
  | .agg xs, .agg ys =>
    match T ty with
    | some ti => match ti.k with
      | .struct fs => if ti.cmp then match eqCells T xs ys fs, op with
        | some b, .eql => some (.bool b)
        | some b, .neq => some (.bool (!b))
        | _, _ => none
        else none
      | _ => none
    | none => none
  | _, _ => none

def unS (op : UnOp) : SV → Option TV
  | .c (.t (.bool b)) => match op with | .not => some (.bool !b) | _ => none
  | .c (.t (.int k n)) => match op with
    | .neg => some (.int k (k.wrap (0 - n)))
    | .xor => intOp .xor k (if k.signed then -1 else k.max) n
    | _ => none
  | _ => none

def cells : SV → Option (List CV)
  | .c v => some [v]
  | .agg cs => some cs
  | _ => none

/-- Cells laid over others from a place on. -/
def lay (zs : List CV) (off : Nat) (cs : List CV) : List CV := zs.take off ++ cs ++ zs.drop (off + cs.length)

def layParts (T : TypeId → Option TI) (place : Nat → Option (Nat × Nat)) (get : Operand → SV) : List CV → List (Nat × Operand) → Option (List CV)
  | zs, [] => some zs
  | zs, (i, x) :: ps =>
    match place i, cells (get x) with
    | some (off, size), some cs => if cs.length = size ∧ off + size ≤ zs.length then layParts T place get (lay zs off cs) ps else none
    | _, _ => none

def placeOf (T : TypeId → Option TI) (ti : TI) (i : Nat) : Option (Nat × Nat) :=
  match ti.k with
  | .struct fs => match fs[i]? with
    | some (t, off) => match T t with | some te => some (off, te.size) | none => none
    | none => none
  | .arr _ e => match T e with | some te => some (i * te.size, te.size) | none => none
  | _ => none
end Go.Proofs.Yteoddaeipckgcaa.Ev
