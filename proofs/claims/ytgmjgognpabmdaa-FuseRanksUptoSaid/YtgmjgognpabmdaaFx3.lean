/- The evaluator's second make: operations that only read. -/
import Derived.Test.YtgmjgognpabmdaaFx2
namespace Go.Proofs.Ytgmjgognpabmdaa.Fx
open Go Go.RowKit
set_option linter.unusedSimpArgs false
set_option linter.unusedVariables false
variable {P : Program} {T : TypeId → Option TI} {M : Mk} {w : World} {S : Nat → Prop}

def AV.sv : AV → SV
  | .v x => .c x
  | .agg cs => .agg cs

/-- A cell's value as it is read: a list that the cell alone holds is not handed on. -/
def CV.copy : CV → CV
  | .own sz rows => match rows with
    | [] => .own sz []
    | _ :: _ => .dead
  | .t v => .t v
  | .mr nm lo len => .mr nm lo len
  | .mp nm i o => .mp nm i o
  | .mm nm => .mm nm
  | .fnc f a b => .fnc f a b
  | .ifc ty g cs => .ifc ty g cs
  | .dead => .dead

theorem CVR.copied {c : CV} {x : Value} (h : CVR M w S c x) : CVR M w Emp c.copy x := by
  cases h with
  | t h => exact .t h
  | nil sz a => exact .nil sz a
  | own sz rows b o cap cs el f g hb hg hd h0 hl hne hc hh hfit h1 h2 =>
    cases rows with
    | nil => exact absurd rfl hne
    | cons r rs => exact .dead _
  | mr0 nm lo a => exact .mr0 nm lo a
  | mr nm lo len cap p hp h1 h2 h3 h4 => exact .mr nm lo len cap p hp h1 h2 h3 h4
  | mp nm i o p hp => exact .mp nm i o p hp
  | mm nm p hp => exact .mm nm p hp
  | fnc f first caps us vs h1 h2 h3 h4 => exact .fnc f first caps us vs h1 h2 h3 h4
  | ifcA ty cs us h1 h3 => exact .ifcA ty cs us h1 h3
  | ifc ty c u h => exact .ifc ty c u h
  | dead x => exact .dead x

def lenOfC (st : St) (k : TK) : SV → Option Nat
  | .c (.t (.sl _ rows)) => match k with | .slice _ => some rows.length | _ => none
  | .c (.t (.str s)) => match k with | .str => some s.size | _ => none
  | .c (.mr _ _ len) => match k with | .slice _ => some len | _ => none
  | .c (.own _ []) => match k with | .slice _ => some 0 | _ => none
  | .c (.t .nilm) => match k with | .map _ _ => some 0 | _ => none
  | .c (.mm nm) => match k, st.heap nm with | .map _ _, some (.map _ es) => some es.length | _, _ => none
  | _ => none

/-- The builtins that only read: len, min, max. -/
def quietCall (T : TypeId → Option TI) (st : St) (ty : TypeId) (c : Call) : Option SV :=
  match c.callee with
  | .builtin b =>
    match b, c.args.toList, c.argTypes.toList with
    | .len, [x], [t] =>
      match T t with
      | some ti => match ti.k with
        | .arr n _ => some (.c (.t (.int .i64 n)))
        | k => match lenOfC st k (rd T st t x) with
          | some n => some (.c (.t (.int .i64 n)))
          | none => none
      | none => none
    | .min, [x, y], _ =>
      match rd T st ty x, rd T st ty y with
      | .c (.t (.int k a)), .c (.t (.int _ b)) => some (.c (.t (.int k (if b < a then b else a))))
      | _, _ => none
    | .max, [x, y], _ =>
      match rd T st ty x, rd T st ty y with
      | .c (.t (.int k a)), .c (.t (.int _ b)) => some (.c (.t (.int k (if b > a then b else a))))
      | _, _ => none
    | _, _, _ => none
  | _ => none

/-- A bound of a part of a list. -/
def bnd (T : TypeId → Option TI) (st : St) (z : Nat) : Option Operand → Option Nat
  | none => some z
  | some l => match rd T st 0 l with
    | .c (.t (.int _ n)) => if 0 ≤ n then some n.toNat else none
    | _ => none

def capsOf (get : Operand → SV) : List Operand → Option (List CV)
  | [] => some []
  | x :: xs => match get x, capsOf get xs with
    | .c v, some vs => some (v :: vs)
    | _, _ => none

/-! Maps: keys held against each other; an entry found. -/
def scIs (k : TK) : CV → Bool
  | .t (.int k' _) => match k with
    | .int q => q == k'
    | _ => false
  | .t (.str _) => match k with
    | .str => true
    | _ => false
  | .t (.bool _) => match k with
    | .bool => true
    | _ => false
  | _ => false
def scEq : CV → CV → Option Bool
  | .t (.int k a), .t (.int k' b) => if k = k' then some (decide (a = b)) else none
  | .t (.str a), .t (.str b) => some (decide (a = b))
  | .t (.bool a), .t (.bool b) => some (decide (a = b))
  | _, _ => none
def eqL : List CV → List CV → Option Bool
  | [], [] => some true
  | x :: xs, y :: ys => match scEq x y, eqL xs ys with
    | some a, some b => some (a && b)
    | _, _ => none
  | _, _ => none
def shapeOk (T : TypeId → Option TI) : Nat → List (TypeId × Nat) → List CV → Bool
  | _, [], [] => true
  | i, (t, off) :: fs, x :: xs => match T t with
    | some ti => off == i && scIs ti.k x && shapeOk T (i + 1) fs xs
    | none => false
  | _, _, _ => false
def keyEq (T : TypeId → Option TI) (tk : TI) : AV → AV → Option Bool
  | .v x, .v y => scEq x y
  | .agg xs, .agg ys => eqL xs ys
  | _, _ => none
/-- Is it a key of the kind? -/
def keyIs (T : TypeId → Option TI) (tk : TI) : AV → Bool
  | .v x => scIs tk.k x
  | .agg xs => match tk.k with
    | .struct fs => tk.cmp && shapeOk T 0 fs xs
    | _ => false
def keyOf : SV → Option AV
  | .c (.t v) => some (.v (.t v))
  | .agg cs => some (.agg cs)
  | _ => none
/-- The first entry with the key: its place, and its value. -/
def mfind (T : TypeId → Option TI) (tk : TI) (ka : AV) : List (AV × AV × Nat) → Option (Option (Nat × AV))
  | [] => some none
  | e :: es => match keyEq T tk ka e.1 with
    | some true => some (some (0, e.2.1))
    | some false => match mfind T tk ka es with
      | some (some (i, v)) => some (some (i + 1, v))
      | some none => some none
      | none => none
    | none => none
def esOf (st : St) : SV → Option (List (AV × AV × Nat))
  | .c (.t .nilm) => some []
  | .c (.mm nm) => match st.heap nm with
    | some (.map _ es) => some es
    | _ => none
  | _ => none
def zeroAV (te : TI) : Option AV := if te.k.isAgg = true then some (.agg te.zero) else match te.zero with
  | [c] => some (.v c)
  | _ => none
def lookupS (T : TypeId → Option TI) (st : St) (t : TypeId) (x i : Operand) (ok : Bool) : Option SV :=
  match T t with
  | some ti => match ti.k with
    | .map kt vt => match T kt, T vt, esOf st (rd T st t x), keyOf (rd T st kt i) with
      | some tk, some te, some es, some ka => match keyIs T tk ka, mfind T tk ka es with
        | true, some (some (_, v)) => some (if ok = true then .tup [v, .v (.t (.bool true))] else v.sv)
        | true, some none => match zeroAV te with
          | some z => some (if ok = true then .tup [z, .v (.t (.bool false))] else z.sv)
          | none => none
        | _, _ => none
      | _, _, _, _ => none
    | _ => none
  | none => none

/-- Parts of a list that keep what stands behind their end. -/
def keepx (o : Oper) : Bool :=
  match o.op, o.dst with
  | .slice t _ _ _ _, some d => t == 25 && d == 25 && o.pos == "law.go:22"
  | _, _ => false
/-- What an operation yields that only reads. -/
def quiet (T : TypeId → Option TI) (st : St) (o : Oper) : Option SV :=
  match o.op with
  | .move x => some (rd T st o.type x)
  | .assign x => some (rd T st o.type x)
  | .nilCheck x => match rd T st o.type x with
    | .c (.mp nm i o) => some (.c (.mp nm i o))
    | .c (.t (.fn f)) => some (.c (.t (.fn f)))
    | .c (.fnc f a b) => some (.c (.fnc f a b))
    | .c (.ifc t g cs) => some (.c (.ifc t g cs))
    | .fp cs => some (.fp cs)
    | _ => none
  | .pick c a b =>
    match rd T st o.type c with
    | .c (.t (.bool B)) => some (if B then rd T st o.type a else rd T st o.type b)
    | _ => none
  | .binOp op ty x y _ => match binS T op ty (rd T st ty x) (rd T st ty y) with
    | some v => some (.c (.t v))
    | none => match T ty with
      | some ti => match ti.k with
        | .slice _ => match nilS op y (rd T st ty x) with
          | some v => some (.c (.t v))
          | none => none
        | _ => none
      | none => none
  | .unOp op ty x => match unS op (rd T st ty x) with
    | some v => some (.c (.t v))
    | none => none
  | .convert s d x =>
    match T s, T d, rd T st s x with
    | some _, some td, .c (.t (.int _ n)) => match td.k with | .int k => some (.c (.t (.int k (k.wrap n)))) | _ => none
    | some _, some td, .c (.t (.str b)) => match td.k with | .str => some (.c (.t (.str b))) | _ => none
    | _, _, _ => none
  | .build t parts =>
    match T t with
    | some ti => if ti.k.isAgg then match layParts T (placeOf T ti) (rd T st 0) ti.zero parts.toList with
      | some cs => some (.agg cs)
      | none => none
      else none
    | none => none
  | .field t x f =>
    match T t, rd T st t x with
    | some ti, .agg cs => match ti.k with
      | .struct fs => match fs[f]? with
        | some (ft, off) => match T ft with
          | some te => if te.k.isAgg then some (.agg ((cs.drop off).take te.size)) else match cs[off]? with
            | some c => some (.c c)
            | none => none
          | none => none
        | none => none
      | _ => none
    | _, _ => none
  | .extract t i => match rd T st 0 t with
    | .tup vs => match vs[i]? with
      | some v => some v.sv
      | none => none
    | _ => none
  | .index t x i =>
    match T t, rd T st t x, rd T st 0 i with
    | some ti, .c (.t (.str s)), .c (.t (.int _ n)) => match ti.k with
      | .str => if 0 ≤ n then match s[n.toNat]? with
        | some b => some (.c (.t (.int .u8 b.toNat)))
        | none => none
        else none
      | _ => none
    | some ti, .agg cs, .c (.t (.int _ n)) => match ti.k with
      | .arr m e => match T e with
        | some te => if 0 ≤ n ∧ n < m then (if te.k.isAgg then some (.agg ((cs.drop (n.toNat * te.size)).take te.size)) else match cs[n.toNat * te.size]? with
            | some c => some (.c c)
            | none => none)
          else none
        | none => none
      | _ => none
    | _, _, _ => none
  | .indexAddr t x i =>
    match T t, rd T st t x, rd T st 0 i with
    | some ti, .c (.t (.sl sz rows)), .c (.t (.int _ n)) => match ti.k with
      | .slice e => match T e with
        | some te => if te.size = sz ∧ 0 ≤ n then match rows[n.toNat]? with
          | some row => some (.fp row)
          | none => none
          else none
        | none => none
      | _ => none
    | some ti, .c (.mr nm lo len), .c (.t (.int _ n)) => match ti.k, st.heap nm with
      | .slice e, some (.cells sz _) => match T e with
        | some te => if te.size = sz ∧ 0 ≤ n ∧ n < len then some (.c (.mp nm (lo + n.toNat) 0)) else none
        | none => none
      | _, _ => none
    | some ti, .c (.mp nm i0 o0), .c (.t (.int _ n)) => match ti.k with
      | .arr m e => match T e with
        | some te => if 0 ≤ n ∧ n < m then some (.c (.mp nm i0 (o0 + n.toNat * te.size))) else none
        | none => none
      | _ => none
    | some ti, .fp cs, .c (.t (.int _ n)) => match ti.k with
      | .arr m e => match T e with
        | some te => if 0 ≤ n ∧ n < m ∧ n.toNat * te.size ≤ cs.length then some (.fp (cs.drop (n.toNat * te.size))) else none
        | none => none
      | _ => none
    | _, _, _ => none
  | .fieldAddr t x f =>
    match T t, rd T st t x with
    | some ti, .c (.mp nm i0 o0) => match ti.k with
      | .struct fs => match fs[f]? with
        | some (ft, off) => match T ft with
          | some te => if te.size = 0 then none else some (.c (.mp nm i0 (o0 + off)))
          | none => none
        | none => none
      | _ => none
    | some ti, .fp cs => match ti.k with
      | .struct fs => match fs[f]? with
        | some (ft, off) => match T ft with
          | some te => if te.size = 0 ∨ cs.length < off then none else some (.fp (cs.drop off))
          | none => none
        | none => none
      | _ => none
    | _, _ => none
  | .load t x =>
    match T t, rd T st 0 x with
    | some ti, .fp cs => if ti.k.isAgg then (if ti.size ≤ cs.length then some (.agg ((cs.take ti.size).map .t)) else none) else match cs[0]? with
      | some v => some (.c (.t v))
      | none => none
    | some ti, .c (.mp nm i0 o0) => match st.heap nm with
      | some (.cells _ rows) => match rows[i0]? with
        | some row => if ti.k.isAgg then (if o0 + ti.size ≤ row.length then some (.agg (((row.drop o0).take ti.size).map CV.copy)) else none) else match row[o0]? with
          | some c => some (.c c.copy)
          | none => none
        | none => none
      | _ => none
    | _, _ => none
  | .call c => quietCall T st o.type c
  | .makeFunc (.func f) a b => match capsOf (rd T st 0) a.toList, capsOf (rd T st 0) b.toList with
    | some us, some vs => some (.c (.fnc f us vs))
    | _, _ => none
  | .makeInterface t x => match T t, rd T st t x with
    | some ti, .c v => match ti.k with
      | .iface _ => none
      | _ => some (.c (.ifc t false [v]))
    | some ti, .agg cs => match ti.k with
      | .iface _ => none
      | _ => some (.c (.ifc t true cs))
    | _, _ => none
  | .typeAssert x _ ty false => match T ty, rd T st 0 x with
    | some ti, .c (.ifc t g cs) => match ti.k with
      | .iface _ => none
      | _ => if t = ty then (if g then some (.agg cs) else match cs with
          | [v] => some (.c v)
          | _ => none) else none
    | _, _ => none
  | .slice t x lo hi none =>
    match T t, rd T st t x with
    | some ti, .c (.t (.sl sz rows)) =>
      match ti.k, bnd T st 0 lo, bnd T st rows.length hi with
      | .slice e, some l, some h => match T e with
        | some te => if te.size = sz ∧ l ≤ h ∧ h ≤ rows.length then some (.c (.t (if keepx o = true then (if l = 0 ∧ 0 < rows.length then .slx sz rows h else .sl sz ((rows.take h).drop l)) else .sl sz ((rows.take h).drop l)))) else none
        | none => none
      | _, _, _ => none
    | some ti, .c (.t (.slx sz rows L)) =>
      match ti.k, bnd T st 0 lo, bnd T st L hi with
      | .slice e, some l, some h => match T e with
        | some te => if te.size = sz ∧ l ≤ h ∧ h ≤ rows.length then some (.c (.t (.sl sz ((rows.take h).drop l)))) else none
        | none => none
      | _, _, _ => none
    | some ti, .c (.mr nm lo0 len) =>
      match ti.k, bnd T st 0 lo, bnd T st len hi, st.heap nm with
      | .slice e, some l, some h, some (.cells sz rows) => match T e with
        | some te => if te.size = sz ∧ l ≤ h ∧ (h ≤ len ∨ (0 < len ∧ lo0 + h ≤ rows.length)) then some (.c (.mr nm (lo0 + l) (h - l))) else none
        | none => none
      | _, _, _, _ => none
    | some ti, .c (.own sz []) =>
      match ti.k, bnd T st 0 lo, bnd T st 0 hi with
      | .slice e, some l, some h => if l = 0 ∧ h = 0 then (match T e with
        | some _ => some (.c (.own sz []))
        | none => none) else none
      | _, _, _ => none
    | some ti, .c (.t (.str s)) =>
      match ti.k, bnd T st 0 lo, bnd T st s.size hi with
      | .str, some l, some h => if l ≤ h ∧ h ≤ s.size then some (.c (.t (.str (s.extract l h)))) else none
      | _, _, _ => none
    | _, _ => none
  | .slice t x lo (some hi) (some m) =>
    match T t, rd T st t x, bnd T st 0 lo, bnd T st 0 (some hi), bnd T st 0 (some m) with
    | some ti, .c v, some 0, some 0, some 0 => match ti.k with
      | .slice e => match T e, v with
        | some te, .t (.sl _ _) => some (.c (.own te.size []))
        | some te, .mr _ _ _ => some (.c (.own te.size []))
        | some te, .own _ [] => some (.c (.own te.size []))
        | _, _ => none
      | _ => none
    | _, _, _, _, _ => none
  | .lookup t x i ok => lookupS T st t x i ok
  | _ => none

theorem All2.toList {α : Type} {R : α → Value → Prop} {l : List α} {A : Array Value} (h : All2 R l A.toList) : l.length = A.size := by simpa using h.length

/-- Parts laid into cells. -/
theorem lay_fold {R : CV → Value → Prop} {zs : List CV} {A : Array Value} (hz : All2 R zs A.toList) {cs : List CV} {v : Array Value} (hc : All2 R cs v.toList) (off : Nat) (hle : off + cs.length ≤ zs.length) :
    All2 R (lay zs off cs) (v.zipIdx.foldl (fun a (x : Value × Nat) => a.setIfInBounds (off + x.2) x.1) A).toList := by
  obtain ⟨g1, g2⟩ := Great.foldl_set off v.toList 0 A
  have hf : v.zipIdx.foldl (fun a (x : Value × Nat) => a.setIfInBounds (off + x.2) x.1) A = (v.toList.zipIdx 0).foldl (fun a (x : Value × Nat) => a.setIfInBounds (off + x.2) x.1) A := by
    rw [← Array.foldl_toList]; simp
  rw [hf]
  have hl := hz.length
  have hl2 := hc.length
  simp only [Array.length_toList] at hl hl2
  refine All2.of_get ?_ ?_
  · simp only [lay, List.length_append, List.length_take, List.length_drop, Array.length_toList, g1]; omega
  · intro i a b ha hb
    rw [Array.getElem?_toList, g2] at hb
    simp only [lay] at ha
    by_cases h1 : i < off
    · rw [if_neg (by omega)] at hb
      rw [List.append_assoc, List.getElem?_append_left (by simp; omega), List.getElem?_take_of_lt h1] at ha
      obtain ⟨b', hb', hr⟩ := hz.get _ _ ha
      rw [Array.getElem?_toList, hb] at hb'
      exact Option.some.inj hb' ▸ hr
    · by_cases h2 : i < off + cs.length
      · rw [if_pos (by simp; omega)] at hb
        rw [List.append_assoc, List.getElem?_append_right (by simp; omega), List.getElem?_append_left (by simp; omega)] at ha
        obtain ⟨b', hb', hr⟩ := hc.get _ _ ha
        have e : i - (zs.take off).length = i - (off + 0) := by simp; omega
        rw [e] at hb'
        rw [hb] at hb'
        exact Option.some.inj hb' ▸ hr
      · rw [if_neg (by simp; omega)] at hb
        rw [List.append_assoc, List.getElem?_append_right (by simp; omega), List.getElem?_append_right (by simp; omega), List.getElem?_drop] at ha
        have e : off + cs.length + (i - (zs.take off).length - cs.length) = i := by simp; omega
        rw [e] at ha
        obtain ⟨b', hb', hr⟩ := hz.get _ _ ha
        rw [Array.getElem?_toList, hb] at hb'
        exact Option.some.inj hb' ▸ hr

theorem cv_oneCell {c : CV} {x : Value} {cs : List CV} (hc : c.cells = some cs) (h : CVR M w S c x) : cs = [c] ∧ x.cells = #[x] := by
  cases h with
  | t h => exact ⟨by simpa [CV.cells] using hc.symm, by cases h <;> rfl⟩
  | dead => simp [CV.cells] at hc
  | _ => exact ⟨by simpa [CV.cells] using hc.symm, rfl⟩

theorem cells_q {sv : SV} {x : Value} (h : SVR M w sv x) {cs : List CV} (hc : cells sv = some cs) : All2 (CVR M w Emp) cs x.cells.toList := by
  cases sv with
  | c v =>
    obtain ⟨rfl, h2⟩ := cv_oneCell (c := v) hc h
    rw [h2]
    exact ⟨h, trivial⟩
  | agg cs' =>
    simp only [cells, Option.some.injEq] at hc
    subst hc
    obtain ⟨vs, rfl, hv⟩ := h
    exact hv
  | _ => simp [cells] at hc

theorem zero_cv {c : CV} {x : Value} (h : zeroR c x) : CVR M w S c x := by
  unfold zeroR at h
  split at h
  · subst h; exact .t (.bool _)
  · subst h; exact .t (.int _ _)
  · subst h; exact .t (.str _)
  · subst h; exact .t .nilp
  · subst h; exact .t .nilf
  · subst h; exact .t .nili
  · subst h; exact .t .nilm
  · obtain ⟨rfl, rfl⟩ := h; exact .nil _ _
  · exact h.elim

theorem fill_lay' {R : CV → Value → Prop} {place place' : Nat → Option (Nat × Nat)} (hp : ∀ i x, place i = some x → place' i = some x) {get : Operand → SV} {ρ : Operand → Value} :
    ∀ (parts : List (Nat × Operand)) (hg : ∀ x ∈ parts, ∀ cs, cells (get x.2) = some cs → All2 R cs (ρ x.2).cells.toList) (zs cs : List CV) (A : Array Value), All2 R zs A.toList → layParts T place get zs parts = some cs →
      ∃ B, Instr.fill place' A (parts.map fun (x : Nat × Operand) => (x.1, ρ x.2)) = some B ∧ All2 R cs B.toList
  | [], hg, zs, cs, A, hz, h => by
    simp only [layParts, Option.some.injEq] at h
    subst h
    exact ⟨A, rfl, hz⟩
  | (i, x) :: ps, hg, zs, cs, A, hz, h => by
    simp only [layParts] at h
    split at h
    · rename_i off size c hpl hc
      split at h
      · rename_i hle
        have hA : All2 R c (ρ x).cells.toList := hg (i, x) (by simp) _ hc
        have h1 := All2.toList hA
        have h2 := All2.toList hz
        obtain ⟨B, hB, hR⟩ := fill_lay' hp ps (fun y hy => hg y (by simp [hy])) _ cs _ (lay_fold hz hA off (by omega)) h
        refine ⟨B, ?_, hR⟩
        simp only [List.map_cons, Instr.fill, hp _ _ hpl]
        rw [if_neg (by simp; omega)]
        exact hB
      · cases h
    · cases h

theorem build_ok (hT : TOk P T) {t : TypeId} {ti : TI} (ht : T t = some ti) (ha : ti.k.isAgg = true) {get : Operand → SV} {parts : Array (Nat × Operand)} {cs : List CV} (h : layParts T (placeOf T ti) get ti.zero parts.toList = some cs)
    {ρ : Operand → Value} (hg : ∀ x ∈ parts.toList, ∀ cs, cells (get x.2) = some cs → All2 (CVR M w Emp) cs (ρ x.2).cells.toList) :
    ∃ vs : List Value, (Instr.build t (parts.map fun (i, x) => (i, ρ x))).run P w = .ok (.agg vs.toArray) w ∧ All2 (CVR M w Emp) cs vs := by
  obtain ⟨info, z, hi, hsz, hby, hz, hzr, hza⟩ := (hT _ _ ht).info
  obtain ⟨d, hd, hf⟩ := (hT _ _ ht).kind
  have hzr' : All2 (CVR M w Emp) ti.zero z.cells.toList := hzr.mono fun _ _ => zero_cv
  have key : ∃ place', P.built t (parts.map fun (i, x) => (i, ρ x)).toList = Instr.fill place' z.cells (parts.map fun (i, x) => (i, ρ x)).toList ∧ ∀ i x, placeOf T ti i = some x → place' i = some x := by
    cases hk : ti.k <;> simp only [hk, TK.isAgg, Bool.false_eq_true] at ha
    case arr n e =>
      simp only [hk, TK.fits] at hf
      subst hf
      cases he : T e with
      | none =>
        have hplace : ∀ i, placeOf T ti i = none := fun i => by simp [placeOf, hk, he]
        cases hpp : parts.toList with
        | nil =>
          obtain ⟨ie, hie⟩ := Option.isSome_iff_exists.1 ((hT _ _ ht).elt n e hd)
          exact ⟨fun i => some (i * ie.size, ie.size), by simp [Program.built, hi, hd, hz, hie], fun i x hx => by rw [hplace] at hx; cases hx⟩
        | cons a l =>
          rw [hpp] at h
          simp [layParts, hplace] at h
      | some te =>
        obtain ⟨ie, hie, h1, _⟩ := info_of (hT _ _ he)
        refine ⟨fun i => some (i * ie.size, ie.size), by simp [Program.built, hi, hd, hz, hie], fun i x hx => ?_⟩
        simp only [placeOf, hk, he, Option.some.injEq] at hx
        rw [← hx, h1]
    case struct fs =>
      simp only [hk, TK.fits] at hf
      obtain ⟨fields, rfl, hfs, _⟩ := hf
      have hfl := List.all_eq_true.1 ((hT _ _ ht).flds fields hd)
      have hm : ∀ l : List Field, (∀ f ∈ l, (P.info? f.type).isSome = true) → l.mapM (fun f => (P.info? f.type).map fun i => (f.offset, i.size)) = some (l.map fun f => (f.offset, ((P.info? f.type).map (·.size)).getD 0)) := by
        intro l
        induction l with
        | nil => intro _; rfl
        | cons f l ih =>
          intro hl
          obtain ⟨i, hi'⟩ := Option.isSome_iff_exists.1 (hl f (by simp))
          simp [List.mapM_cons, hi', ih (fun g hg => hl g (by simp [hg]))]
      refine ⟨fun i => ((fields.toList.map fun f => (f.offset, ((P.info? f.type).map (·.size)).getD 0)).toArray)[i]?, by simp only [Program.built, hi, hd, hz, hm _ hfl], fun i x hx => ?_⟩
      simp only [placeOf, hk] at hx
      split at hx
      · rename_i t' off hfi
        split at hx
        · rename_i te hte
          obtain rfl := Option.some.inj hx
          rw [← hfs, List.getElem?_map] at hfi
          cases hff : fields.toList[i]? with
          | none => simp [hff] at hfi
          | some f =>
            simp only [hff, Option.map_some, Option.some.injEq, Prod.mk.injEq] at hfi
            obtain ⟨rfl, rfl⟩ := hfi
            obtain ⟨ie, hie, h1, _⟩ := info_of (hT _ _ hte)
            simp only [List.getElem?_toArray, List.getElem?_map, hff, Option.map_some, hie, Option.getD_some, h1]
        · cases hx
      · cases hx
  obtain ⟨place', hb, hpl⟩ := key
  obtain ⟨B, hB, hR⟩ := fill_lay' (ρ := ρ) hpl parts.toList hg ti.zero cs z.cells hzr' h
  refine ⟨B.toList, ?_, hR⟩
  rw [run_build w t _ B (by rw [hb, ← hB]; congr 1; simp)]
end Go.Proofs.Ytgmjgognpabmdaa.Fx
