import Derived.Calls
import Derived.Below
import Derived.Orders
import Derived.Deep.AppendSrc
import Derived.Laws.CopyRow
import Derived.Laws.IdiomCopy
import Derived.Laws.NewBlocks
namespace Go.Proofs.Yteoddaeipckgcaa.Ev
open Go Go.RowKit

/-- What a program computes with, apart from memory: numbers, texts, and lists of rows of cells (a slice is told by what it holds). -/
inductive TV where
  | bool (b : Bool)
  | int (k : IntKind) (n : Int)
  | str (s : ByteArray)
  | sl (sz : Nat) (rows : List (List TV))
  | nilp

/-- A cell of a variable: a value, or a list that may grow in place (it alone holds the room behind its end). -/
inductive CV where
  | t (v : TV)
  | own (sz : Nat) (rows : List (List TV))

/-- An argument or a result: a value, or a struct's cells. -/
inductive AV where
  | v (x : TV)
  | agg (cs : List TV)

/-- What a slot holds. -/
inductive SV where
  | undef
  | c (v : CV)
  | agg (cs : List CV)
  | tup (vs : List AV)
  | fp (cells : List TV)
  | mr (nm lo len : Nat)
  | mp (nm i o : Nat)

structure Blk where
  sz : Nat
  rows : List (List CV)

structure St where
  slots : Nat → SV
  heap : Nat → Option Blk

inductive Loc where
  | slot (t : Nat)
  | cell (nm i j : Nat)

/-- What is known of the world beside the state: how far a block is written for good; where a name's block stands; who holds the room behind a list. -/
structure Gh where
  hw : Nat → Nat
  ph : Nat → Nat × Nat
  own : Nat → Option Loc

def All2 {α β : Type} (R : α → β → Prop) : List α → List β → Prop
  | [], [] => True
  | a :: l, b :: m => R a b ∧ All2 R l m
  | _, _ => False

theorem All2.length {α β : Type} {R : α → β → Prop} : ∀ {l : List α} {m : List β}, All2 R l m → l.length = m.length
  | [], [], _ => rfl
  | _ :: _, _ :: _, h => by simp [All2.length h.2]
  | [], _ :: _, h => h.elim
  | _ :: _, [], h => h.elim

theorem All2.mono {α β : Type} {R S : α → β → Prop} (hi : ∀ a b, R a b → S a b) : ∀ {l : List α} {m : List β}, All2 R l m → All2 S l m
  | [], [], _ => trivial
  | _ :: _, _ :: _, h => ⟨hi _ _ h.1, All2.mono hi h.2⟩
  | [], _ :: _, h => h.elim
  | _ :: _, [], h => h.elim

theorem All2.get {α β : Type} {R : α → β → Prop} : ∀ {l : List α} {m : List β}, All2 R l m → ∀ (i : Nat) (a : α), l[i]? = some a → ∃ b, m[i]? = some b ∧ R a b
  | [], _, _, i, a, hi => by simp at hi
  | x :: l, y :: m, h, 0, a, hi => by simp at hi; subst hi; exact ⟨y, rfl, h.1⟩
  | x :: l, y :: m, h, i + 1, a, hi => by simp at hi; simpa using All2.get h.2 i a hi
  | _ :: _, [], h, _, _, _ => h.elim

theorem All2.of_get {α β : Type} {R : α → β → Prop} : ∀ {l : List α} {m : List β}, l.length = m.length → (∀ (i : Nat) (a : α) (b : β), l[i]? = some a → m[i]? = some b → R a b) → All2 R l m
  | [], [], _, _ => trivial
  | x :: l, y :: m, hl, h => ⟨h 0 x y rfl rfl, All2.of_get (by simpa using hl) fun i a b ha hb => h (i + 1) a b (by simpa using ha) (by simpa using hb)⟩
  | [], _ :: _, hl, _ => by simp at hl
  | _ :: _, [], hl, _ => by simp at hl

theorem All2.append {α β : Type} {R : α → β → Prop} : ∀ {l : List α} {m : List β} {l' m'}, All2 R l m → All2 R l' m' → All2 R (l ++ l') (m ++ m')
  | [], [], _, _, _, h => h
  | _ :: _, _ :: _, _, _, h, h' => ⟨h.1, All2.append h.2 h'⟩
  | [], _ :: _, _, _, h, _ => h.elim
  | _ :: _, [], _, _, h, _ => h.elim

theorem All2.drop {α β : Type} {R : α → β → Prop} : ∀ (n : Nat) {l : List α} {m : List β}, All2 R l m → All2 R (l.drop n) (m.drop n)
  | 0, _, _, h => by simpa using h
  | n + 1, [], [], _ => by simp [All2]
  | n + 1, _ :: _, _ :: _, h => by simpa using All2.drop n h.2
  | _ + 1, [], _ :: _, h => h.elim
  | _ + 1, _ :: _, [], h => h.elim

theorem All2.take {α β : Type} {R : α → β → Prop} : ∀ (n : Nat) {l : List α} {m : List β}, All2 R l m → All2 R (l.take n) (m.take n)
  | 0, _, _, _ => by simp [All2]
  | n + 1, [], [], _ => by simp [All2]
  | n + 1, _ :: _, _ :: _, h => by simpa using ⟨h.1, All2.take n h.2⟩
  | _ + 1, [], _ :: _, h => h.elim
  | _ + 1, _ :: _, [], h => h.elim

theorem All2.map_left {α β γ : Type} {R : α → β → Prop} {f : γ → α} : ∀ {l : List γ} {m : List β}, All2 (fun c b => R (f c) b) l m → All2 R (l.map f) m
  | [], [], _ => trivial
  | _ :: _, _ :: _, h => ⟨h.1, All2.map_left h.2⟩
  | [], _ :: _, h => h.elim
  | _ :: _, [], h => h.elim

/-- A value stands in the world: each list's cells lie below the mark of its block. -/
inductive TVR (hw : Nat → Nat) (w : World) : TV → Value → Prop
  | bool (b : Bool) : TVR hw w (.bool b) (.bool b)
  | int (k : IntKind) (n : Int) : TVR hw w (.int k n) (.int k n)
  | str (s : ByteArray) : TVR hw w (.str s) (.string s)
  | nilp : TVR hw w .nilp (.pointer none)
  | nil (sz : Nat) (a : Option Addr) (cap : Nat) : TVR hw w (.sl sz []) (.slice a 0 cap)
  | sl (sz : Nat) (rows : List (List TV)) (b o cap : Nat) (f : Nat → Nat → Value) (h0 : 0 < sz) (hl : ∀ r ∈ rows, r.length = sz) (hc : rows.length ≤ cap) (he : o + rows.length * sz ≤ hw b)
      (h1 : ∀ i j, i < rows.length → j < sz → w.cell? ⟨b, o + (i * sz + j), none⟩ = some (f i j)) (h2 : ∀ i r j x, rows[i]? = some r → r[j]? = some x → TVR hw w x (f i j)) :
      TVR hw w (.sl sz rows) (.slice (some ⟨b, o, none⟩) rows.length cap)

theorem row_lt {i j n sz : Nat} (hi : i < n) (hj : j < sz) : i * sz + j < n * sz := by
  have h1 : i * sz + sz ≤ n * sz := by rw [← Nat.succ_mul]; exact Nat.mul_le_mul_right _ hi
  omega

/-- A value stands as it stood where no cell below the marks has turned. -/
theorem TVR.mono {hw hw' : Nat → Nat} {w w' : World} {v : TV} {x : Value} (h : TVR hw w v x) (hle : ∀ b, hw b ≤ hw' b)
    (hcell : ∀ b j u, j < hw b → w.cell? ⟨b, j, none⟩ = some u → w'.cell? ⟨b, j, none⟩ = some u) : TVR hw' w' v x := by
  induction h with
  | bool b => exact .bool b
  | int k n => exact .int k n
  | str s => exact .str s
  | nilp => exact .nilp
  | nil sz a cap => exact .nil sz a cap
  | sl sz rows b o cap f h0 hl hc he h1 _ ih =>
    refine .sl sz rows b o cap f h0 hl hc (Nat.le_trans he (hle b)) (fun i j hi hj => hcell _ _ _ ?_ (h1 i j hi hj)) ih
    have := row_lt hi hj
    omega

theorem TVR.oneCell {hw : Nat → Nat} {w : World} {v : TV} {x : Value} (h : TVR hw w v x) : x.oneCell' = true := by cases h <;> rfl

def AVR (hw : Nat → Nat) (w : World) : AV → Value → Prop
  | .v x, y => TVR hw w x y
  | .agg cs, y => ∃ vs : List Value, y = .agg vs.toArray ∧ All2 (TVR hw w) cs vs

/-- A list that may grow in place, or none. -/
def OwnR (G : Gh) (w : World) (base : Nat) (loc : Loc) (sz : Nat) (rows : List (List TV)) (x : Value) : Prop :=
  (rows = [] ∧ x = .slice none 0 0) ∨
  ∃ b o cap cs el, rows ≠ [] ∧ x = .slice (some ⟨b, o, none⟩) rows.length cap ∧ TVR G.hw w (.sl sz rows) x ∧ G.hw b = o + rows.length * sz ∧ G.own b = some loc ∧ base ≤ b ∧
    w.heap[b]? = some (.cells cs el (0, 0)) ∧ o + cap * sz ≤ cs.size

theorem OwnR.tree {G : Gh} {w : World} {base : Nat} {loc : Loc} {sz : Nat} {rows : List (List TV)} {x : Value} (h : OwnR G w base loc sz rows x) : TVR G.hw w (.sl sz rows) x := by
  rcases h with ⟨rfl, rfl⟩ | ⟨b, o, cap, cs, el, _, _, h, _⟩
  · exact .nil _ _ _
  · exact h

def CVR (G : Gh) (w : World) (base : Nat) (loc : Loc) : CV → Value → Prop
  | .t v, x => TVR G.hw w v x
  | .own sz rows, x => OwnR G w base loc sz rows x

/-- A cell of a struct in a slot: no list there may grow, but one that is none. -/
def AggR (hw : Nat → Nat) (w : World) : CV → Value → Prop
  | .t v, x => TVR hw w v x
  | .own _ rows, x => rows = [] ∧ x = .slice none 0 0

def BlkR (G : Gh) (w : World) (base nm : Nat) (blk : Blk) : Prop :=
  ∃ cs el, w.heap[(G.ph nm).1]? = some (.cells cs el (0, 0)) ∧ G.hw (G.ph nm).1 = 0 ∧ base ≤ (G.ph nm).1 ∧ 0 < blk.sz ∧ (∀ r ∈ blk.rows, r.length = blk.sz) ∧
    (G.ph nm).2 + blk.rows.length * blk.sz ≤ cs.size ∧ ∀ i r j c, blk.rows[i]? = some r → r[j]? = some c → ∃ x, cs[(G.ph nm).2 + (i * blk.sz + j)]? = some x ∧ CVR G w base (.cell nm i j) c x

def SVR (G : Gh) (w : World) (base : Nat) (heap : Nat → Option Blk) (t : Nat) : SV → Value → Prop
  | .undef, _ => True
  | .c v, x => CVR G w base (.slot t) v x
  | .agg cs, x => ∃ vs : List Value, x = .agg vs.toArray ∧ All2 (AggR G.hw w) cs vs
  | .tup as, x => ∃ vs : List Value, x = .tuple vs.toArray ∧ All2 (AVR G.hw w) as vs
  | .fp cells, x => ∃ b o, x = .pointer (some ⟨b, o, none⟩) ∧ o + cells.length ≤ G.hw b ∧ ∀ j v, cells[j]? = some v → ∃ u, w.cell? ⟨b, o + j, none⟩ = some u ∧ TVR G.hw w v u
  | .mr nm lo len, x => ∀ blk, heap nm = some blk → ∃ cap cs el, lo + len ≤ blk.rows.length ∧ len ≤ cap ∧ w.heap[(G.ph nm).1]? = some (.cells cs el (0, 0)) ∧ (G.ph nm).2 + (lo + cap) * blk.sz ≤ cs.size ∧
      x = .slice (some ⟨(G.ph nm).1, (G.ph nm).2 + lo * blk.sz, none⟩) len cap
  | .mp nm i o, x => ∀ blk, heap nm = some blk → x = .pointer (some ⟨(G.ph nm).1, (G.ph nm).2 + (i * blk.sz + o), none⟩)

/-- The state tells what stands in the frame and in the world. -/
structure R (n : Nat) (w0 : World) (hw0 : Nat → Nat) (G : Gh) (st : St) (a : Act) (w : World) : Prop where
  below : Below w0.heap.size w0 w
  hwOld : ∀ b, b < w0.heap.size → G.hw b = hw0 b
  hwNew : ∀ b, w.heap.size ≤ b → G.hw b = 0
  tmps : a.tmps.size = n
  defers : a.defers = []
  slots : ∀ t, SVR G w w0.heap.size st.heap t (st.slots t) (a.tmps.getD t undef)
  heap : ∀ nm blk, st.heap nm = some blk → BlkR G w w0.heap.size nm blk
  inj : ∀ nm nm' blk blk', st.heap nm = some blk → st.heap nm' = some blk' → (G.ph nm).1 = (G.ph nm').1 → nm = nm'

end Go.Proofs.Yteoddaeipckgcaa.Ev
