/- The evaluator's second make: values, states, and what stands in the world. -/
import Derived.Calls
import Derived.Below
import Derived.Orders
import Derived.Deep.AppendSrc
import Derived.Laws.CopyRow
import Derived.Laws.IdiomCopy
import Derived.Laws.NewBlocks
namespace Go.Proofs.Ytgmjgognpabmdaa.Fx
open Go Go.RowKit
set_option linter.unusedVariables false

/-- What a program computes with, apart from memory of its own: numbers, texts, and lists of rows of cells (a slice is told by what it holds). -/
inductive TV where
  | bool (b : Bool)
  | int (k : IntKind) (n : Int)
  | str (s : ByteArray)
  | nilp
  | nilf
  | nili
  | nilm
  | fn (f : FuncId)
  | sl (sz : Nat) (rows : List (List TV))
  | slx (sz : Nat) (rows : List (List TV)) (L : Nat)

/-- A cell: a value of old memory; a list that it alone holds; what leads to a name; a closure; an interface's value. -/
inductive CV where
  | t (v : TV)
  | own (sz : Nat) (rows : List (List CV))
  | mr (nm lo len : Nat)
  | mp (nm i o : Nat)
  | mm (nm : Nat)
  | fnc (f : FuncId) (first caps : List CV)
  | ifc (ty : TypeId) (agg : Bool) (cs : List CV)
  | dead

/-- An argument or a result. -/
inductive AV where
  | v (x : CV)
  | agg (cs : List CV)

/-- What a slot holds. -/
inductive SV where
  | undef
  | c (v : CV)
  | agg (cs : List CV)
  | tup (vs : List AV)
  | fp (cells : List TV)

/-- What a name stands for: rows of cells, or a map's entries. -/
inductive Blk where
  | cells (sz : Nat) (rows : List (List CV))
  | map (clock : Nat) (es : List (AV × AV × Nat))
  | iter (nm since : Nat) (seen : List Nat) (last : Nat)

structure St where
  slots : Nat → SV
  heap : Nat → Option Blk

/-- Where a name's block stands. -/
structure PH where
  b : Nat
  o : Nat
  sz : Nat
  tot : Nat
  len : Nat

structure Mk where
  hw : Nat → Nat
  ph : Nat → Option PH

/-- What is known of the world beside the state: how far a block is written for good; where names stand; which blocks are a name's. -/
structure Gh extends Mk where
  reg : Nat → Nat → Prop

def All2 {α β : Type} (R : α → β → Prop) : List α → List β → Prop
  | [], [] => True
  | a :: l, b :: m => R a b ∧ All2 R l m
  | _, _ => False

theorem All2.length {α β : Type} {R : α → β → Prop} : ∀ {l : List α} {m : List β}, All2 R l m → l.length = m.length
  | [], [], _ => rfl
  | _ :: _, _ :: _, h => by simp [All2.length h.2]
  | [], _ :: _, h => h.elim
  | _ :: _, [], h => h.elim

theorem All2.mono {α β : Type} {R S : α → β → Prop} (hi : ∀ a b, R a b → S a b) : ∀ {l : List α} {m : List β}, All2 R l m → All2 S l m
  | [], [], _ => trivial
  | _ :: _, _ :: _, h => ⟨hi _ _ h.1, All2.mono hi h.2⟩
  | [], _ :: _, h => h.elim
  | _ :: _, [], h => h.elim

theorem All2.monoMem {α β : Type} {R S : α → β → Prop} : ∀ {l : List α} {m : List β}, (∀ a ∈ l, ∀ b, R a b → S a b) → All2 R l m → All2 S l m
  | [], [], _, _ => trivial
  | a :: _, _ :: _, hi, h => ⟨hi a (by simp) _ h.1, All2.monoMem (fun a ha => hi a (by simp [ha])) h.2⟩
  | [], _ :: _, _, h => h.elim
  | _ :: _, [], _, h => h.elim

theorem All2.get {α β : Type} {R : α → β → Prop} : ∀ {l : List α} {m : List β}, All2 R l m → ∀ (i : Nat) (a : α), l[i]? = some a → ∃ b, m[i]? = some b ∧ R a b
  | [], _, _, i, a, hi => by simp at hi
  | x :: l, y :: m, h, 0, a, hi => by simp at hi; subst hi; exact ⟨y, rfl, h.1⟩
  | x :: l, y :: m, h, i + 1, a, hi => by simp at hi; simpa using All2.get h.2 i a hi
  | _ :: _, [], h, _, _, _ => h.elim

theorem All2.of_get {α β : Type} {R : α → β → Prop} : ∀ {l : List α} {m : List β}, l.length = m.length → (∀ (i : Nat) (a : α) (b : β), l[i]? = some a → m[i]? = some b → R a b) → All2 R l m
  | [], [], _, _ => trivial
  | x :: l, y :: m, hl, h => ⟨h 0 x y rfl rfl, All2.of_get (by simpa using hl) fun i a b ha hb => h (i + 1) a b (by simpa using ha) (by simpa using hb)⟩
  | [], _ :: _, hl, _ => by simp at hl
  | _ :: _, [], hl, _ => by simp at hl

theorem All2.append {α β : Type} {R : α → β → Prop} : ∀ {l : List α} {m : List β} {l' m'}, All2 R l m → All2 R l' m' → All2 R (l ++ l') (m ++ m')
  | [], [], _, _, _, h => h
  | _ :: _, _ :: _, _, _, h, h' => ⟨h.1, All2.append h.2 h'⟩
  | [], _ :: _, _, _, h, _ => h.elim
  | _ :: _, [], _, _, h, _ => h.elim

theorem All2.drop {α β : Type} {R : α → β → Prop} : ∀ (n : Nat) {l : List α} {m : List β}, All2 R l m → All2 R (l.drop n) (m.drop n)
  | 0, _, _, h => by simpa using h
  | n + 1, [], [], _ => by simp [All2]
  | n + 1, _ :: _, _ :: _, h => by simpa using All2.drop n h.2
  | _ + 1, [], _ :: _, h => h.elim
  | _ + 1, _ :: _, [], h => h.elim

theorem All2.take {α β : Type} {R : α → β → Prop} : ∀ (n : Nat) {l : List α} {m : List β}, All2 R l m → All2 R (l.take n) (m.take n)
  | 0, _, _, _ => by simp [All2]
  | n + 1, [], [], _ => by simp [All2]
  | n + 1, _ :: _, _ :: _, h => by simpa using ⟨h.1, All2.take n h.2⟩
  | _ + 1, [], _ :: _, h => h.elim
  | _ + 1, _ :: _, [], h => h.elim

theorem All2.map_left {α β γ : Type} {R : α → β → Prop} {f : γ → α} : ∀ {l : List γ} {m : List β}, All2 (fun c b => R (f c) b) l m → All2 R (l.map f) m
  | [], [], _ => trivial
  | _ :: _, _ :: _, h => ⟨h.1, All2.map_left h.2⟩
  | [], _ :: _, h => h.elim
  | _ :: _, [], h => h.elim

theorem All2.of_map {α β γ : Type} {R : α → β → Prop} {f : γ → α} : ∀ {l : List γ} {m : List β}, All2 R (l.map f) m → All2 (fun c b => R (f c) b) l m
  | [], [], _ => trivial
  | _ :: _, _ :: _, h => ⟨h.1, All2.of_map h.2⟩
  | [], _ :: _, h => h.elim
  | _ :: _, [], h => h.elim

/-- A value stands in the world: each list's cells lie below the mark of its block. -/
inductive TVR (hw : Nat → Nat) (w : World) : TV → Value → Prop
  | bool (b : Bool) : TVR hw w (.bool b) (.bool b)
  | int (k : IntKind) (n : Int) : TVR hw w (.int k n) (.int k n)
  | str (s : ByteArray) : TVR hw w (.str s) (.string s)
  | nilp : TVR hw w .nilp (.pointer none)
  | nilf : TVR hw w .nilf .nilFunc
  | nili : TVR hw w .nili .nilIface
  | nilm : TVR hw w .nilm (.map none)
  | fn (f : FuncId) : TVR hw w (.fn f) (.func (.func f) #[] #[])
  | nil (sz : Nat) (a : Option Addr) (cap : Nat) : TVR hw w (.sl sz []) (.slice a 0 cap)
  | sl (sz : Nat) (rows : List (List TV)) (b o cap : Nat) (f : Nat → Nat → Value) (h0 : 0 < sz) (hl : ∀ r ∈ rows, r.length = sz) (hc : rows.length ≤ cap) (he : o + rows.length * sz ≤ hw b)
      (h1 : ∀ i j, i < rows.length → j < sz → w.cell? ⟨b, o + (i * sz + j), none⟩ = some (f i j)) (h2 : ∀ i r j x, rows[i]? = some r → r[j]? = some x → TVR hw w x (f i j)) :
      TVR hw w (.sl sz rows) (.slice (some ⟨b, o, none⟩) rows.length cap)
  /-- A list of which it is known what stands behind its end. -/
  | slx (sz : Nat) (rows : List (List TV)) (L b o cap : Nat) (f : Nat → Nat → Value) (h0 : 0 < sz) (hl : ∀ r ∈ rows, r.length = sz) (hL : L ≤ rows.length) (hc : rows.length ≤ cap) (he : o + rows.length * sz ≤ hw b)
      (h1 : ∀ i j, i < rows.length → j < sz → w.cell? ⟨b, o + (i * sz + j), none⟩ = some (f i j)) (h2 : ∀ i r j x, rows[i]? = some r → r[j]? = some x → TVR hw w x (f i j)) :
      TVR hw w (.slx sz rows L) (.slice (some ⟨b, o, none⟩) L cap)

theorem row_lt {i j n sz : Nat} (hi : i < n) (hj : j < sz) : i * sz + j < n * sz := by
  have h1 : i * sz + sz ≤ n * sz := by rw [← Nat.succ_mul]; exact Nat.mul_le_mul_right _ hi
  omega

theorem TVR.mono {hw hw' : Nat → Nat} {w w' : World} {v : TV} {x : Value} (h : TVR hw w v x) (hle : ∀ b, hw b ≤ hw' b)
    (hcell : ∀ b j u, j < hw b → w.cell? ⟨b, j, none⟩ = some u → w'.cell? ⟨b, j, none⟩ = some u) : TVR hw' w' v x := by
  induction h with
  | bool b => exact .bool b
  | int k n => exact .int k n
  | str s => exact .str s
  | nilp => exact .nilp
  | nilf => exact .nilf
  | nili => exact .nili
  | nilm => exact .nilm
  | fn f => exact .fn f
  | nil sz a cap => exact .nil sz a cap
  | sl sz rows b o cap f h0 hl hc he h1 _ ih =>
    refine .sl sz rows b o cap f h0 hl hc (Nat.le_trans he (hle b)) (fun i j hi hj => hcell _ _ _ ?_ (h1 i j hi hj)) ih
    have := row_lt hi hj
    omega
  | slx sz rows L b o cap f h0 hl hL hc he h1 _ ih =>
    refine .slx sz rows L b o cap f h0 hl hL hc (Nat.le_trans he (hle b)) (fun i j hi hj => hcell _ _ _ ?_ (h1 i j hi hj)) ih
    have := row_lt hi hj
    omega

theorem TVR.oneCell {hw : Nat → Nat} {w : World} {v : TV} {x : Value} (h : TVR hw w v x) : x.oneCell' = true := by cases h <;> rfl

/-! What a cell leads to. -/
mutual
def CV.has (nm : Nat) : CV → Bool
  | .t _ => false
  | .own _ rows => hasRows nm rows
  | .mr k _ _ => k == nm
  | .mp k _ _ => k == nm
  | .mm k => k == nm
  | .fnc _ a b => hasL nm a || hasL nm b
  | .ifc _ _ cs => hasL nm cs
  | .dead => false
def hasL (nm : Nat) : List CV → Bool
  | [] => false
  | c :: r => c.has nm || hasL nm r
def hasRows (nm : Nat) : List (List CV) → Bool
  | [] => false
  | r :: rs => hasL nm r || hasRows nm rs
end

theorem hasL_mem {nm : Nat} {c : CV} : ∀ {l : List CV}, c ∈ l → c.has nm = true → hasL nm l = true
  | x :: l, hm, h => by
    simp only [hasL, Bool.or_eq_true]
    rcases List.mem_cons.1 hm with rfl | hm
    · exact .inl h
    · exact .inr (hasL_mem hm h)

theorem hasRows_mem {nm : Nat} {r : List CV} {c : CV} : ∀ {l : List (List CV)}, r ∈ l → c ∈ r → c.has nm = true → hasRows nm l = true
  | x :: l, hm, hc, h => by
    simp only [hasRows, Bool.or_eq_true]
    rcases List.mem_cons.1 hm with rfl | hm
    · exact .inl (hasL_mem hc h)
    · exact .inr (hasRows_mem hm hc h)

def AV.has (nm : Nat) : AV → Bool
  | .v x => x.has nm
  | .agg cs => hasL nm cs
def hasA (nm : Nat) : List AV → Bool
  | [] => false
  | c :: r => c.has nm || hasA nm r
theorem hasA_mem {nm : Nat} {c : AV} : ∀ {l : List AV}, c ∈ l → c.has nm = true → hasA nm l = true
  | x :: l, hm, h => by
    simp only [hasA, Bool.or_eq_true]
    rcases List.mem_cons.1 hm with rfl | hm
    · exact .inl h
    · exact .inr (hasA_mem hm h)
def SV.has (nm : Nat) : SV → Bool
  | .undef => false
  | .c v => v.has nm
  | .agg cs => hasL nm cs
  | .tup vs => hasA nm vs
  | .fp _ => false
def hasM (nm : Nat) : List (AV × AV × Nat) → Bool
  | [] => false
  | e :: r => e.1.has nm || e.2.1.has nm || hasM nm r
theorem hasM_mem {nm : Nat} {e : AV × AV × Nat} : ∀ {l : List (AV × AV × Nat)}, e ∈ l → (e.1.has nm = true ∨ e.2.1.has nm = true) → hasM nm l = true
  | x :: l, hm, h => by
    simp only [hasM, Bool.or_eq_true]
    rcases List.mem_cons.1 hm with rfl | hm
    · exact .inl h
    · exact .inr (hasM_mem hm h)
def Blk.has (nm : Nat) : Blk → Bool
  | .cells _ rows => hasRows nm rows
  | .map _ es => hasM nm es
  | .iter k _ _ _ => k == nm

/-- No block. -/
abbrev Emp : Nat → Prop := fun _ => False

/-- A cell's value, and the blocks that it alone holds. -/
inductive CVR (M : Mk) (w : World) : (Nat → Prop) → CV → Value → Prop
  | t {S : Nat → Prop} {v : TV} {x : Value} (h : TVR M.hw w v x) : CVR M w S (.t v) x
  | nil {S : Nat → Prop} (sz : Nat) (a : Option Addr) : CVR M w S (.own sz []) (.slice a 0 0)
  | own {S : Nat → Prop} (sz : Nat) (rows : List (List CV)) (b o cap : Nat) (cs : Array Value) (el : TypeId) (f : Nat → Nat → Value) (g : Nat → Nat → Nat → Prop) (hb : S b) (hg : ∀ i j k, g i j k → S k ∧ k ≠ b)
      (hd : ∀ i j i' j' k, g i j k → g i' j' k → i = i' ∧ j = j') (h0 : 0 < sz) (hl : ∀ r ∈ rows, r.length = sz) (hne : rows ≠ []) (hc : rows.length ≤ cap) (hh : w.heap[b]? = some (.cells cs el (0, 0))) (hfit : o + cap * sz ≤ cs.size)
      (h1 : ∀ i j, i < rows.length → j < sz → cs[o + (i * sz + j)]? = some (f i j)) (h2 : ∀ i r j c, rows[i]? = some r → r[j]? = some c → CVR M w (g i j) c (f i j)) : CVR M w S (.own sz rows) (.slice (some ⟨b, o, none⟩) rows.length cap)
  | mr0 {S : Nat → Prop} (nm lo : Nat) (a : Option Addr) : CVR M w S (.mr nm lo 0) (.slice a 0 0)
  | mr {S : Nat → Prop} (nm lo len cap : Nat) (p : PH) (hp : M.ph nm = some p) (h1 : lo + len ≤ p.len) (h2 : len ≤ cap) (h3 : p.len ≤ lo + cap) (h4 : p.o + (lo + cap) * p.sz ≤ p.tot) : CVR M w S (.mr nm lo len) (.slice (some ⟨p.b, p.o + lo * p.sz, none⟩) len cap)
  | mp {S : Nat → Prop} (nm i o : Nat) (p : PH) (hp : M.ph nm = some p) : CVR M w S (.mp nm i o) (.pointer (some ⟨p.b, p.o + (i * p.sz + o), none⟩))
  | mm {S : Nat → Prop} (nm : Nat) (p : PH) (hp : M.ph nm = some p) : CVR M w S (.mm nm) (.map (some p.b))
  | fnc {S : Nat → Prop} (fn : FuncId) (first caps : List CV) (us vs : List Value) (h1 : first.length = us.length) (h2 : caps.length = vs.length) (h3 : ∀ (i : Nat) (c : CV) (u : Value), first[i]? = some c → us[i]? = some u → CVR M w Emp c u) (h4 : ∀ (i : Nat) (c : CV) (u : Value), caps[i]? = some c → vs[i]? = some u → CVR M w Emp c u) :
      CVR M w S (.fnc fn first caps) (.func (.func fn) us.toArray vs.toArray)
  | ifcA {S : Nat → Prop} (ty : TypeId) (cs : List CV) (us : List Value) (h1 : cs.length = us.length) (h3 : ∀ (i : Nat) (c : CV) (u : Value), cs[i]? = some c → us[i]? = some u → CVR M w Emp c u) : CVR M w S (.ifc ty true cs) (.iface ty (.agg us.toArray))
  | ifc {S : Nat → Prop} (ty : TypeId) (c : CV) (u : Value) (h : CVR M w Emp c u) : CVR M w S (.ifc ty false [c]) (.iface ty u)
  | dead {S : Nat → Prop} (x : Value) : CVR M w S .dead x

theorem CVR.wide {M : Mk} {w : World} {S S' : Nat → Prop} {c : CV} {x : Value} (h : CVR M w S c x) (hs : ∀ k, S k → S' k) : CVR M w S' c x := by
  cases h with
  | t h => exact .t h
  | nil sz a => exact .nil sz a
  | own sz rows b o cap cs el f g hb hg hd h0 hl hne hc hh hfit h1 h2 => exact .own sz rows b o cap cs el f g (hs _ hb) (fun i j k h => ⟨hs _ (hg i j k h).1, (hg i j k h).2⟩) hd h0 hl hne hc hh hfit h1 h2
  | mr0 nm lo a => exact .mr0 nm lo a
  | mr nm lo len cap p hp h1 h2 h3 h4 => exact .mr nm lo len cap p hp h1 h2 h3 h4
  | mp nm i o p hp => exact .mp nm i o p hp
  | mm nm p hp => exact .mm nm p hp
  | fnc f first caps us vs h1 h2 h3 h4 => exact .fnc f first caps us vs h1 h2 h3 h4
  | ifcA ty cs us h1 h3 => exact .ifcA ty cs us h1 h3
  | ifc ty c u h => exact .ifc ty c u h
  | dead x => exact .dead x

/-- What a cell tells stays true where its blocks and what it leads to stay. -/
theorem CVR.move {M M' : Mk} {w w' : World} {S : Nat → Prop} {c : CV} {x : Value} (h : CVR M w S c x) (ht : ∀ v y, TVR M.hw w v y → TVR M'.hw w' v y) (hS : ∀ k, S k → w'.heap[k]? = w.heap[k]?) (hp : ∀ nm, c.has nm = true → M'.ph nm = M.ph nm) : CVR M' w' S c x := by
  induction h with
  | t h => exact .t (ht _ _ h)
  | nil sz a => exact .nil sz a
  | own sz rows b o cap cs el f g hb hg hd h0 hl hne hc hh hfit h1 h2 ih =>
    refine .own sz rows b o cap cs el f g hb hg hd h0 hl hne hc (by rw [hS b hb, hh]) hfit h1 (fun i r j c hi hj => ih i r j c hi hj (fun k hk => hS k (hg i j k hk).1) fun nm hn => hp nm ?_)
    simp only [CV.has]
    exact hasRows_mem (List.mem_of_getElem? hi) (List.mem_of_getElem? hj) hn
  | mr0 nm lo a => exact .mr0 nm lo a
  | mr nm lo len cap p hp' h1 h2 h3 h4 => exact .mr nm lo len cap p (by rw [hp nm (by simp [CV.has]), hp']) h1 h2 h3 h4
  | mp nm i o p hp' => exact .mp nm i o p (by rw [hp nm (by simp [CV.has]), hp'])
  | mm nm p hp' => exact .mm nm p (by rw [hp nm (by simp [CV.has]), hp'])
  | fnc f first caps us vs h1 h2 h3 h4 ih3 ih4 =>
    refine .fnc f first caps us vs h1 h2 (fun i c u hi hu => ih3 i c u hi hu (fun _ h => h.elim) fun nm hn => hp nm ?_) (fun i c u hi hu => ih4 i c u hi hu (fun _ h => h.elim) fun nm hn => hp nm ?_)
    · simp only [CV.has, Bool.or_eq_true]; exact .inl (hasL_mem (List.mem_of_getElem? hi) hn)
    · simp only [CV.has, Bool.or_eq_true]; exact .inr (hasL_mem (List.mem_of_getElem? hi) hn)
  | ifcA ty cs us h1 h3 ih =>
    refine .ifcA ty cs us h1 (fun i c u hi hu => ih i c u hi hu (fun _ h => h.elim) fun nm hn => hp nm ?_)
    simp only [CV.has]; exact hasL_mem (List.mem_of_getElem? hi) hn
  | ifc ty c u h ih => exact .ifc ty c u (ih (fun _ h => h.elim) fun nm hn => hp nm (by simp [CV.has, hasL, hn]))
  | dead x => exact .dead x

def AVR (M : Mk) (w : World) : AV → Value → Prop
  | .v x, y => CVR M w Emp x y
  | .agg cs, y => ∃ vs : List Value, y = .agg vs.toArray ∧ All2 (CVR M w Emp) cs vs

theorem AVR.move {M M' : Mk} {w w' : World} {c : AV} {x : Value} (h : AVR M w c x) (ht : ∀ v y, TVR M.hw w v y → TVR M'.hw w' v y) (hp : ∀ nm, c.has nm = true → M'.ph nm = M.ph nm) : AVR M' w' c x := by
  cases c with
  | v c => exact CVR.move h ht (fun _ h => h.elim) hp
  | agg cs =>
    obtain ⟨vs, h1, h2⟩ := h
    exact ⟨vs, h1, h2.monoMem fun c hc b hb => CVR.move hb ht (fun _ h => h.elim) fun nm hn => hp nm (hasL_mem hc hn)⟩

def SVR (M : Mk) (w : World) : SV → Value → Prop
  | .undef, _ => True
  | .c v, x => CVR M w Emp v x
  | .agg cs, x => ∃ vs : List Value, x = .agg vs.toArray ∧ All2 (CVR M w Emp) cs vs
  | .tup as, x => ∃ vs : List Value, x = .tuple vs.toArray ∧ All2 (AVR M w) as vs
  | .fp cells, x => ∃ b o, x = .pointer (some ⟨b, o, none⟩) ∧ o + cells.length ≤ M.hw b ∧ ∀ j v, cells[j]? = some v → ∃ u, w.cell? ⟨b, o + j, none⟩ = some u ∧ TVR M.hw w v u

theorem SVR.move {M M' : Mk} {w w' : World} {s : SV} {x : Value} (h : SVR M w s x) (hle : ∀ b, M.hw b ≤ M'.hw b) (hcell : ∀ b j u, j < M.hw b → w.cell? ⟨b, j, none⟩ = some u → w'.cell? ⟨b, j, none⟩ = some u) (hp : ∀ nm, s.has nm = true → M'.ph nm = M.ph nm) : SVR M' w' s x := by
  have ht : ∀ v y, TVR M.hw w v y → TVR M'.hw w' v y := fun v y h => h.mono hle hcell
  cases s with
  | undef => trivial
  | c v => exact CVR.move h ht (fun _ h => h.elim) hp
  | agg cs =>
    obtain ⟨vs, h1, h2⟩ := h
    exact ⟨vs, h1, h2.monoMem fun c hc b hb => CVR.move hb ht (fun _ h => h.elim) fun nm hn => hp nm (hasL_mem hc hn)⟩
  | tup as =>
    obtain ⟨vs, h1, h2⟩ := h
    exact ⟨vs, h1, h2.monoMem fun c hc b hb => AVR.move hb ht fun nm hn => hp nm (hasA_mem hc hn)⟩
  | fp cells =>
    obtain ⟨b, o, h1, h2, h3⟩ := h
    refine ⟨b, o, h1, Nat.le_trans h2 (hle b), fun j v hj => ?_⟩
    obtain ⟨u, g1, g2⟩ := h3 j v hj
    have := (List.getElem?_eq_some_iff.1 hj).1
    exact ⟨u, hcell _ _ _ (by omega) g1, ht _ _ g2⟩

/-- Rows of cells in an array, with the blocks that they alone hold. -/
def RowsR (M : Mk) (w : World) (S : Nat → Prop) (cs : Array Value) (o sz : Nat) (rows : List (List CV)) : Prop :=
  ∃ g : Nat → Nat → Nat → Prop, (∀ i j k, g i j k → S k) ∧ (∀ i j i' j' k, g i j k → g i' j' k → i = i' ∧ j = j') ∧
    ∀ i r j c, rows[i]? = some r → r[j]? = some c → ∃ x, cs[o + (i * sz + j)]? = some x ∧ CVR M w (g i j) c x

/-- A name's block. -/
def BlkR (G : Gh) (w : World) (nm : Nat) : Blk → Prop
  | .cells sz rows => match G.ph nm with
    | none => rows = []
    | some p => p.sz = sz ∧ p.len = rows.length ∧ 0 < sz ∧ (∀ r ∈ rows, r.length = sz) ∧ G.reg nm p.b ∧
        ∃ cs el, w.heap[p.b]? = some (.cells cs el (0, 0)) ∧ cs.size = p.tot ∧ p.o + rows.length * sz ≤ p.tot ∧ RowsR G.toMk w (fun k => G.reg nm k ∧ k ≠ p.b) cs p.o sz rows
  | .map clock es => ∃ p, G.ph nm = some p ∧ G.reg nm p.b ∧ ∃ ents, w.heap[p.b]? = some (.map ents clock) ∧
      All2 (fun (e : AV × AV × Nat) (m : MapEntry) => AVR G.toMk w e.1 m.key ∧ AVR G.toMk w e.2.1 m.val ∧ m.born = e.2.2) es ents.toList
  | .iter m since seen last => ∃ p q, G.ph nm = some p ∧ p.o = 0 ∧ G.reg nm p.b ∧ G.ph m = some q ∧ w.heap[p.b]? = some (.mapIter (some q.b) since seen.toArray last)

theorem RowsR.move {M M' : Mk} {w w' : World} {S : Nat → Prop} {cs : Array Value} {o sz : Nat} {rows : List (List CV)} (h : RowsR M w S cs o sz rows) (ht : ∀ v y, TVR M.hw w v y → TVR M'.hw w' v y) (hS : ∀ k, S k → w'.heap[k]? = w.heap[k]?) (hp : ∀ nm, hasRows nm rows = true → M'.ph nm = M.ph nm) : RowsR M' w' S cs o sz rows := by
  obtain ⟨g, h1, h2, h3⟩ := h
  refine ⟨g, h1, h2, fun i r j c hi hj => ?_⟩
  obtain ⟨x, q1, q2⟩ := h3 i r j c hi hj
  exact ⟨x, q1, CVR.move q2 ht (fun k hk => hS k (h1 i j k hk)) fun nm hn => hp nm (hasRows_mem (List.mem_of_getElem? hi) (List.mem_of_getElem? hj) hn)⟩

theorem BlkR.move {G G' : Gh} {w w' : World} {nm : Nat} {blk : Blk} (h : BlkR G w nm blk) (hph : G'.ph nm = G.ph nm) (hreg : ∀ k, G.reg nm k → G'.reg nm k) (hreg' : ∀ k, G'.reg nm k → G.reg nm k) (ht : ∀ v y, TVR G.hw w v y → TVR G'.hw w' v y) (hS : ∀ k, G.reg nm k → w'.heap[k]? = w.heap[k]?) (hp : ∀ k, blk.has k = true → G'.ph k = G.ph k) : BlkR G' w' nm blk := by
  cases blk with
  | cells sz rows =>
    simp only [BlkR, hph] at h ⊢
    split at h
    · exact h
    · rename_i p hp'
      obtain ⟨h1, h2, h3, h4, h5, cs, el, h6, h7, h8, h9⟩ := h
      refine ⟨h1, h2, h3, h4, hreg _ h5, cs, el, by rw [hS _ h5, h6], h7, h8, ?_⟩
      obtain ⟨g, q1, q2, q3⟩ := h9.move ht (fun k hk => hS k hk.1) hp
      exact ⟨g, fun i j k hk => ⟨hreg _ (q1 i j k hk).1, (q1 i j k hk).2⟩, q2, q3⟩
  | map clock es =>
    obtain ⟨p, h1, h2, ents, h3, h4⟩ := h
    refine ⟨p, by rw [hph, h1], hreg _ h2, ents, by rw [hS _ h2, h3], h4.monoMem fun e he m hm => ⟨AVR.move hm.1 ht fun k hk => hp k (hasM_mem he (.inl hk)), AVR.move hm.2.1 ht fun k hk => hp k (hasM_mem he (.inr hk)), hm.2.2⟩⟩
  | iter m since seen last =>
    obtain ⟨p, q, h1, h0, h2, h3, h4⟩ := h
    exact ⟨p, q, by rw [hph, h1], h0, hreg _ h2, by rw [hp m (by simp [Blk.has]), h3], by rw [hS _ h2, h4]⟩

/-- Old memory stays as it was, but for some blocks. -/
structure Kept (mine : Nat → Prop) (w w' : World) : Prop where
  os : w'.os = w.os
  tape : w'.tape = w.tape
  output : w'.output = w.output
  size : w.heap.size ≤ w'.heap.size
  block : ∀ k, k < w.heap.size → ¬ mine k → w'.heap[k]? = w.heap[k]?

theorem Kept.refl (mine : Nat → Prop) (w : World) : Kept mine w w := ⟨rfl, rfl, rfl, Nat.le_refl _, fun _ _ _ => rfl⟩

theorem Kept.trans {mine mine' : Nat → Prop} {w w1 w2 : World} (h : Kept mine w w1) (k : Kept mine' w1 w2) (hi : ∀ b, mine' b → b < w.heap.size → mine b) : Kept mine w w2 :=
  ⟨k.os.trans h.os, k.tape.trans h.tape, k.output.trans h.output, Nat.le_trans h.size k.size, fun b hb hm => (k.block b (Nat.lt_of_lt_of_le hb h.size) (fun e => hm (hi b e hb))).trans (h.block b hb hm)⟩

theorem Kept.of_below {w w' : World} (h : Below w.heap.size w w') : Kept Emp w w' := ⟨h.os, h.tape, h.output, h.size, fun k hk _ => h.block k hk⟩
theorem Kept.below {w w' : World} (h : Kept Emp w w') : Below w.heap.size w w' := ⟨h.os, h.tape, h.output, h.size, fun k hk => h.block k hk id⟩
theorem Kept.wide {mine mine' : Nat → Prop} {w w' : World} (h : Kept mine w w') (hi : ∀ k, mine k → mine' k) : Kept mine' w w' := ⟨h.os, h.tape, h.output, h.size, fun k hk hm => h.block k hk fun e => hm (hi k e)⟩

/-- Where a walk began: how many slots; which old blocks it may write. -/
structure Cx where
  n : Nat
  w0 : World
  hw0 : Nat → Nat
  mine : Nat → Prop
  ph0 : Nat → Option PH

/-- The state tells what stands in the frame and in the world. -/
structure R (cx : Cx) (G : Gh) (st : St) (a : Act) (w : World) : Prop where
  kept : Kept cx.mine cx.w0 w
  hwOld : ∀ b, b < cx.w0.heap.size → ¬ cx.mine b → G.hw b = cx.hw0 b
  hwNew : ∀ b, w.heap.size ≤ b → G.hw b = 0
  tmps : a.tmps.size = cx.n
  defers : a.defers = []
  slots : ∀ t, SVR G.toMk w (st.slots t) (a.tmps.getD t undef)
  heap : ∀ nm blk, st.heap nm = some blk → BlkR G w nm blk
  reg : ∀ nm blk k, st.heap nm = some blk → G.reg nm k → G.hw k = 0 ∧ (cx.w0.heap.size ≤ k ∨ cx.mine k) ∧ k < w.heap.size
  disj : ∀ nm nm' blk blk' k, st.heap nm = some blk → st.heap nm' = some blk' → G.reg nm k → G.reg nm' k → nm = nm'
  old : ∀ nm, cx.n ≤ nm → G.ph nm = cx.ph0 nm

theorem cell_lt {w : World} {b j : Nat} {u : Value} (h : w.cell? ⟨b, j, none⟩ = some u) : b < w.heap.size := World.block_lt_of_cell? w _ h
theorem block_lt {w : World} {b : Nat} {o : Obj} (h : w.heap[b]? = some o) : b < w.heap.size := (Array.getElem?_eq_some_iff.1 h).1

section
variable {cx : Cx} {G G' : Gh} {st st' : St} {a a' : Act} {w w' : World}

/-- THE CHANGE: some names are given up, blocks of theirs and new ones are given to others; what else stood stands. -/
theorem R.change (hR : R cx G st a w) (own D : Nat → Prop) (hown : ∀ b, own b → ∃ nm blk, D nm ∧ st.heap nm = some blk ∧ G.reg nm b)
    (hk : Kept own w w') (hwo : ∀ b, b < w.heap.size → ¬ own b → G'.hw b = G.hw b) (hwn : ∀ b, w'.heap.size ≤ b → G'.hw b = 0)
    (hheap : ∀ nm blk, ¬ D nm → st'.heap nm = some blk → st.heap nm = some blk ∧ G'.ph nm = G.ph nm ∧ ∀ k, G'.reg nm k ↔ G.reg nm k)
    (hfresh : ∀ nm, G'.ph nm ≠ G.ph nm → ∀ k blk, ¬ D k → st'.heap k = some blk → blk.has nm = false)
    (hnew : ∀ nm blk, D nm → st'.heap nm = some blk → BlkR G' w' nm blk ∧ ∀ k, G'.reg nm k → G'.hw k = 0 ∧ k < w'.heap.size ∧ (own k ∨ w.heap.size ≤ k))
    (hdisj : ∀ nm nm' blk blk' k, D nm → D nm' → st'.heap nm = some blk → st'.heap nm' = some blk' → G'.reg nm k → G'.reg nm' k → nm = nm')
    (hslots : ∀ t, SVR G.toMk w (st.slots t) (a.tmps.getD t undef) → SVR G'.toMk w' (st'.slots t) (a'.tmps.getD t undef)) (hold : ∀ nm, cx.n ≤ nm → G'.ph nm = G.ph nm) (ha : a'.tmps.size = cx.n) (had : a'.defers = []) : R cx G' st' a' w' := by
  have hownR : ∀ b, own b → G.hw b = 0 ∧ (cx.w0.heap.size ≤ b ∨ cx.mine b) ∧ b < w.heap.size := fun b hb => by
    obtain ⟨nm, blk, _, h1, h2⟩ := hown b hb
    exact hR.reg nm blk b h1 h2
  have hle : ∀ b, G.hw b ≤ G'.hw b := by
    intro b
    by_cases hb : b < w.heap.size
    · by_cases ho : own b
      · rw [(hownR b ho).1]; exact Nat.zero_le _
      · rw [hwo b hb ho]; exact Nat.le_refl _
    · rw [hR.hwNew b (by omega)]; exact Nat.zero_le _
  have hcell : ∀ b j u, j < G.hw b → w.cell? ⟨b, j, none⟩ = some u → w'.cell? ⟨b, j, none⟩ = some u := by
    intro b j u hj hu
    rw [World.cell?_of_block (w := w) (hk.block b (cell_lt hu) (fun ho => by rw [(hownR b ho).1] at hj; omega)), hu]
  have ht : ∀ v y, TVR G.hw w v y → TVR G'.hw w' v y := fun v y h => h.mono hle hcell
  have hnot : ∀ nm blk k, ¬ D nm → st.heap nm = some blk → G.reg nm k → ¬ own k := fun nm blk k hD h1 h2 ho => by
    obtain ⟨nm', blk', h3, h4, h5⟩ := hown k ho
    exact hD (hR.disj nm nm' blk blk' k h1 h4 h2 h5 ▸ h3)
  refine { kept := ?_, hwOld := ?_, hwNew := hwn, tmps := ha, defers := had, slots := fun t => hslots t (hR.slots t), heap := ?_, reg := ?_, disj := ?_, old := fun nm hn => (hold nm hn).trans (hR.old nm hn) }
  · exact hR.kept.trans hk (fun b hb hlt => by
      rcases (hownR b hb).2.1 with h | h
      · omega
      · exact h)
  · intro b hb hm
    rw [hwo b (Nat.lt_of_lt_of_le hb hR.kept.size) (fun ho => by
      rcases (hownR b ho).2.1 with h | h
      · omega
      · exact hm h)]
    exact hR.hwOld b hb hm
  · intro nm blk hb
    by_cases hD : D nm
    · exact (hnew nm blk hD hb).1
    · obtain ⟨h1, h2, h3⟩ := hheap nm blk hD hb
      exact (hR.heap nm blk h1).move h2 (fun k hk => (h3 k).2 hk) (fun k hk => (h3 k).1 hk) ht (fun k hk' => hk.block k (hR.reg nm blk k h1 hk').2.2 (hnot nm blk k hD h1 hk')) (fun k hk' => by
        rcases Classical.em (G'.ph k = G.ph k) with h | h
        · exact h
        · rw [hfresh k h nm blk hD hb] at hk'; cases hk')
  · intro nm blk k hb hk'
    by_cases hD : D nm
    · obtain ⟨h1, h2, h3⟩ := (hnew nm blk hD hb).2 k hk'
      refine ⟨h1, ?_, h2⟩
      rcases h3 with h | h
      · exact (hownR k h).2.1
      · exact .inl (Nat.le_trans hR.kept.size h)
    · obtain ⟨h1, h2, h3⟩ := hheap nm blk hD hb
      have h4 := (h3 k).1 hk'
      obtain ⟨q1, q2, q3⟩ := hR.reg nm blk k h1 h4
      exact ⟨by rw [hwo k q3 (hnot nm blk k hD h1 h4), q1], q2, Nat.lt_of_lt_of_le q3 hk.size⟩
  · intro nm nm' blk blk' k hb hb' hk1 hk2
    by_cases hD : D nm
    · by_cases hD' : D nm'
      · exact hdisj nm nm' blk blk' k hD hD' hb hb' hk1 hk2
      · exfalso
        obtain ⟨h1, h2, h3⟩ := hheap nm' blk' hD' hb'
        have h4 := (h3 k).1 hk2
        rcases ((hnew nm blk hD hb).2 k hk1).2.2 with h | h
        · exact hnot nm' blk' k hD' h1 h4 h
        · have := (hR.reg nm' blk' k h1 h4).2.2; omega
    · obtain ⟨h1, h2, h3⟩ := hheap nm blk hD hb
      have h4 := (h3 k).1 hk1
      by_cases hD' : D nm'
      · exfalso
        rcases ((hnew nm' blk' hD' hb').2 k hk2).2.2 with h | h
        · exact hnot nm blk k hD h1 h4 h
        · have := (hR.reg nm blk k h1 h4).2.2; omega
      · obtain ⟨h1', h2', h3'⟩ := hheap nm' blk' hD' hb'
        exact hR.disj nm nm' blk blk' k h1 h1' h4 ((h3' k).1 hk2)

/-- A slot's word, where nothing turned but blocks that nobody reads for good, and names that the slot does not lead to. -/
theorem slot_move (hR : R cx G st a w) {own : Nat → Prop} (hown : ∀ b, own b → G.hw b = 0) (hk : Kept own w w') (hle : ∀ b, b < w.heap.size → ¬ own b → G'.hw b = G.hw b) {s : SV} {x : Value} (h : SVR G.toMk w s x) (hp : ∀ nm, s.has nm = true → G'.ph nm = G.ph nm) : SVR G'.toMk w' s x := by
  refine SVR.move h (fun b => ?_) (fun b j u hj hu => ?_) hp
  · by_cases hb : b < w.heap.size
    · by_cases ho : own b
      · rw [hown b ho]; exact Nat.zero_le _
      · rw [hle b hb ho]; exact Nat.le_refl _
    · rw [hR.hwNew b (by omega)]; exact Nat.zero_le _
  · rw [World.cell?_of_block (w := w) (hk.block b (cell_lt hu) (fun ho => by rw [hown b ho] at hj; omega)), hu]

def St.put (st : St) (d : Nat) (v : SV) : St := { st with slots := fun t => if t = d then v else st.slots t }

theorem put_get {a : Act} {d : Nat} {x : Value} (hd : d < a.tmps.size) (t : Nat) : (a.put (some d) x).tmps.getD t undef = if t = d then x else a.tmps.getD t undef := by
  simp only [Act.put]
  by_cases ht : t = d
  · subst ht
    rw [if_pos rfl, Array.getD_eq_getD_getElem?, Array.getElem?_setIfInBounds_self_of_lt hd]; rfl
  · rw [if_neg ht, Array.getD_eq_getD_getElem?, Array.getD_eq_getD_getElem?, Array.getElem?_setIfInBounds_ne (Ne.symm ht)]

/-- A slot written with what may lie there. -/
theorem R.put (hR : R cx G st a w) {d : Nat} (hd : d < cx.n) {sv : SV} {x : Value} (h : SVR G.toMk w sv x) : R cx G (st.put d sv) (a.put (some d) x) w := by
  refine { hR with tmps := ?_, defers := ?_, slots := ?_ }
  · simp [Act.put, hR.tmps]
  · simp [Act.put, hR.defers]
  · intro t
    rw [put_get (by rw [hR.tmps]; exact hd)]
    simp only [St.put]
    split
    · exact h
    · exact hR.slots t

theorem R.putNone (hR : R cx G st a w) {x : Value} : R cx G st (a.put none x) w := hR

theorem R.weaken (hR : R cx G st a w) {slots' : Nat → SV} (h : ∀ t x, SVR G.toMk w (st.slots t) x → SVR G.toMk w (slots' t) x) : R cx G { st with slots := slots' } a w := { hR with slots := fun t => h t _ (hR.slots t) }

/-- Memory grew, and nothing else. -/
theorem R.grow (hR : R cx G st a w) (hw' : Nat → Nat) (hk : Kept Emp w w') (hwo : ∀ b, b < w.heap.size → hw' b = G.hw b) (hwn : ∀ b, w'.heap.size ≤ b → hw' b = 0) : R cx { G with hw := hw' } st a w' := by
  refine hR.change Emp Emp (fun _ h => h.elim) hk (fun b hb _ => hwo b hb) hwn (fun nm blk _ h => ⟨h, rfl, fun _ => Iff.rfl⟩) (fun nm h => absurd rfl h) (fun _ _ h => h.elim) (fun _ _ _ _ _ h => h.elim) (fun t h => slot_move hR (own := Emp) (fun _ h => h.elim) hk (fun b hb _ => hwo b hb) h (fun _ _ => rfl)) (fun _ _ => rfl) hR.tmps hR.defers
end
end Go.Proofs.Ytgmjgognpabmdaa.Fx
