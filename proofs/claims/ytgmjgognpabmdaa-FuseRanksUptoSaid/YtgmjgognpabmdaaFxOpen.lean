/- An argument that reads as data, of whatever kind, told as a tree of values (the evaluator's). -/
import Derived.Deep.Slices
import Derived.SizedLaws
import Derived.OpenShut
import Derived.DataReads
import Derived.Test.YtgmjgognpabmdaaFxU
namespace Go.Proofs.Ytgmjgognpabmdaa.Fx
open Go Go.Deep Go.RowKit
set_option linter.unusedVariables false

/-- How many cells each block has. -/
def fullOf (W : World) (b : Nat) : Nat := match W.heap[b]? with | some (.cells c _ _) => c.size | _ => 0

theorem fullOf_new (W : World) (b : Nat) (h : W.heap.size ≤ b) : fullOf W b = 0 := by unfold fullOf; rw [Array.getElem?_eq_none h]

theorem full_lt {W : World} {b o : Nat} {sp : Option Nat} {u : Value} (h : W.cell? ⟨b, o, sp⟩ = some u) : sp = none ∧ o < fullOf W b := by
  unfold World.cell? at h
  unfold fullOf
  simp only at h
  cases hb : W.heap[b]? with
  | none => rw [hb] at h; cases h
  | some bl =>
    rw [hb] at h
    cases bl with
    | cells c e z =>
      simp only at h ⊢
      cases sp with
      | some q => simp at h
      | none =>
        simp only [Option.isSome_none, Bool.false_eq_true, if_false] at h
        refine ⟨rfl, ?_⟩
        rcases Nat.lt_or_ge o c.size with h1 | h1
        · exact h1
        · rw [Array.getElem?_eq_none h1] at h; cases h
    | _ => cases h

/-- What reads as data of type t is a tree of sz cells, and each part of it is as good as g says. -/
def Reads {α : Type} (P : Program) (t : TypeId) (sz : Nat) (enc : α → List TV) (g : α → Prop) : Prop :=
  P.cellsOf t = sz ∧ ∀ {H : Type} (en : TypeId × Value → H) (W : World) (held : Bool) (fuel : Nat) (cs : List Value) (x : DataW H × List MemPlace),
    DataW.trod en P W 0 (fun _ => true) held fuel t cs = some x → (x.1.weights P t).all (· ≤ reachBytes) = true → ∃ y : α, All2 (TVR (fullOf W) W) (enc y) cs ∧ g y

theorem Reads.int {P : Program} {t : TypeId} {k : IntKind} (ht : P.underlying t = some (.int k)) (hc : P.cellsOf t = 1) : Reads P t 1 (fun n : Int => [.int k n]) (fun n => (Lit.int k n).wf = true) :=
  ⟨hc, fun enc W held fuel cs x h _ => by
    obtain ⟨n, rfl, _, hw⟩ := DataW.trod_int ht h
    exact ⟨n, ⟨.int k n, trivial⟩, hw⟩⟩
theorem Reads.bool {P : Program} {t : TypeId} (ht : P.underlying t = some .bool) (hc : P.cellsOf t = 1) : Reads P t 1 (fun b : Bool => [.bool b]) (fun _ => True) :=
  ⟨hc, fun enc W held fuel cs x h _ => by
    obtain ⟨b, rfl, _⟩ := DataW.trod_bool ht h
    exact ⟨b, ⟨.bool b, trivial⟩, trivial⟩⟩
theorem Reads.str {P : Program} {t : TypeId} (ht : P.underlying t = some .string) (hc : P.cellsOf t = 1) : Reads P t 1 (fun s : ByteArray => [.str s]) (fun s => s.size ≤ 140737488351232) :=
  ⟨hc, fun enc W held fuel cs x h hw => by
    obtain ⟨s, rfl, rfl, _⟩ := DataW.trod_string ht h
    refine ⟨s, ⟨.str s, trivial⟩, ?_⟩
    simp only [DataW.weights, List.all_cons, List.all_nil, Bool.and_true, decide_eq_true_eq] at hw
    rw [Array.length_toList] at hw
    exact hw⟩

theorem choose_list {α : Type} {p : Nat → α → Prop} : ∀ n : Nat, (∀ i, i < n → ∃ y, p i y) → ∃ l : List α, l.length = n ∧ ∀ i y, l[i]? = some y → p i y
  | 0, _ => ⟨[], rfl, fun i y h => by simp at h⟩
  | n + 1, h => by
    obtain ⟨l, hl, hp⟩ := choose_list n (fun i hi => h i (by omega))
    obtain ⟨y, hy⟩ := h n (by omega)
    refine ⟨l ++ [y], by simp [hl], fun i z hz => ?_⟩
    rcases Nat.lt_trichotomy i n with h1 | h1 | h1
    · rw [List.getElem?_append_left (by omega)] at hz
      exact hp i z hz
    · subst h1
      rw [List.getElem?_append_right (by omega), hl, Nat.sub_self] at hz
      simp at hz
      subst hz
      exact hy
    · rw [List.getElem?_eq_none (by simp; omega)] at hz
      cases hz

theorem weightsAll_mem {H : Type} {P : Program} {e : TypeId} : ∀ {l : List (DataW H)} {d : DataW H}, d ∈ l → ∀ n ∈ d.weights P e, n ∈ DataW.weightsAll P e l
  | a :: l, d, h, n, hn => by
    simp only [DataW.weightsAll, List.mem_append]
    rcases List.mem_cons.1 h with rfl | h
    · exact .inl hn
    · exact .inr (weightsAll_mem h n hn)

theorem add_spot {a : Addr} {n : Nat} (h : a.spot = none) : a.add n = ⟨a.block, a.off + n, none⟩ := by
  unfold Addr.add
  split
  · rename_i e; subst e; cases a; simp_all
  · rfl

theorem Reads.slice {α : Type} {P : Program} {t e : TypeId} {sz : Nat} {enc : α → List TV} {g : α → Prop} {B : Nat} (hz : 0 < sz) (ht : P.underlying t = some (.slice e)) (hc : P.cellsOf t = 1) (hb : P.bytesOf e = B) (hd : Reads P e sz enc g) :
    Reads P t 1 (fun l : List α => [.sl sz (l.map enc)]) (fun l => l.length * B ≤ 140737488351232 ∧ ∀ y ∈ l, g y) :=
  ⟨hc, fun {H} en W held fuel cs x h hw => by
    subst hb
    rcases open_slice ht h with ⟨rfl, rfl⟩ | ⟨a, len, cap, m, n, D, Pl, rfl, _, hl, hm, hmm, rfl, hx⟩
    · exact ⟨[], ⟨.nil _ _ _, trivial⟩, by simp, fun y hy => by simp at hy⟩
    · simp only [if_true] at hmm
      subst hmm
      simp only [DataW.weights, ht, List.all_cons, Bool.and_eq_true, decide_eq_true_eq, List.all_append, List.length_map, List.length_range] at hw
      obtain ⟨hw0, hw1, _⟩ := hw
      have hwi : ∀ i, i < len → ((D i).weights P e).all (· ≤ reachBytes) = true := by
        intro i hi
        rw [List.all_eq_true] at hw1 ⊢
        intro n hn
        exact hw1 n (weightsAll_mem (List.mem_map.2 ⟨i, List.mem_range.2 hi, rfl⟩) n hn)
      obtain ⟨l, hll, hp⟩ := choose_list (p := fun i y => ∃ cs', cs'.length = sz ∧ All2 (TVR (fullOf W) W) (enc y) cs' ∧ g y ∧ ∀ j u, cs'[j]? = some u → W.cell? (a.add (i * sz + j)) = some u) len (fun i hi => by
        obtain ⟨cs', h1, h2⟩ := hx i (by omega)
        obtain ⟨y, hy, hg⟩ := hd.2 en W held n cs' (D i, Pl i) h2 (hwi i hi)
        obtain ⟨_, hlen, hcell⟩ := World.cells?_some h1
        rw [hd.1] at hlen hcell
        refine ⟨y, cs', hlen, hy, hg, fun j u hu => ?_⟩
        have hj : j < sz := by
          have := (List.getElem?_eq_some_iff.1 hu).1; omega
        have := hcell j hj
        rw [Go.Deep.add_add] at this
        rw [this, hu])
      subst hll
      refine ⟨l, ⟨?_, trivial⟩, ?_, fun y hy => ?_⟩
      · cases hln : l.length with
        | zero =>
          obtain rfl := List.length_eq_zero_iff.1 hln
          exact .nil _ _ _
        | succ k =>
          have hq : ∀ i, i < l.length → ∃ cs', cs'.length = sz ∧ All2 (TVR (fullOf W) W) (enc (l.getD i (l[0]'(by omega)))) cs' ∧ ∀ j u, cs'[j]? = some u → W.cell? (a.add (i * sz + j)) = some u := fun i hi => by
            obtain ⟨cs', q1, q2, _, q4⟩ := hp i _ (List.getElem?_eq_getElem hi)
            exact ⟨cs', q1, by rw [List.getD_eq_getElem?_getD, List.getElem?_eq_getElem hi]; exact q2, q4⟩
          have hcell : ∀ i j, i < l.length → j < sz → ∃ u, W.cell? (a.add (i * sz + j)) = some u := fun i j hi hj => by
            obtain ⟨cs', q1, _, q3⟩ := hq i hi
            exact ⟨_, q3 j _ (List.getElem?_eq_getElem (by omega))⟩
          have hsp : a.spot = none := by
            obtain ⟨u, hu⟩ := hcell 0 0 (by omega) hz
            rw [Nat.zero_mul, Nat.zero_add] at hu
            have h0 : a.add 0 = a := rfl
            rw [h0] at hu
            exact (full_lt (b := a.block) (o := a.off) (sp := a.spot) hu).1
          obtain ⟨ab, ao, asp⟩ := a
          simp only at hsp
          subst hsp
          rw [← hln]
          have := TVR.sl (hw := fullOf W) (w := W) sz (l.map enc) ab ao m (fun i j => (W.cell? ⟨ab, ao + (i * sz + j), none⟩).getD undef) hz ?_ (by rw [List.length_map]; exact hl) ?_ ?_ ?_
          · rw [List.length_map] at this; exact this
          · intro r hr
            obtain ⟨y, hy, rfl⟩ := List.mem_map.1 hr
            obtain ⟨i, hi, rfl⟩ := List.mem_iff_getElem.1 hy
            obtain ⟨cs', q1, q2, _, _⟩ := hp i _ (List.getElem?_eq_getElem hi)
            rw [q2.length, q1]
          · rw [List.length_map]
            obtain ⟨u, hu⟩ := hcell k (sz - 1) (by omega) (by omega)
            rw [add_spot rfl] at hu
            have : ao + (k * sz + (sz - 1)) < fullOf W ab := (full_lt hu).2
            have hk : l.length * sz = k * sz + sz := by rw [hln, Nat.succ_mul]
            omega
          · intro i j hi hj
            rw [List.length_map] at hi
            obtain ⟨u, hu⟩ := hcell i j hi hj
            rw [add_spot rfl] at hu
            rw [hu]; rfl
          · intro i r j x9 hr hj
            rw [List.getElem?_map] at hr
            cases hli : l[i]? with
            | none => rw [hli] at hr; cases hr
            | some y =>
              rw [hli] at hr
              simp only [Option.map_some, Option.some.injEq] at hr
              subst hr
              obtain ⟨cs', q1, q2, _, q4⟩ := hp i y hli
              obtain ⟨u, hu, hR⟩ := q2.get j x9 hj
              have := q4 j u hu
              rw [add_spot rfl] at this
              simp only at this
              rw [this]; exact hR
      · have er : reachBytes = 140737488351232 := by decide
        have h1 : l.length * P.bytesOf e ≤ (l.length + (m - l.length)) * P.bytesOf e := Nat.mul_le_mul_right _ (by omega)
        omega
      · obtain ⟨i, hi, rfl⟩ := List.mem_iff_getElem.1 hy
        obtain ⟨_, _, _, h3, _⟩ := hp i _ (List.getElem?_eq_getElem hi)
        exact h3⟩

/-- The fields of a struct from field i on: their cells one behind the other. -/
def ReadsFrom {α : Type} (P : Program) (fs : List Field) (off sz : Nat) (enc : α → List TV) (g : α → Prop) : Prop :=
  (fs.map (fun f => P.cellsOf f.type)).sum = sz ∧ ∀ {H : Type} (en : TypeId × Value → H) (W : World) (held : Bool) (fuel : Nat) (cs : List Value) (xs : List (DataW H × List MemPlace)), cs.length = off + sz → xs.length = fs.length →
    (∀ (i : Nat) (f : Field), fs[i]? = some f → DataW.trod en P W 0 (fun _ => true) held fuel f.type ((cs.drop f.offset).take (P.cellsOf f.type)) = xs[i]?) →
    (DataW.weightsEach P (fs.map (·.type)) (xs.map (·.1))).all (· ≤ reachBytes) = true → ∃ y : α, All2 (TVR (fullOf W) W) (enc y) (cs.drop off) ∧ g y
theorem ReadsFrom.last {α : Type} {P : Program} {f : Field} {off sz : Nat} {enc : α → List TV} {g : α → Prop} (ho : f.offset = off) (hd : Reads P f.type sz enc g) : ReadsFrom P [f] off sz enc g :=
  ⟨by simp [hd.1], fun en W held fuel cs xs hl hx h hw => by
    match xs, hx with
    | [x], _ =>
      have h0 := h 0 f rfl
      rw [ho, hd.1, List.take_of_length_le (by rw [List.length_drop]; omega)] at h0
      simp only [List.map_cons, List.map_nil, DataW.weightsEach, List.append_nil] at hw
      exact hd.2 en W held fuel _ x h0 hw⟩
theorem ReadsFrom.cons {α β : Type} {P : Program} {f : Field} {fs : List Field} {off sz sz2 : Nat} {enc : α → List TV} {enc2 : β → List TV} {g : α → Prop} {g2 : β → Prop} (ho : f.offset = off) (hd : Reads P f.type sz enc g) (hr : ReadsFrom P fs (off + sz) sz2 enc2 g2) :
    ReadsFrom P (f :: fs) off (sz + sz2) (fun p : α × β => enc p.1 ++ enc2 p.2) (fun p => g p.1 ∧ g2 p.2) :=
  ⟨by simp only [List.map_cons, List.sum_cons]; rw [hd.1, hr.1], fun en W held fuel cs xs hl hx h hw => by
    match xs, hx with
    | x :: xs, hx =>
      have h0 := h 0 f rfl
      rw [ho, hd.1] at h0
      simp only [List.map_cons, DataW.weightsEach, List.all_append, Bool.and_eq_true] at hw
      obtain ⟨y, hy, hg⟩ := hd.2 en W held fuel _ x h0 hw.1
      obtain ⟨z, hz, hgz⟩ := hr.2 en W held fuel cs xs (by omega) (by simpa using hx) (fun i f' hf => h (i + 1) f' hf) hw.2
      refine ⟨(y, z), ?_, hg, hgz⟩
      have := All2.append hy hz
      rw [← List.drop_drop, List.take_append_drop] at this
      exact this⟩
theorem Reads.struct {α β : Type} {P : Program} {t : TypeId} {fs : Array Field} {sz : Nat} {enc : α → List TV} {g : α → Prop} {f : β → α} (inv : α → β) (hinv : ∀ a, f (inv a) = a) (ht : P.underlying t = some (.struct fs)) (hc : P.cellsOf t = sz) (hd : ReadsFrom P fs.toList 0 sz enc g) :
    Reads P t sz (fun b => enc (f b)) (fun b => g (f b)) :=
  ⟨hc, fun en W held fuel cs x h hw => by
    obtain ⟨xs, n, rfl, rfl, hlen, hxl, hf⟩ := DataW.trod_struct ht h
    simp only [DataW.weights, ht] at hw
    obtain ⟨y, hy, hg⟩ := hd.2 en W held n cs xs (by omega) (by rw [hxl]; simp) (fun i f' hi => hf i f' (by simpa using hi)) hw
    exact ⟨inv y, by show All2 _ (enc (f (inv y))) cs; rw [hinv]; simpa using hy, by show g (f (inv y)); rw [hinv]; exact hg⟩⟩


/-- The elements of an array from the off-th on, cnt of them. -/
def ReadsRep {α : Type} (P : Program) (e : TypeId) (sz off cnt : Nat) (enc : α → List TV) (g : α → Prop) : Prop :=
  P.cellsOf e = sz ∧ ∀ {H : Type} (en : TypeId × Value → H) (W : World) (held : Bool) (fuel : Nat) (cs : List Value) (xs : List (DataW H × List MemPlace)), cs.length = (off + cnt) * sz → xs.length = off + cnt →
    (∀ i, i < off + cnt → DataW.trod en P W 0 (fun _ => true) held fuel e ((cs.drop (i * sz)).take sz) = xs[i]?) →
    (DataW.weightsAll P e ((xs.drop off).map (·.1))).all (· ≤ reachBytes) = true → ∃ y : α, All2 (TVR (fullOf W) W) (enc y) (cs.drop (off * sz)) ∧ g y
theorem ReadsRep.last {α : Type} {P : Program} {e : TypeId} {sz off : Nat} {enc : α → List TV} {g : α → Prop} (hd : Reads P e sz enc g) : ReadsRep P e sz off 1 enc g :=
  ⟨hd.1, fun en W held fuel cs xs hl hx h hw => by
    have h0 := h off (by omega)
    rw [List.take_of_length_le (by rw [List.length_drop, hl, Nat.add_mul]; omega), List.getElem?_eq_getElem (by omega)] at h0
    have hdr : xs.drop off = [xs[off]] := by rw [List.drop_eq_getElem_cons (by omega), List.drop_of_length_le (by omega)]
    rw [hdr] at hw
    simp only [List.map_cons, List.map_nil, DataW.weightsAll, List.append_nil] at hw
    exact hd.2 en W held fuel _ xs[off] h0 hw⟩
theorem ReadsRep.cons {α β : Type} {P : Program} {e : TypeId} {sz off cnt : Nat} {enc : α → List TV} {enc2 : β → List TV} {g : α → Prop} {g2 : β → Prop} (hd : Reads P e sz enc g) (hr : ReadsRep P e sz (off + 1) cnt enc2 g2) :
    ReadsRep P e sz off (cnt + 1) (fun p : α × β => enc p.1 ++ enc2 p.2) (fun p => g p.1 ∧ g2 p.2) :=
  ⟨hd.1, fun en W held fuel cs xs hl hx h hw => by
    have h0 := h off (by omega)
    rw [List.getElem?_eq_getElem (by omega)] at h0
    have hdr : xs.drop off = xs[off] :: xs.drop (off + 1) := List.drop_eq_getElem_cons (by omega)
    rw [hdr] at hw
    simp only [List.map_cons, DataW.weightsAll, List.all_append, Bool.and_eq_true] at hw
    obtain ⟨y, hy, hg⟩ := hd.2 en W held fuel _ xs[off] h0 hw.1
    obtain ⟨z, hz, hgz⟩ := hr.2 en W held fuel cs xs (by rw [hl]; congr 1; omega) (by omega) (fun i hi => h i (by omega)) hw.2
    refine ⟨(y, z), ?_, hg, hgz⟩
    have := All2.append hy hz
    rw [Nat.succ_mul, ← List.drop_drop, List.take_append_drop] at this
    exact this⟩
theorem Reads.array {α : Type} {P : Program} {t e : TypeId} {n sz sz0 : Nat} {enc : α → List TV} {g : α → Prop} (ht : P.underlying t = some (.array n e)) (hc : P.cellsOf t = sz0) (hn : n * sz = sz0) (hd : ReadsRep P e sz 0 n enc g) : Reads P t sz0 enc g :=
  ⟨hc, fun en W held fuel cs x h hw => by
    obtain ⟨xs, m, rfl, rfl, hlen, hxl, hf⟩ := DataW.trod_array ht h
    simp only [DataW.weights, ht] at hw
    obtain ⟨y, hy, hg⟩ := hd.2 en W held m cs xs (by rw [hlen, hc, Nat.zero_add, hn]) (by omega) (fun i hi => by rw [← hd.1]; exact hf i (by omega)) (by rw [List.drop_zero]; exact hw)
    exact ⟨y, by simpa using hy, hg⟩⟩

/-! ### an argument -/
theorem okWide_array {P : Program} {w : World} {r : Reach} {base n : Nat} {t e : TypeId} {v : Value} (ht : P.underlying t = some (.array n e)) (h : Value.okWide P w r base t v) : ∃ cs, v = .agg cs ∧ cs.size = P.cellsOf t := by
  simp only [Value.okWide, ht] at h
  obtain ⟨cs, h1, h2, _⟩ := h
  exact ⟨cs, h1, h2⟩

theorem of_trod {α : Type} {P : Program} {t : TypeId} {sz : Nat} {enc : α → List TV} {g : α → Prop} (hd : Reads P t sz enc g) {H : Type} {en : TypeId × Value → H} {W : World} {held : Bool} {v : Value} {x : DataW H} {ps : List MemPlace}
    (h : DataW.Trod en P W 0 (fun _ => true) held t v x ps) (hw : (x.weights P t).all (· ≤ reachBytes) = true) : ∃ y : α, All2 (TVR (fullOf W) W) (enc y) v.cells.toList ∧ g y := by
  obtain ⟨fuel, hf⟩ := h
  exact hd.2 en W held fuel v.cells.toList (x, ps) hf hw
theorem weights_of {H : Type} {P : Program} {ts : List TypeId} {ds : List (DataW H)} (hsz : (DataW.weightsEach P ts ds).all (· ≤ reachBytes) = true) {j : Nat} {t : TypeId} {d : DataW H} (ht : ts[j]? = some t) (hd : ds[j]? = some d) : (d.weights P t).all (· ≤ reachBytes) = true := by
  rw [List.all_eq_true] at hsz ⊢
  exact fun n hn => hsz n (DataW.weights_mem_each ht hd n hn)

theorem argSl {W : World} {G : Mk} {tv : TV} {A : Option Addr} {l c : Nat} (h : All2 (TVR G.hw W) [tv] (Value.slice A l c).cells.toList) : AVR G W (.v (.t tv)) (.slice A l c) := .t h.1
theorem argAgg {W : World} {G : Mk} {tvs : List TV} {cs : Array Value} (h : All2 (TVR G.hw W) tvs (Value.agg cs).cells.toList) : AVR G W (.agg (tvs.map .t)) (.agg cs) := ⟨cs.toList, by simp, by
  have : ∀ (ts : List TV) (us : List Value), All2 (TVR G.hw W) ts us → All2 (CVR G W Emp) (ts.map .t) us := by
    intro ts
    induction ts with
    | nil => intro us h; cases us with | nil => trivial | cons _ _ => exact h.elim
    | cons t ts ih => intro us h; cases us with | nil => exact h.elim | cons u us => exact ⟨.t h.1, ih us h.2⟩
  exact this _ _ h⟩
theorem argInt {W : World} {G : Mk} {k : IntKind} (n : Int) : AVR G W (.v (.t (.int k n))) (.int k n) := .t (.int k n)
theorem argBool {W : World} {G : Mk} (b : Bool) : AVR G W (.v (.t (.bool b))) (.bool b) := .t (.bool b)
/-- The ghost of a world that just came in. -/
def inG (W : World) : Gh := ⟨⟨fullOf W, fun _ => none⟩, fun _ _ => False⟩
/-- A contract, asked in a world as it comes in: a bool is told. -/
theorem Spec.told {P : Program} {f : FuncId} {args : List AV} (hs : Spec P f args [] [.v (.t (.bool true))] []) {W : World} {vals : List Value} (hv : All2 (AVR (inG W).toMk W) args vals) : Calls P f vals.toArray W fun e w' => e = .returned (.bool true) ∧ Below W.heap.size W w' :=
  (hs W (inG W) vals hv ⟨fun _ _ h => by simp [hGet] at h, fun _ _ _ h => by simp [hGet] at h, fun _ _ _ _ _ h => by simp [hGet] at h⟩ (fun b hb => fullOf_new W b hb)).mono fun e w' ⟨v, G', he, hr, _, _, _, hk, _, _⟩ => ⟨by
    have hx : TVR G'.hw w' (.bool true) v := by cases hr with | t h => exact h
    cases hx; exact he, (show Kept Emp W w' from ⟨hk.os, hk.tape, hk.output, hk.size, fun k h _ => hk.block k h (by rintro ⟨nm, blk, h1, _⟩; simp [hGet] at h1)⟩).below⟩
theorem wf64 {n : Int} (h : (Lit.int .i64 n).wf = true) : -9223372036854775808 ≤ n ∧ n ≤ 9223372036854775807 := by simpa [Lit.wf, IntKind.bits, IntKind.signed, IntKind.min, IntKind.max] using h
end Go.Proofs.Ytgmjgognpabmdaa.Fx
