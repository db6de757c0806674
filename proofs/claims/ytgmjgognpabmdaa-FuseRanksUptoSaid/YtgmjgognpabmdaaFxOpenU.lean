/- An argument that reads as data of bounded bulk, told as a tree of values (the evaluator's); for statements of the second form. -/
import Derived.Deep.Slices
import Derived.SizedLaws
import Derived.OpenShut
import Derived.DataReads
import Derived.Test.YtgmjgognpabmdaaFxOpen
import Derived.Test.YtgmjgognpabmdaaRows
import Derived.JoinedCond
namespace Go.Proofs.Ytgmjgognpabmdaa.Fx
open Go Go.Deep Go.RowKit
set_option linter.unusedVariables false

theorem bulk_one {H : Type} (d : DataW H) : 1 ≤ Rows.uptoBulk d := by
  cases d with
  | lit l => cases l <;> simp [Rows.uptoBulk]
  | nil => simp [Rows.uptoBulk]
  | ptr d => simp [Rows.uptoBulk]
  | slice elems spare => simp [Rows.uptoBulk]
  | agg parts => simp [Rows.uptoBulk]
  | iface t d => simp [Rows.uptoBulk]
  | map entries => simp [Rows.uptoBulk]
  | held h => simp [Rows.uptoBulk]
theorem bulk_part {H : Type} {d : DataW H} {l : List (DataW H)} (h : d ∈ l) : Rows.uptoBulk d ≤ Rows.uptoBulkAll l := by
  induction l with
  | nil => cases h
  | cons x r ih =>
    simp only [Rows.uptoBulkAll]
    cases List.mem_cons.1 h with
    | inl e => subst e; omega
    | inr e => have := ih e; omega
theorem bulk_len {H : Type} (l : List (DataW H)) : l.length ≤ Rows.uptoBulkAll l := by
  induction l with
  | nil => simp [Rows.uptoBulkAll]
  | cons x r ih => have := bulk_one x; simp only [Rows.uptoBulkAll, List.length_cons]; omega

/-- What reads as data of type t is a tree of sz cells, and each part of it is as good as g says. -/
def ReadsU {α : Type} (P : Program) (t : TypeId) (sz : Nat) (enc : α → List TV) (g : α → Prop) : Prop :=
  P.cellsOf t = sz ∧ ∀ {H : Type} (en : TypeId × Value → H) (W : World) (held : Bool) (fuel : Nat) (cs : List Value) (x : DataW H × List MemPlace),
    DataW.trod en P W 0 (fun _ => true) held fuel t cs = some x → Rows.uptoBulk x.1 ≤ 1048576 → ∃ y : α, All2 (TVR (fullOf W) W) (enc y) cs ∧ g y

theorem ReadsU.int {P : Program} {t : TypeId} {k : IntKind} (ht : P.underlying t = some (.int k)) (hc : P.cellsOf t = 1) : ReadsU P t 1 (fun n : Int => [.int k n]) (fun n => (Lit.int k n).wf = true) :=
  ⟨hc, fun enc W held fuel cs x h _ => by
    obtain ⟨n, rfl, _, hw⟩ := DataW.trod_int ht h
    exact ⟨n, ⟨.int k n, trivial⟩, hw⟩⟩
theorem ReadsU.bool {P : Program} {t : TypeId} (ht : P.underlying t = some .bool) (hc : P.cellsOf t = 1) : ReadsU P t 1 (fun b : Bool => [.bool b]) (fun _ => True) :=
  ⟨hc, fun enc W held fuel cs x h _ => by
    obtain ⟨b, rfl, _⟩ := DataW.trod_bool ht h
    exact ⟨b, ⟨.bool b, trivial⟩, trivial⟩⟩
theorem ReadsU.str {P : Program} {t : TypeId} (ht : P.underlying t = some .string) (hc : P.cellsOf t = 1) : ReadsU P t 1 (fun s : ByteArray => [.str s]) (fun s => s.size ≤ 1048576) :=
  ⟨hc, fun enc W held fuel cs x h hw => by
    obtain ⟨s, rfl, rfl, _⟩ := DataW.trod_string ht h
    refine ⟨s, ⟨.str s, trivial⟩, ?_⟩
    simp only [Rows.uptoBulk] at hw
    rw [Array.length_toList] at hw
    exact Nat.le_of_succ_le hw⟩

theorem ReadsU.slice {α : Type} {P : Program} {t e : TypeId} {sz : Nat} {enc : α → List TV} {g : α → Prop} (hz : 0 < sz) (ht : P.underlying t = some (.slice e)) (hc : P.cellsOf t = 1) (hd : ReadsU P e sz enc g) :
    ReadsU P t 1 (fun l : List α => [.sl sz (l.map enc)]) (fun l => l.length ≤ 1048576 ∧ ∀ y ∈ l, g y) :=
  ⟨hc, fun {H} en W held fuel cs x h hw => by
    rcases open_slice ht h with ⟨rfl, rfl⟩ | ⟨a, len, cap, m, n, D, Pl, rfl, _, hl, hm, hmm, rfl, hx⟩
    · exact ⟨[], ⟨.nil _ _ _, trivial⟩, by simp, fun y hy => by simp at hy⟩
    · simp only [if_true] at hmm
      subst hmm
      simp only [Rows.uptoBulk] at hw
      have hwi : ∀ i, i < len → Rows.uptoBulk (D i) ≤ 1048576 := by
        intro i hi
        have := bulk_part (List.mem_map.2 ⟨i, List.mem_range.2 hi, rfl⟩ : D i ∈ (List.range len).map D)
        omega
      have hlen0 : len ≤ 1048576 := by
        have := bulk_len ((List.range len).map D)
        rw [List.length_map, List.length_range] at this
        omega
      obtain ⟨l, hll, hp⟩ := choose_list (p := fun i y => ∃ cs', cs'.length = sz ∧ All2 (TVR (fullOf W) W) (enc y) cs' ∧ g y ∧ ∀ j u, cs'[j]? = some u → W.cell? (a.add (i * sz + j)) = some u) len (fun i hi => by
        obtain ⟨cs', h1, h2⟩ := hx i (by omega)
        obtain ⟨y, hy, hg⟩ := hd.2 en W held n cs' (D i, Pl i) h2 (hwi i hi)
        obtain ⟨_, hlen, hcell⟩ := World.cells?_some h1
        rw [hd.1] at hlen hcell
        refine ⟨y, cs', hlen, hy, hg, fun j u hu => ?_⟩
        have hj : j < sz := by
          have := (List.getElem?_eq_some_iff.1 hu).1; omega
        have := hcell j hj
        rw [Go.Deep.add_add] at this
        rw [this, hu])
      subst hll
      refine ⟨l, ⟨?_, trivial⟩, ?_, fun y hy => ?_⟩
      · cases hln : l.length with
        | zero =>
          obtain rfl := List.length_eq_zero_iff.1 hln
          exact .nil _ _ _
        | succ k =>
          have hq : ∀ i, i < l.length → ∃ cs', cs'.length = sz ∧ All2 (TVR (fullOf W) W) (enc (l.getD i (l[0]'(by omega)))) cs' ∧ ∀ j u, cs'[j]? = some u → W.cell? (a.add (i * sz + j)) = some u := fun i hi => by
            obtain ⟨cs', q1, q2, _, q4⟩ := hp i _ (List.getElem?_eq_getElem hi)
            exact ⟨cs', q1, by rw [List.getD_eq_getElem?_getD, List.getElem?_eq_getElem hi]; exact q2, q4⟩
          have hcell : ∀ i j, i < l.length → j < sz → ∃ u, W.cell? (a.add (i * sz + j)) = some u := fun i j hi hj => by
            obtain ⟨cs', q1, _, q3⟩ := hq i hi
            exact ⟨_, q3 j _ (List.getElem?_eq_getElem (by omega))⟩
          have hsp : a.spot = none := by
            obtain ⟨u, hu⟩ := hcell 0 0 (by omega) hz
            rw [Nat.zero_mul, Nat.zero_add] at hu
            have h0 : a.add 0 = a := rfl
            rw [h0] at hu
            exact (full_lt (b := a.block) (o := a.off) (sp := a.spot) hu).1
          obtain ⟨ab, ao, asp⟩ := a
          simp only at hsp
          subst hsp
          rw [← hln]
          have := TVR.sl (hw := fullOf W) (w := W) sz (l.map enc) ab ao m (fun i j => (W.cell? ⟨ab, ao + (i * sz + j), none⟩).getD undef) hz ?_ (by rw [List.length_map]; exact hl) ?_ ?_ ?_
          · rw [List.length_map] at this; exact this
          · intro r hr
            obtain ⟨y, hy, rfl⟩ := List.mem_map.1 hr
            obtain ⟨i, hi, rfl⟩ := List.mem_iff_getElem.1 hy
            obtain ⟨cs', q1, q2, _, _⟩ := hp i _ (List.getElem?_eq_getElem hi)
            rw [q2.length, q1]
          · rw [List.length_map]
            obtain ⟨u, hu⟩ := hcell k (sz - 1) (by omega) (by omega)
            rw [add_spot rfl] at hu
            have : ao + (k * sz + (sz - 1)) < fullOf W ab := (full_lt hu).2
            have hk : l.length * sz = k * sz + sz := by rw [hln, Nat.succ_mul]
            omega
          · intro i j hi hj
            rw [List.length_map] at hi
            obtain ⟨u, hu⟩ := hcell i j hi hj
            rw [add_spot rfl] at hu
            rw [hu]; rfl
          · intro i r j x9 hr hj
            rw [List.getElem?_map] at hr
            cases hli : l[i]? with
            | none => rw [hli] at hr; cases hr
            | some y =>
              rw [hli] at hr
              simp only [Option.map_some, Option.some.injEq] at hr
              subst hr
              obtain ⟨cs', q1, q2, _, q4⟩ := hp i y hli
              obtain ⟨u, hu, hR⟩ := q2.get j x9 hj
              have := q4 j u hu
              rw [add_spot rfl] at this
              simp only at this
              rw [this]; exact hR
      · exact hlen0
      · obtain ⟨i, hi, rfl⟩ := List.mem_iff_getElem.1 hy
        obtain ⟨_, _, _, h3, _⟩ := hp i _ (List.getElem?_eq_getElem hi)
        exact h3⟩

/-- The fields of a struct from field i on: their cells one behind the other. -/
def ReadsFromU {α : Type} (P : Program) (fs : List Field) (off sz : Nat) (enc : α → List TV) (g : α → Prop) : Prop :=
  (fs.map (fun f => P.cellsOf f.type)).sum = sz ∧ ∀ {H : Type} (en : TypeId × Value → H) (W : World) (held : Bool) (fuel : Nat) (cs : List Value) (xs : List (DataW H × List MemPlace)), cs.length = off + sz → xs.length = fs.length →
    (∀ (i : Nat) (f : Field), fs[i]? = some f → DataW.trod en P W 0 (fun _ => true) held fuel f.type ((cs.drop f.offset).take (P.cellsOf f.type)) = xs[i]?) →
    Rows.uptoBulkAll (xs.map (·.1)) ≤ 1048576 → ∃ y : α, All2 (TVR (fullOf W) W) (enc y) (cs.drop off) ∧ g y
theorem ReadsFromU.last {α : Type} {P : Program} {f : Field} {off sz : Nat} {enc : α → List TV} {g : α → Prop} (ho : f.offset = off) (hd : ReadsU P f.type sz enc g) : ReadsFromU P [f] off sz enc g :=
  ⟨by simp [hd.1], fun en W held fuel cs xs hl hx h hw => by
    match xs, hx with
    | [x], _ =>
      have h0 := h 0 f rfl
      rw [ho, hd.1, List.take_of_length_le (by rw [List.length_drop]; omega)] at h0
      simp only [List.map_cons, List.map_nil, Rows.uptoBulkAll] at hw
      exact hd.2 en W held fuel _ x h0 (by omega)⟩
theorem ReadsFromU.cons {α β : Type} {P : Program} {f : Field} {fs : List Field} {off sz sz2 : Nat} {enc : α → List TV} {enc2 : β → List TV} {g : α → Prop} {g2 : β → Prop} (ho : f.offset = off) (hd : ReadsU P f.type sz enc g) (hr : ReadsFromU P fs (off + sz) sz2 enc2 g2) :
    ReadsFromU P (f :: fs) off (sz + sz2) (fun p : α × β => enc p.1 ++ enc2 p.2) (fun p => g p.1 ∧ g2 p.2) :=
  ⟨by simp only [List.map_cons, List.sum_cons]; rw [hd.1, hr.1], fun en W held fuel cs xs hl hx h hw => by
    match xs, hx with
    | x :: xs, hx =>
      have h0 := h 0 f rfl
      rw [ho, hd.1] at h0
      simp only [List.map_cons, Rows.uptoBulkAll] at hw
      obtain ⟨y, hy, hg⟩ := hd.2 en W held fuel _ x h0 (by omega)
      obtain ⟨z, hz, hgz⟩ := hr.2 en W held fuel cs xs (by omega) (by simpa using hx) (fun i f' hf => h (i + 1) f' hf) (by omega)
      refine ⟨(y, z), ?_, hg, hgz⟩
      have := All2.append hy hz
      rw [← List.drop_drop, List.take_append_drop] at this
      exact this⟩
theorem ReadsU.struct {α β : Type} {P : Program} {t : TypeId} {fs : Array Field} {sz : Nat} {enc : α → List TV} {g : α → Prop} {f : β → α} (inv : α → β) (hinv : ∀ a, f (inv a) = a) (ht : P.underlying t = some (.struct fs)) (hc : P.cellsOf t = sz) (hd : ReadsFromU P fs.toList 0 sz enc g) :
    ReadsU P t sz (fun b => enc (f b)) (fun b => g (f b)) :=
  ⟨hc, fun en W held fuel cs x h hw => by
    obtain ⟨xs, n, rfl, rfl, hlen, hxl, hf⟩ := DataW.trod_struct ht h
    simp only [Rows.uptoBulk] at hw
    obtain ⟨y, hy, hg⟩ := hd.2 en W held n cs xs (by omega) (by rw [hxl]; simp) (fun i f' hi => hf i f' (by simpa using hi)) (by omega)
    exact ⟨inv y, by show All2 _ (enc (f (inv y))) cs; rw [hinv]; simpa using hy, by show g (f (inv y)); rw [hinv]; exact hg⟩⟩


/-- The elements of an array from the off-th on, cnt of them. -/
def ReadsRepU {α : Type} (P : Program) (e : TypeId) (sz off cnt : Nat) (enc : α → List TV) (g : α → Prop) : Prop :=
  P.cellsOf e = sz ∧ ∀ {H : Type} (en : TypeId × Value → H) (W : World) (held : Bool) (fuel : Nat) (cs : List Value) (xs : List (DataW H × List MemPlace)), cs.length = (off + cnt) * sz → xs.length = off + cnt →
    (∀ i, i < off + cnt → DataW.trod en P W 0 (fun _ => true) held fuel e ((cs.drop (i * sz)).take sz) = xs[i]?) →
    Rows.uptoBulkAll ((xs.drop off).map (·.1)) ≤ 1048576 → ∃ y : α, All2 (TVR (fullOf W) W) (enc y) (cs.drop (off * sz)) ∧ g y
theorem ReadsRepU.last {α : Type} {P : Program} {e : TypeId} {sz off : Nat} {enc : α → List TV} {g : α → Prop} (hd : ReadsU P e sz enc g) : ReadsRepU P e sz off 1 enc g :=
  ⟨hd.1, fun en W held fuel cs xs hl hx h hw => by
    have h0 := h off (by omega)
    rw [List.take_of_length_le (by rw [List.length_drop, hl, Nat.add_mul]; omega), List.getElem?_eq_getElem (by omega)] at h0
    have hdr : xs.drop off = [xs[off]] := by rw [List.drop_eq_getElem_cons (by omega), List.drop_of_length_le (by omega)]
    rw [hdr] at hw
    simp only [List.map_cons, List.map_nil, Rows.uptoBulkAll] at hw
    exact hd.2 en W held fuel _ xs[off] h0 (by omega)⟩
theorem ReadsRepU.cons {α β : Type} {P : Program} {e : TypeId} {sz off cnt : Nat} {enc : α → List TV} {enc2 : β → List TV} {g : α → Prop} {g2 : β → Prop} (hd : ReadsU P e sz enc g) (hr : ReadsRepU P e sz (off + 1) cnt enc2 g2) :
    ReadsRepU P e sz off (cnt + 1) (fun p : α × β => enc p.1 ++ enc2 p.2) (fun p => g p.1 ∧ g2 p.2) :=
  ⟨hd.1, fun en W held fuel cs xs hl hx h hw => by
    have h0 := h off (by omega)
    rw [List.getElem?_eq_getElem (by omega)] at h0
    have hdr : xs.drop off = xs[off] :: xs.drop (off + 1) := List.drop_eq_getElem_cons (by omega)
    rw [hdr] at hw
    simp only [List.map_cons, Rows.uptoBulkAll] at hw
    obtain ⟨y, hy, hg⟩ := hd.2 en W held fuel _ xs[off] h0 (by omega)
    obtain ⟨z, hz, hgz⟩ := hr.2 en W held fuel cs xs (by rw [hl]; congr 1; omega) (by omega) (fun i hi => h i (by omega)) (by omega)
    refine ⟨(y, z), ?_, hg, hgz⟩
    have := All2.append hy hz
    rw [Nat.succ_mul, ← List.drop_drop, List.take_append_drop] at this
    exact this⟩
theorem ReadsU.array {α : Type} {P : Program} {t e : TypeId} {n sz sz0 : Nat} {enc : α → List TV} {g : α → Prop} (ht : P.underlying t = some (.array n e)) (hc : P.cellsOf t = sz0) (hn : n * sz = sz0) (hd : ReadsRepU P e sz 0 n enc g) : ReadsU P t sz0 enc g :=
  ⟨hc, fun en W held fuel cs x h hw => by
    obtain ⟨xs, m, rfl, rfl, hlen, hxl, hf⟩ := DataW.trod_array ht h
    simp only [Rows.uptoBulk] at hw
    obtain ⟨y, hy, hg⟩ := hd.2 en W held m cs xs (by rw [hlen, hc, Nat.zero_add, hn]) (by omega) (fun i hi => by rw [← hd.1]; exact hf i (by omega)) (by rw [List.drop_zero]; omega)
    exact ⟨y, by simpa using hy, hg⟩⟩

/-! ### an argument -/
theorem of_trodU {α : Type} {P : Program} {t : TypeId} {sz : Nat} {enc : α → List TV} {g : α → Prop} (hd : ReadsU P t sz enc g) {H : Type} {en : TypeId × Value → H} {W : World} {held : Bool} {v : Value} {x : DataW H} {ps : List MemPlace}
    (h : DataW.Trod en P W 0 (fun _ => true) held t v x ps) (hw : Rows.uptoBulk x ≤ 1048576) : ∃ y : α, All2 (TVR (fullOf W) W) (enc y) v.cells.toList ∧ g y := by
  obtain ⟨fuel, hf⟩ := h
  exact hd.2 en W held fuel v.cells.toList (x, ps) hf hw
theorem bulk_of {H : Type} {ds : List (DataW H)} (hk : Rows.uptoSmall H ds = true) {d : DataW H} (hd : d ∈ ds) : Rows.uptoBulk d ≤ 1048576 :=
  Nat.le_trans (bulk_part hd) (of_decide_eq_true hk)
end Go.Proofs.Ytgmjgognpabmdaa.Fx
