/- An argument that reads as data, of whatever kind (whole numbers, bools, strings, slices, structs, arrays, one in another), told as the printed contracts read it: for the rows of laws whose parameters are more than numbers, strings and rows of numbers. -/
import Derived.Deep.Slices
import Derived.SizedLaws
import Derived.OpenShut
import Derived.DataReads
import Derived.Test.YtlnilonlaedafaaWWords
import Derived.Test.YtlnilonlaedafaaWArr
namespace Go.Proofs.Ytlnilonlaedafaa.Op
open Go.Proofs.YtlnilonlaedafaaW.PrintWords Go.Deep

/-- What reads as data of type t is a value of kind d, and each part of it is as good as g says. -/
def Reads {α : Type} (P : Program) (t : TypeId) (d : Kd α) (g : α → Prop) : Prop :=
  P.cellsOf t = d.sz ∧ ∀ {H : Type} (enc : TypeId × Value → H) (W : World) (held : Bool) (fuel : Nat) (cs : List Value) (x : DataW H × List MemPlace),
    DataW.trod enc P W 0 (fun _ => true) held fuel t cs = some x → (x.1.weights P t).all (· ≤ reachBytes) = true → ∃ y : α, d.K W y cs ∧ g y

theorem Reads.int {P : Program} {t : TypeId} {k : IntKind} (ht : P.underlying t = some (.int k)) (hc : P.cellsOf t = 1) : Reads P t (Kd.int k) (fun n => (Lit.int k n).wf = true) :=
  ⟨hc, fun enc W held fuel cs x h _ => by
    obtain ⟨n, rfl, _, hw⟩ := DataW.trod_int ht h
    exact ⟨n, rfl, hw⟩⟩
theorem Reads.bool {P : Program} {t : TypeId} (ht : P.underlying t = some .bool) (hc : P.cellsOf t = 1) : Reads P t Kd.bool (fun _ => True) :=
  ⟨hc, fun enc W held fuel cs x h _ => by
    obtain ⟨b, rfl, _⟩ := DataW.trod_bool ht h
    exact ⟨b, rfl, trivial⟩⟩
theorem Reads.str {P : Program} {t : TypeId} (ht : P.underlying t = some .string) (hc : P.cellsOf t = 1) : Reads P t Kd.string (fun s => s.size ≤ 140737488351232) :=
  ⟨hc, fun enc W held fuel cs x h hw => by
    obtain ⟨s, rfl, rfl, _⟩ := DataW.trod_string ht h
    refine ⟨s, rfl, ?_⟩
    simp only [DataW.weights, List.all_cons, List.all_nil, Bool.and_true, decide_eq_true_eq] at hw
    rw [Array.length_toList] at hw
    exact hw⟩

theorem choose_list {α : Type} {p : Nat → α → Prop} : ∀ n : Nat, (∀ i, i < n → ∃ y, p i y) → ∃ l : List α, l.length = n ∧ ∀ i y, l[i]? = some y → p i y
  | 0, _ => ⟨[], rfl, fun i y h => by simp at h⟩
  | n + 1, h => by
    obtain ⟨l, hl, hp⟩ := choose_list n (fun i hi => h i (by omega))
    obtain ⟨y, hy⟩ := h n (by omega)
    refine ⟨l ++ [y], by simp [hl], fun i z hz => ?_⟩
    rcases Nat.lt_trichotomy i n with h1 | h1 | h1
    · rw [List.getElem?_append_left (by omega)] at hz
      exact hp i z hz
    · subst h1
      rw [List.getElem?_append_right (by omega), hl, Nat.sub_self] at hz
      simp at hz
      subst hz
      exact hy
    · rw [List.getElem?_eq_none (by simp; omega)] at hz
      cases hz

theorem weightsAll_mem {H : Type} {P : Program} {e : TypeId} : ∀ {l : List (DataW H)} {d : DataW H}, d ∈ l → ∀ n ∈ d.weights P e, n ∈ DataW.weightsAll P e l
  | a :: l, d, h, n, hn => by
    simp only [DataW.weightsAll, List.mem_append]
    rcases List.mem_cons.1 h with rfl | h
    · exact .inl hn
    · exact .inr (weightsAll_mem h n hn)

theorem Reads.slice {α : Type} {P : Program} {t e : TypeId} {d : Kd α} {g : α → Prop} {B : Nat} (ht : P.underlying t = some (.slice e)) (hc : P.cellsOf t = 1) (hb : P.bytesOf e = B) (hd : Reads P e d g) :
    Reads P t (Kd.slice e d) (fun l => l.length * B ≤ 140737488351232 ∧ ∀ y ∈ l, g y) :=
  ⟨hc, fun {H} enc W held fuel cs x h hw => by
    subst hb
    rcases open_slice ht h with ⟨rfl, rfl⟩ | ⟨a, len, cap, m, n, D, Pl, rfl, _, hl, hm, hmm, rfl, hx⟩
    · exact ⟨[], ⟨none, 0, rfl, Nat.le_refl _, Kd.C_nil d W⟩, by simp, fun y hy => by simp at hy⟩
    · simp only [if_true] at hmm
      subst hmm
      simp only [DataW.weights, ht, List.all_cons, Bool.and_eq_true, decide_eq_true_eq, List.all_append, List.length_map, List.length_range] at hw
      obtain ⟨hw0, hw1, _⟩ := hw
      have hwi : ∀ i, i < len → ((D i).weights P e).all (· ≤ reachBytes) = true := by
        intro i hi
        rw [List.all_eq_true] at hw1 ⊢
        intro n hn
        exact hw1 n (weightsAll_mem (List.mem_map.2 ⟨i, List.mem_range.2 hi, rfl⟩) n hn)
      obtain ⟨l, hll, hp⟩ := choose_list (p := fun i y => ∃ cs', cs'.length = d.sz ∧ d.K W y cs' ∧ g y ∧ ∀ j u, cs'[j]? = some u → W.cell? (a.add (i * d.sz + j)) = some u) len (fun i hi => by
        obtain ⟨cs', h1, h2⟩ := hx i (by omega)
        obtain ⟨y, hy, hg⟩ := hd.2 enc W held n cs' (D i, Pl i) h2 (hwi i hi)
        obtain ⟨_, hlen, hcell⟩ := World.cells?_some h1
        rw [hd.1] at hlen hcell
        refine ⟨y, cs', hlen, hy, hg, fun j u hu => ?_⟩
        have hj : j < d.sz := by
          have := (List.getElem?_eq_some_iff.1 hu).1; omega
        have := hcell j hj
        rw [Go.Deep.add_add] at this
        rw [this, hu])
      have hlr : len ≤ 9223372036854775807 := by simp only [maxLen] at hm; omega
      subst hll
      refine ⟨l, ⟨some a, m, rfl, hl, rfl, hlr, fun _ => ⟨a, rfl, fun j p hj => ?_⟩⟩, ?_, fun y hy => ?_⟩
      · obtain ⟨cs', h1, h2, _, h4⟩ := hp j p hj
        exact ⟨cs', h1, h2, h4⟩
      · have er : reachBytes = 140737488351232 := by decide
        have h1 : l.length * P.bytesOf e ≤ (l.length + (m - l.length)) * P.bytesOf e := Nat.mul_le_mul_right _ (by omega)
        omega
      · obtain ⟨i, hi, rfl⟩ := List.mem_iff_getElem.1 hy
        obtain ⟨_, _, _, h3, _⟩ := hp i _ (List.getElem?_eq_getElem hi)
        exact h3⟩

/-- The fields of a struct from field i on: their kinds one behind the other. -/
def ReadsFrom {α : Type} (P : Program) (fs : List Field) (off : Nat) (d : Kd α) (g : α → Prop) : Prop :=
  (fs.map (fun f => P.cellsOf f.type)).sum = d.sz ∧ ∀ {H : Type} (enc : TypeId × Value → H) (W : World) (held : Bool) (fuel : Nat) (cs : List Value) (xs : List (DataW H × List MemPlace)), cs.length = off + d.sz → xs.length = fs.length →
    (∀ (i : Nat) (f : Field), fs[i]? = some f → DataW.trod enc P W 0 (fun _ => true) held fuel f.type ((cs.drop f.offset).take (P.cellsOf f.type)) = xs[i]?) →
    (DataW.weightsEach P (fs.map (·.type)) (xs.map (·.1))).all (· ≤ reachBytes) = true → ∃ y : α, d.K W y (cs.drop off) ∧ g y
theorem ReadsFrom.last {α : Type} {P : Program} {f : Field} {off : Nat} {d : Kd α} {g : α → Prop} (ho : f.offset = off) (hd : Reads P f.type d g) : ReadsFrom P [f] off d g :=
  ⟨by simp [hd.1], fun enc W held fuel cs xs hl hx h hw => by
    match xs, hx with
    | [x], _ =>
      have h0 := h 0 f rfl
      rw [ho, hd.1, List.take_of_length_le (by rw [List.length_drop]; omega)] at h0
      simp only [List.map_cons, List.map_nil, DataW.weightsEach, List.append_nil] at hw
      exact hd.2 enc W held fuel _ x h0 hw⟩
theorem ReadsFrom.cons {α β : Type} {P : Program} {f : Field} {fs : List Field} {off : Nat} {d : Kd α} {d2 : Kd β} {g : α → Prop} {g2 : β → Prop} (ho : f.offset = off) (hd : Reads P f.type d g) (hr : ReadsFrom P fs (off + d.sz) d2 g2) :
    ReadsFrom P (f :: fs) off (Kd.pair d d2) (fun p => g p.1 ∧ g2 p.2) :=
  ⟨by simp only [List.map_cons, List.sum_cons]; rw [hd.1, hr.1]; rfl, fun enc W held fuel cs xs hl hx h hw => by
    match xs, hx with
    | x :: xs, hx =>
      have h0 := h 0 f rfl
      rw [ho, hd.1] at h0
      simp only [List.map_cons, DataW.weightsEach, List.all_append, Bool.and_eq_true] at hw
      obtain ⟨y, hy, hg⟩ := hd.2 enc W held fuel _ x h0 hw.1
      have hsz : (Kd.pair d d2).sz = d.sz + d2.sz := rfl
      obtain ⟨z, hz, hgz⟩ := hr.2 enc W held fuel cs xs (by rw [hsz] at hl; omega) (by simpa using hx) (fun i f' hf => h (i + 1) f' hf) hw.2
      refine ⟨(y, z), ⟨(cs.drop off).take d.sz, cs.drop (off + d.sz), ?_, hy, hz⟩, hg, hgz⟩
      rw [← List.drop_drop, List.take_append_drop]⟩
theorem Reads.struct {α β : Type} {P : Program} {t : TypeId} {fs : Array Field} {d : Kd α} {g : α → Prop} {f : β → α} (inv : α → β) (hinv : ∀ a, f (inv a) = a) (ht : P.underlying t = some (.struct fs)) (hc : P.cellsOf t = d.sz) (hd : ReadsFrom P fs.toList 0 d g) :
    Reads P t (Kd.iso d f) (fun b => g (f b)) :=
  ⟨hc, fun enc W held fuel cs x h hw => by
    obtain ⟨xs, n, rfl, rfl, hlen, hxl, hf⟩ := DataW.trod_struct ht h
    simp only [DataW.weights, ht] at hw
    obtain ⟨y, hy, hg⟩ := hd.2 enc W held n cs xs (by omega) (by rw [hxl]; simp) (fun i f' hi => hf i f' (by simpa using hi)) hw
    exact ⟨inv y, by show d.K W (f (inv y)) cs; rw [hinv]; simpa using hy, by show g (f (inv y)); rw [hinv]; exact hg⟩⟩

/-! ### an argument -/
theorem of_trod {α : Type} {P : Program} {t : TypeId} {d : Kd α} {g : α → Prop} (hd : Reads P t d g) {H : Type} {enc : TypeId × Value → H} {W : World} {held : Bool} {v : Value} {x : DataW H} {ps : List MemPlace}
    (h : DataW.Trod enc P W 0 (fun _ => true) held t v x ps) (hw : (x.weights P t).all (· ≤ reachBytes) = true) : ∃ y : α, d.K W y v.cells.toList ∧ g y := by
  obtain ⟨fuel, hf⟩ := h
  exact hd.2 enc W held fuel v.cells.toList (x, ps) hf hw
theorem weights_of {H : Type} {P : Program} {ts : List TypeId} {ds : List (DataW H)} (hsz : (DataW.weightsEach P ts ds).all (· ≤ reachBytes) = true) {j : Nat} {t : TypeId} {d : DataW H} (ht : ts[j]? = some t) (hd : ds[j]? = some d) : (d.weights P t).all (· ≤ reachBytes) = true := by
  rw [List.all_eq_true] at hsz ⊢
  exact fun n hn => hsz n (DataW.weights_mem_each ht hd n hn)
/-- A slice that came in, of whatever elements. -/
theorem slice_arg {α : Type} {P : Program} {t e : TypeId} {d : Kd α} {g : List α → Prop} (hd : Reads P t (Kd.slice e d) g) {H : Type} {enc : TypeId × Value → H} {W : World} {held : Bool} {A : Option Addr} {n c : Nat} {x : DataW H} {ps : List MemPlace}
    (h : DataW.Trod enc P W 0 (fun _ => true) held t (.slice A n c) x ps) (hw : (x.weights P t).all (· ≤ reachBytes) = true) : ∃ l : List α, n = l.length ∧ l.length ≤ c ∧ d.C W A l.length l ∧ g l := by
  obtain ⟨y, ⟨A', c', hcs, hl, hC⟩, hg⟩ := of_trod hd h hw
  simp only [Value.cells, List.cons.injEq, and_true] at hcs
  injection hcs with h1 h2 h3
  subst h1 h2 h3
  exact ⟨y, rfl, hl, hC, hg⟩
end Go.Proofs.Ytlnilonlaedafaa.Op
