/- slices.SortFunc: the kit's contract as one of these. -/
import Derived.Test.YtgmjgognpabmdaaFxSortLay
import Derived.Test.YtgmjgognpabmdaaFxBest
namespace Go.Proofs.Ytgmjgognpabmdaa.Fx
open Go Go.RowKit Go.Shelf Go.Sort Go.Proofs
set_option maxRecDepth 100000
set_option linter.unusedSimpArgs false
set_option linter.unusedVariables false
def hsort (m : Int) (l : List Ht) : List Ht := l.mergeSort (fun x y => !less m y x)
def encHt (x : Ht) : List Value := [.int .i64 x.1, .int .i64 x.2]
theorem less_lt (m : Int) (hM : mOk m = true) (x y : Ht) : less m x y = true ↔ (x.2 = y.2 ∧ x.1 < y.1) ∨ (m = 1 ∧ x.2 < y.2) ∨ (m ≠ 1 ∧ y.2 < x.2) := by
  unfold less
  rw [hM]
  by_cases h : x.2 = y.2
  · simp [h]
  · by_cases h1 : m = 1
    · simp [h, h1]
    · simp [h, h1]; omega
theorem ltOf_cf (m : Int) (x y : Ht) : ltOf (cf m) x y = less m x y := by
  unfold ltOf cf
  by_cases h1 : less m x y = true
  · simp [h1]
  · by_cases h2 : less m y x = true <;> simp [h1, h2]
theorem swo_less (m : Int) (hM : mOk m = true) : SWO (ltOf (cf m)) where
  irrefl x := by
    rw [ltOf_cf, Bool.eq_false_iff]; intro h; rw [less_lt m hM] at h; omega
  trans x y z h1 h2 := by
    rw [ltOf_cf, less_lt m hM] at *
    omega
  ntrans x y z h1 h2 := by
    rw [ltOf_cf, Bool.eq_false_iff] at *
    intro h3
    rw [Ne, less_lt m hM] at h1 h2
    rw [less_lt m hM] at h3
    omega
theorem less_anti (m : Int) (hM : mOk m = true) (x y : Ht) (h1 : ltOf (cf m) x y = false) (h2 : ltOf (cf m) y x = false) : x = y := by
  rw [ltOf_cf, Bool.eq_false_iff, Ne, less_lt m hM] at h1 h2
  obtain ⟨a, b⟩ := x
  obtain ⟨c, d⟩ := y
  simp only at h1 h2
  have : a = c ∧ b = d := by omega
  rw [this.1, this.2]
theorem encHt_at (x : Ht) (t : Nat) (ht : t < 2) : (encHt x)[t]! = if t = 0 then .int .i64 x.1 else .int .i64 x.2 := by
  rcases (show t = 0 ∨ t = 1 by omega) with rfl | rfl <;> rfl
theorem cmpLays_ht (m : Int) (bm o blk off : Nat) (size : Nat) (w : World) (hne : bm ≠ blk) (hc : w.cell? ⟨bm, o, none⟩ = some (.int .i64 m)) : CmpLays Try.prog 42 #[.pointer (some ⟨bm, o, none⟩)] encHt 2 (cf m) blk off size w := by
  intro q os dk hs x y
  have hbm : bm < w.heap.size := World.block_lt_of_cell? w _ hc
  have hc' : (sortWorldK encHt 2 w blk off q dk os).cell? ⟨bm, o, none⟩ = some (.int .i64 m) := by
    unfold sortWorldK
    rw [cell?_grow _ _ _ (by rw [size_putRowK]; exact hbm), cell?_putRowK_other _ _ _ _ _ _ _ hne]
    exact hc
  refine (cmp_c m x.1 x.2 y.1 y.2 bm o _ hc').mono ?_
  rintro e w' ⟨h1, os', h2⟩
  exact ⟨h1, 0, os', h2⟩
theorem enters42 : ∀ args w, (callFunc 42 args).run Try.prog w = .ok (.enter 42 args) w := enters_of Try.func42 (by kernel_rfl) rfl
theorem rowsR_cell {M : Mk} {w : World} {S : Nat → Prop} {cs : Array Value} {o : Nat} {l : List Ht} (h : RowsR M w S cs o 2 (up (hrows l))) (i : Nat) (hi : i < l.length) : cs[o + (i * 2 + 0)]? = some (.int .i64 (hg l i).1) ∧ cs[o + (i * 2 + 1)]? = some (.int .i64 (hg l i).2) := by
  obtain ⟨g, _, _, h3⟩ := h
  have hr : (up (hrows l))[i]? = some [.t (.int .i64 (hg l i).1), .t (.int .i64 (hg l i).2)] := by
    rw [show (up (hrows l))[i]? = (l[i]?).map hcell by simp only [up, hrows, List.map_map, List.getElem?_map]; cases l[i]? <;> rfl, List.getElem?_eq_getElem hi]
    simp [hcell, hg, hi]
  refine ⟨?_, ?_⟩
  · obtain ⟨x, q1, q2⟩ := h3 i _ 0 _ hr rfl
    cases q2 with | t q2 => cases q2; exact q1
  · obtain ⟨x, q1, q2⟩ := h3 i _ 1 _ hr rfl
    cases q2 with | t q2 => cases q2; exact q1
theorem holdsHt {w : World} {b o : Nat} {l : List Ht} {cs : Array Value} {el : TypeId} (hb : w.heap[b]? = some (.cells cs el (0, 0))) (h : ∀ i, i < l.length → cs[o + (i * 2 + 0)]? = some (.int .i64 (hg l i).1) ∧ cs[o + (i * 2 + 1)]? = some (.int .i64 (hg l i).2)) : HoldsK encHt 2 w b o l.toArray := by
  intro j hj
  rw [size_flatK] at hj
  rw [get_flatK _ _ _ _ hj]
  simp only [List.size_toArray] at hj
  have hi : j / 2 < l.length := by omega
  have hg1 : l.toArray[j / 2]! = hg l (j / 2) := by simp [hg, hi]
  rw [hg1, encHt_at _ _ (by omega)]
  obtain ⟨h1, h2⟩ := h (j / 2) hi
  refine ⟨?_, by simp [World.frozen?, hb]⟩
  simp only [World.cell?, hb, Option.isSome_none, Bool.false_eq_true, if_false]
  rcases Nat.mod_two_eq_zero_or_one j with h0 | h0
  · rw [h0, if_pos rfl, show o + j = o + (j / 2 * 2 + 0) by omega]; exact h1
  · rw [h0, if_neg (by decide), show o + j = o + (j / 2 * 2 + 1) by omega]; exact h2
theorem hsort_of (m : Int) (hM : mOk m = true) (l : List Ht) (d' : Array Ht) (hp : PermIn 0 l.toArray.size l.toArray d') (hs : SortedIn (ltOf (cf m)) 0 l.toArray.size d') : d'.toList = hsort m l := by
  have := sorted_unique_holds (swo_less m hM) (less_anti m hM) l.toArray d' hp hs
  rw [this, hsort]
  congr 1
  funext x y
  rw [ltOf_cf]
theorem hsort_len (m : Int) (l : List Ht) : (hsort m l).length = l.length := by simp [hsort, List.length_mergeSort]
theorem sort_world {w : World} {b o n : Nat} {d' : Array Ht} {os : Array Obj} {cs : Array Value} {el : TypeId} (hb : w.heap[b]? = some (.cells cs el (0, 0))) :
    ∃ cs', (sortWorldK encHt 2 w b o n d' os).heap[b]? = some (.cells cs' el (0, 0)) ∧ cs'.size = cs.size := by
  have hlt : b < w.heap.size := (Array.getElem?_eq_some_iff.1 hb).1
  refine ⟨putCells id o (flatK encHt 2 d') cs, ?_, by simp [putCells]⟩
  unfold sortWorldK
  rw [heap_grow_old _ _ (by rw [size_putRowK]; exact hlt)]
  show (w.heap.modify b (onCells (putCells id o (flatK encHt 2 d'))))[b]? = _
  rw [Array.getElem?_modify, if_pos rfl, hb]
  rfl
theorem sort_world_other {w : World} {b o n k : Nat} {d' : Array Ht} {os : Array Obj} (hk : k < w.heap.size) (hne : k ≠ b) : (sortWorldK encHt 2 w b o n d' os).heap[k]? = w.heap[k]? := by
  unfold sortWorldK
  rw [heap_grow_old _ _ (by rw [size_putRowK]; exact hk)]
  show (w.heap.modify b (onCells (putCells id o (flatK encHt 2 d'))))[k]? = _
  rw [Array.getElem?_modify, if_neg (Ne.symm hne)]
theorem rowsR_of {M : Mk} {w : World} {S : Nat → Prop} {cs : Array Value} {o : Nat} {l : List Ht} (h : ∀ i, i < l.length → cs[o + (i * 2 + 0)]? = some (.int .i64 (hg l i).1) ∧ cs[o + (i * 2 + 1)]? = some (.int .i64 (hg l i).2)) : RowsR M w S cs o 2 (up (hrows l)) := by
  refine ⟨fun _ _ _ => False, fun _ _ _ h => h.elim, fun _ _ _ _ _ h => h.elim, fun i r j c hi hj => ?_⟩
  have hr : (up (hrows l))[i]? = (l[i]?).map hcell := by simp only [up, hrows, List.map_map, List.getElem?_map]; cases l[i]? <;> rfl
  rw [hr] at hi
  have hil : i < l.length := by
    rcases Nat.lt_or_ge i l.length with h | h
    · exact h
    · rw [List.getElem?_eq_none h] at hi; exact absurd hi (by simp)
  obtain ⟨h1, h2⟩ := h i hil
  have e : hg l i = l[i] := by simp [hg, hil]
  rw [List.getElem?_eq_getElem hil] at hi
  simp only [Option.map_some, Option.some.injEq] at hi
  subst hi
  rw [e] at h1 h2
  match j, hj with
  | 0, hj => simp [hcell] at hj; subst hj; exact ⟨_, h1, .t (.int _ _)⟩
  | 1, hj => simp [hcell] at hj; subst hj; exact ⟨_, h2, .t (.int _ _)⟩
theorem holds_cells {w : World} {b o : Nat} {l : List Ht} {cs : Array Value} {el : TypeId} (hb : w.heap[b]? = some (.cells cs el (0, 0))) (h : HoldsK encHt 2 w b o l.toArray) (i : Nat) (hi : i < l.length) : cs[o + (i * 2 + 0)]? = some (.int .i64 (hg l i).1) ∧ cs[o + (i * 2 + 1)]? = some (.int .i64 (hg l i).2) := by
  have key : ∀ t, t < 2 → cs[o + (i * 2 + t)]? = some (if t = 0 then .int .i64 (hg l i).1 else .int .i64 (hg l i).2) := by
    intro t ht
    have hj : i * 2 + t < (flatK encHt 2 l.toArray).size := by rw [size_flatK]; simp only [List.size_toArray]; omega
    have h1 := (h (i * 2 + t) hj).1
    rw [get_flatK _ _ _ _ (by simpa using hj), show (i * 2 + t) / 2 = i by omega, show (i * 2 + t) % 2 = t by omega] at h1
    have hg1 : l.toArray[i]! = hg l i := by simp [hg, hi]
    rw [hg1, id, encHt_at _ _ ht] at h1
    simpa only [World.cell?, hb, Option.isSome_none, Bool.false_eq_true, if_false] using h1
  exact ⟨key 0 (by decide), key 1 (by decide)⟩
theorem sort_spec (m : Int) (hM : mOk m = true) (l : List Ht) (hne : l ≠ []) (hl : l.length < 4611686018427387904) : Spec Try.prog 41 [.v (.mr 1000 0 l.length), .v (.fnc 42 [] [.mp 1001 0 0])] [(1000, listB l), (1001, boxB m)] [] [(1000, listB (hsort m l)), (1001, boxB m)] := by
  intro w G vals hv hN hz
  match vals, hv with
  | [v1, v2], ⟨h1, h2, _⟩ =>
  simp only [AVR] at h1 h2
  have hl0 : l.length ≠ 0 := fun e => hne (List.eq_nil_of_length_eq_zero e)
  generalize hL : l.length = L at h1
  cases h1 with
  | mr0 => exact absurd hL hl0
  | mr _ _ _ cap p hp q1 q2 q3 q4 =>
  cases h2 with
  | fnc _ _ _ us vs e1 e2 e3 e4 =>
  obtain rfl : us = [] := List.eq_nil_of_length_eq_zero (by simpa using e1.symm)
  match vs, e2, e4 with
  | [u], _, e4 =>
  obtain ⟨pb, hpb, rfl⟩ := cv_mp (e4 0 _ _ rfl rfl)
  have B1 := hN.blk 1000 (listB l) rfl
  have B2 := hN.blk 1001 (boxB m) rfl
  simp only [listB, boxB, BlkR, hp, hpb] at B1 B2
  obtain ⟨a1, a2, a3, a4, a5, cs, el, a6, a7, a8, a9⟩ := B1
  obtain ⟨b1, b2, b3, b4, b5, cs2, el2, b6, b7, b8, b9⟩ := B2
  have hbb : pb.b ≠ p.b := fun e => by
    have := hN.disj 1000 1001 (listB l) (boxB m) p.b rfl rfl a5 (e ▸ b5)
    omega
  have hc : w.cell? ⟨pb.b, pb.o + (0 * pb.sz + 0), none⟩ = some (.int .i64 m) := by
    obtain ⟨g, _, _, h3⟩ := b9
    obtain ⟨x, r1, r2⟩ := h3 0 _ 0 _ rfl rfl
    cases r2 with | t r2 =>
    cases r2
    simp only [World.cell?, b6, Option.isSome_none, Bool.false_eq_true, if_false]
    simpa using r1
  have hcell := fun i hi => rowsR_cell a9 i hi
  have hH := holdsHt a6 hcell
  have hblk : p.b < w.heap.size := (hN.reg 1000 _ _ rfl a5).2
  have hoff : p.o + 0 * p.sz = p.o := by simp
  have hcon := AnyQ.slices_SortFunc sortHit 2 (fun w => show (isAgg 23).run Try.prog w = _ from run_agg (tOk 23 ty23 rfl) w) (fun w => show (sizeOf 23).run Try.prog w = _ from run_size (tOk 23 ty23 rfl) w) encHt (fun _ => rfl) (fun x v hv => by simp [encHt] at hv; rcases hv with rfl | rfl <;> rfl) (cf m) (swo_less m hM) 42 #[.pointer (some ⟨pb.b, pb.o + (0 * pb.sz + 0), none⟩)] p.b p.o cap l.toArray w enters42 (cmpLays_ht m _ _ _ _ _ w hbb hc) hH hblk (by simpa using hl)
  rw [hoff]
  have hsz : l.toArray.size = L := by simpa using hL
  rw [hsz] at hcon
  refine Calls.mono hcon ?_
  rintro e w' ⟨rfl, d', n, os, hperm, hsort', rfl⟩
  have hd := hsort_of m hM l d' (by rw [hsz]; exact hperm) (by rw [hsz]; exact hsort')
  have hds : d'.size = l.length := by rw [hperm.1]; simp
  obtain ⟨cs', hb', hsz'⟩ := sort_world (o := p.o) (n := n) (d' := d') (os := os) a6
  have hoth : ∀ k, k < w.heap.size → k ≠ p.b → (sortWorldK encHt 2 w p.b p.o n d' os).heap[k]? = w.heap[k]? := fun k h1 h2 => sort_world_other h1 h2
  have hsize : w.heap.size ≤ (sortWorldK encHt 2 w p.b p.o n d' os).heap.size := by
    unfold sortWorldK
    rw [size_grow, size_putRowK]
    show w.heap.size ≤ w.heap.size + os.size
    omega
  have hH' : HoldsK encHt 2 (sortWorldK encHt 2 w p.b p.o n d' os) p.b p.o d' := holdsK_sortWorldK encHt 2 w p.b p.o n l.toArray d' os hblk hH (by rw [hds]; simp)
  have hbpb : pb.b < w.heap.size := (hN.reg 1001 _ _ rfl b5).2
  have hl' : (⟨d'.toList.toArray.toList⟩ : Array Ht) = d' := by simp
  have hHs : HoldsK encHt 2 (sortWorldK encHt 2 w p.b p.o n d' os) p.b p.o (hsort m l).toArray := by rw [← hd]; simpa using hH'
  have hcs := holds_cells hb' hHs
  have hmineb : mineOf G [(1000, listB l), (1001, boxB m)] p.b := ⟨1000, _, rfl, a5⟩
  have hnm : ∀ nm blk', hGet [(1000, listB (hsort m l)), (1001, boxB m)] nm = some blk' → ∃ blk, hGet [(1000, listB l), (1001, boxB m)] nm = some blk := by
    intro nm blk' h
    simp only [hGet] at h ⊢
    by_cases e1 : nm = 1000
    · subst e1; exact ⟨_, rfl⟩
    · by_cases e2 : nm = 1001
      · subst e2; exact ⟨_, rfl⟩
      · simp [e1, e2] at h
  refine ⟨.tuple #[], G, rfl, ⟨[], rfl, trivial⟩, ⟨?_, ?_, ?_⟩, ?_, fun _ _ _ _ _ => rfl, ⟨rfl, rfl, rfl, hsize, ?_⟩, fun _ _ _ => rfl, fun b hb => hz b (Nat.le_trans hsize hb)⟩
  · intro nm blk h
    simp only [hGet] at h
    by_cases e1 : nm = 1000
    · subst e1
      obtain rfl := Option.some.inj h
      simp only [listB, BlkR, hp]
      refine ⟨a1, by simp [a2, up, hrows, hsort_len], a3, ?_, a5, cs', el, hb', hsz'.trans a7, by simpa [up, hrows, hsort_len] using a8, rowsR_of hcs⟩
      intro r hr
      simp only [up, hrows, List.map_map, List.mem_map] at hr
      obtain ⟨x, _, rfl⟩ := hr
      rfl
    · by_cases e2 : nm = 1001
      · subst e2
        obtain rfl := Option.some.inj h
        simp only [boxB, BlkR, hpb]
        refine ⟨b1, b2, b3, b4, b5, cs2, el2, (hoth _ hbpb hbb).trans b6, b7, b8, ?_⟩
        obtain ⟨g, g1, g2, g3⟩ := b9
        refine ⟨g, g1, g2, fun i r j c hi hj => ?_⟩
        obtain ⟨x, r1, r2⟩ := g3 i r j c hi hj
        refine ⟨x, r1, ?_⟩
        match i, hi with
        | 0, hi =>
          simp at hi; subst hi
          match j, hj with
          | 0, hj =>
            simp at hj; subst hj
            cases r2 with | t r2 => cases r2; exact .t (.int _ _)
      · simp [e1, e2] at h
  · intro nm blk k h hk
    obtain ⟨blk', h'⟩ := hnm nm blk h
    obtain ⟨c1, c2⟩ := hN.reg nm blk' k h' hk
    exact ⟨c1, Nat.lt_of_lt_of_le c2 hsize⟩
  · intro nm nm' blk blk' k h h' hk hk'
    obtain ⟨c1, c2⟩ := hnm nm blk h
    obtain ⟨c3, c4⟩ := hnm nm' blk' h'
    exact hN.disj nm nm' c1 c3 k c2 c4 hk hk'
  · intro nm blk k h hk
    obtain ⟨c1, c2⟩ := hnm nm blk h
    exact .inl ⟨nm, c1, c2, hk⟩
  · intro k hk hm
    exact hoth k hk (fun e => hm (e ▸ hmineb))
end Go.Proofs.Ytgmjgognpabmdaa.Fx
