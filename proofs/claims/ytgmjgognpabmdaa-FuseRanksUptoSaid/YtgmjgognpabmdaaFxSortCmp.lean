/- The sort's question, walked with the kit's own steps: the world only grows. -/
import Derived.Test.YtgmjgognpabmdaaFxTop
import Derived.Sort.Grow
import Derived.WalkKit
import Derived.OpenShut
import Derived.Handy
import Derived.OwnWalk
import Derived.Tactics
import Derived.Deep.Draws
namespace Go.Proofs.Ytgmjgognpabmdaa.Fx
open Go Go.RowKit Go.Sort Go.Proofs
set_option maxRecDepth 100000
set_option linter.unusedSimpArgs false
set_option linter.unusedVariables false
theorem metric_c (m : Int) (W : World) : Calls Try.prog 39 #[.int .i64 m] W fun e w' => e = .returned (.bool (mOk m)) ∧ w' = W := by
  by_cases h1 : (1:Int) ≤ m
  · have e1 : decide (m ≥ 1) = true := decide_eq_true h1
    by_cases h2 : m ≤ 3
    · have e2 : decide (m ≤ 3) = true := decide_eq_true h2
      have e3 : mOk m = true := by simp [mOk, h1, h2]
      go_enter Try.func39, Try.ntmps39
      go_wp2
      go_ret
      (try rw [e3]); exact ⟨rfl, rfl⟩
    · have e2 : decide (m ≤ 3) = false := decide_eq_false h2
      have e3 : mOk m = false := by simp [mOk, h1, h2]
      go_enter Try.func39, Try.ntmps39
      go_wp2
      go_ret
      (try rw [e3]); exact ⟨rfl, rfl⟩
  · have e1 : decide (m ≥ 1) = false := decide_eq_false h1
    have e3 : mOk m = false := by simp [mOk, h1]
    go_enter Try.func39, Try.ntmps39
    go_wp2
    go_ret
    (try rw [e3]); exact ⟨rfl, rfl⟩
theorem less_c (m a1 a2 b1 b2 : Int) (W : World) : Calls Try.prog 15 #[.int .i64 m, .agg #[.int .i64 a1, .int .i64 a2], .agg #[.int .i64 b1, .int .i64 b2]] W fun e w' => e = .returned (.bool (less m (a1, a2) (b1, b2))) ∧ ∃ os', w' = grow W os' := by
  have hcon := fun W' => metric_c m W'
  cases hM : mOk m
  · rw [hM] at hcon
    have e9 : less m (a1, a2) (b1, b2) = false := by simp [less, hM]
    rw [e9]
    go_enter Try.func15, Try.ntmps15
    go_wp2_with (go_at_call 39; refine (hcon _).mono ?_; rintro e w' ⟨rfl, rfl⟩)
    go_ret
    exact ⟨rfl, _, by rw [alloc_eq_grow, alloc_eq_grow, grow_grow]⟩
  · rw [hM] at hcon
    by_cases h1 : a2 = b2
    · have e1 : (a2 == b2) = true := beq_iff_eq.2 h1
      have e9 : less m (a1, a2) (b1, b2) = decide (a1 < b1) := by simp [less, hM, h1]
      rw [e9]
      go_enter Try.func15, Try.ntmps15
      go_wp2_with (go_at_call 39; refine (hcon _).mono ?_; rintro e w' ⟨rfl, rfl⟩)
      go_ret
      exact ⟨rfl, _, by rw [alloc_eq_grow, alloc_eq_grow, grow_grow]⟩
    · have e1 : (a2 == b2) = false := beq_eq_false_iff_ne.2 h1
      have e9 : less m (a1, a2) (b1, b2) = (decide (a2 < b2) == decide (m = 1)) := by simp [less, hM, h1]
      rw [e9]
      go_enter Try.func15, Try.ntmps15
      go_wp2_with (go_at_call 39; refine (hcon _).mono ?_; rintro e w' ⟨rfl, rfl⟩)
      go_ret
      exact ⟨rfl, _, by rw [alloc_eq_grow, alloc_eq_grow, grow_grow]⟩
def cf (m : Int) (x y : Ht) : Int := if less m x y = true then -1 else if less m y x = true then 1 else 0
theorem grown_cells {W V : World} {os : Array Obj} (hw : V = grow W os) {a : Addr} {v : Value} (h : W.cell? a = some v) : V.cell? a = some v := by
  rw [hw, cell?_grow _ _ _ (World.block_lt_of_cell? W _ h)]; exact h
set_option maxHeartbeats 1000000 in
theorem cmp_c (m a1 a2 b1 b2 : Int) (bm o : Nat) (W : World) (hc : W.cell? ⟨bm, o, none⟩ = some (.int .i64 m)) : Calls Try.prog 42 #[.agg #[.int .i64 a1, .int .i64 a2], .agg #[.int .i64 b1, .int .i64 b2], .pointer (some ⟨bm, o, none⟩)] W fun e w' => e = .returned (.int .i64 (cf m (a1, a2) (b1, b2))) ∧ ∃ os', w' = grow W os' := by
  have hbm : bm < W.heap.size := World.block_lt_of_cell? W _ hc
  have hcon := fun x1 x2 y1 y2 W' => less_c m x1 x2 y1 y2 W'
  have hneq : bm ≠ W.heap.size := by omega
  have hneq2 : bm ≠ W.heap.size + 1 := by omega
  have hc1 := fun W' => hcon a1 a2 b1 b2 W'
  have hc2 := fun W' => hcon b1 b2 a1 a2 W'
  clear hcon
  cases h1 : less m (a1, a2) (b1, b2)
  · cases h2 : less m (b1, b2) (a1, a2)
    · have e9 : cf m (a1, a2) (b1, b2) = 0 := by simp [cf, h1, h2]
      rw [e9]
      rw [h1] at hc1
      rw [h2] at hc2
      go_enter Try.func42, Try.ntmps42
      go_wp2_with (go_at_call 15; first | (with_reducible refine (hc1 _).mono ?_; rintro e w' ⟨rfl, os1, hw⟩; have k1 := grown_cells hw (a := ⟨bm, o, none⟩) (v := .int .i64 m) (by first | go_cell | (simp [hc, hneq, hneq2]; done)); have k2 := grown_cells hw (a := ⟨W.heap.size, 0, none⟩) (v := .int .i64 a1) (by go_cell); have k3 := grown_cells hw (a := ⟨W.heap.size, 1, none⟩) (v := .int .i64 a2) (by go_cell); have k4 := grown_cells hw (a := ⟨W.heap.size + 1, 0, none⟩) (v := .int .i64 b1) (by go_cell); have k5 := grown_cells hw (a := ⟨W.heap.size + 1, 1, none⟩) (v := .int .i64 b2) (by go_cell); have hx := Exists.intro (p := fun os => w' = grow _ os) os1 hw; clear hw os1) | (with_reducible refine (hc2 _).mono ?_; rintro e w'' ⟨rfl, hw2⟩))
      go_ret
      obtain ⟨os1, hw⟩ := hx
      obtain ⟨os2, hw2⟩ := hw2
      exact ⟨rfl, _, by rw [hw2]; simp only [hw, alloc_eq_grow, grow_grow]; rfl⟩
    · have e9 : cf m (a1, a2) (b1, b2) = 1 := by simp [cf, h1, h2]
      rw [e9]
      rw [h1] at hc1
      rw [h2] at hc2
      go_enter Try.func42, Try.ntmps42
      go_wp2_with (go_at_call 15; first | (with_reducible refine (hc1 _).mono ?_; rintro e w' ⟨rfl, os1, hw⟩; have k1 := grown_cells hw (a := ⟨bm, o, none⟩) (v := .int .i64 m) (by first | go_cell | (simp [hc, hneq, hneq2]; done)); have k2 := grown_cells hw (a := ⟨W.heap.size, 0, none⟩) (v := .int .i64 a1) (by go_cell); have k3 := grown_cells hw (a := ⟨W.heap.size, 1, none⟩) (v := .int .i64 a2) (by go_cell); have k4 := grown_cells hw (a := ⟨W.heap.size + 1, 0, none⟩) (v := .int .i64 b1) (by go_cell); have k5 := grown_cells hw (a := ⟨W.heap.size + 1, 1, none⟩) (v := .int .i64 b2) (by go_cell); have hx := Exists.intro (p := fun os => w' = grow _ os) os1 hw; clear hw os1) | (with_reducible refine (hc2 _).mono ?_; rintro e w'' ⟨rfl, hw2⟩))
      go_ret
      obtain ⟨os1, hw⟩ := hx
      obtain ⟨os2, hw2⟩ := hw2
      exact ⟨rfl, _, by rw [hw2]; simp only [hw, alloc_eq_grow, grow_grow]; rfl⟩
  · have e9 : cf m (a1, a2) (b1, b2) = -1 := by simp [cf, h1]
    rw [e9]
    rw [h1] at hc1
    go_enter Try.func42, Try.ntmps42
    go_wp2_with (go_at_call 15; first | (with_reducible refine (hc1 _).mono ?_; rintro e w' ⟨rfl, os1, hw⟩; have k1 := grown_cells hw (a := ⟨bm, o, none⟩) (v := .int .i64 m) (by first | go_cell | (simp [hc, hneq, hneq2]; done)); have k2 := grown_cells hw (a := ⟨W.heap.size, 0, none⟩) (v := .int .i64 a1) (by go_cell); have k3 := grown_cells hw (a := ⟨W.heap.size, 1, none⟩) (v := .int .i64 a2) (by go_cell); have k4 := grown_cells hw (a := ⟨W.heap.size + 1, 0, none⟩) (v := .int .i64 b1) (by go_cell); have k5 := grown_cells hw (a := ⟨W.heap.size + 1, 1, none⟩) (v := .int .i64 b2) (by go_cell); have hx := Exists.intro (p := fun os => w' = grow _ os) os1 hw; clear hw os1) | (with_reducible refine (hc2 _).mono ?_; rintro e w'' ⟨rfl, hw2⟩))
    go_ret
    obtain ⟨os1, hw⟩ := hx
    exact ⟨rfl, _, by simp only [hw, alloc_eq_grow, grow_grow]; rfl⟩
end Go.Proofs.Ytgmjgognpabmdaa.Fx
