-- Written by hp.py, a program of this seat, which calls the kit's printer; contracts proved by hand stand among the printed ones. Lean checks it.
import Derived.Test.YtlnilonlaedafaaPx0
import Derived.Test.YtlnilonlaedafaaPx1
namespace Go.Proofs.Ytlnilonlaedafaa.P
open Go.RowKit Go.Proofs.YtlnilonlaedafaaW.PrintWords Go.Proofs.YtlnilonlaedafaaW.PrintLast Go.Proofs.YtlnilonlaedafaaW.PrintMore
attribute [local go_sem] max2_int min2_int max_two min_two max_three min_three max_four min_four   -- for this text's walks alone
set_option linter.unusedVariables false
set_option linter.unusedSimpArgs false

/-! ### vector_Dot: function 57, by hand: it hands a function to vector.sum -/
def vector_Dot.acc : Nat → List Int → List Int → Int
  | 0, _, _ => 0
  | j + 1, l0, l1 => wrap64 (vector_Dot.acc j l0 l1 + wrap64 (rd l0 (j : Int) * rd l1 (j : Int)))
def vector_Dot.f (k : Nat) (l0 : List Int) (l1 : List Int) : Option (Int) := (vector_both.f k l0 l1).bind fun t => (if t = true then (some (vector_Dot.acc l0.length l0 l1)) else (some 0))
theorem vector_Dot.mono : ∀ a0 a1 k, LeO (vector_Dot.f k a0 a1) (vector_Dot.f (k + 1) a0 a1) := by
  intro a0 a1 k
  unfold vector_Dot.f
  exact LeO.bind (vector_both.mono _ _ _) fun _ => LeO.refl _
theorem vector_Dot.made (x y : Int) (w : World) : Calls Try.prog 69 #[.int .i64 x, .int .i64 y] w fun e w' => e = .returned (.int .i64 (wrap64 (x * y))) ∧ w' = w := by
  go_enter Try.func69, Try.ntmps69
  go_wp2
  go_ret
  exact ⟨rfl, rfl⟩
set_option maxHeartbeats 1000000 in
set_option maxRecDepth 100000 in
theorem vector_Dot.sums (A0 : Option Addr) (c0 : Nat) (l0 : List Int) (A1 : Option Addr) (c1 : Nat) (l1 : List Int) (w : World) (hr0 : Kd.C (Kd.int .i64) w A0 l0.length l0) (hc0 : l0.length ≤ c0) (hr1 : Kd.C (Kd.int .i64) w A1 l1.length l1) (hc1 : l1.length ≤ c1) (hlen : l0.length = l1.length) :
    Calls Try.prog 64 #[.slice A0 l0.length c0, .slice A1 l1.length c1, .func (.func 69) #[] #[]] w fun e w' => e = .returned (.int .i64 (vector_Dot.acc l0.length l0 l1)) ∧ Drawn0 w w' := by
  have hm0 : l0.length ≤ 9223372036854775807 := hr0.2.1
  have HR0 := Aside0.mk hr0
  have HR1 := Aside0.mk hr1
  have HL := Aside0.mk hlen
  clear hr0 hr1 hlen
  go_enter Try.func64, Try.ntmps64
  go_wp2
  go_loopw [7, 11] (fun n i wr => ∃ j : Nat, j ≤ l0.length ∧ i = .int .i64 j ∧ n = .int .i64 (vector_Dot.acc j l0 l1) ∧ Drawn0 w wr) (fun _ i _ => l0.length - (intOf i).toNat)
  case atStart => exact ⟨0, by omega, rfl, rfl, Drawn0.refl _⟩
  case round =>
    obtain ⟨j, hj, rfl, rfl, hD⟩ := hrel
    obtain ⟨m1, hm⟩ := hD.out
    have hr0 := Kd.C_drewN HR0.out m1
    have hr1 := Kd.C_drewN HR1.out m1
    rw [← hm] at hr0 hr1
    clear hm
    have HR0' := Aside0.mk hr0
    have HR1' := Aside0.mk hr1
    clear hr0 hr1
    by_cases hlj : j < l0.length
    · have hlj1 : j < l1.length := by have := HL.out; omega
      obtain ⟨ad, ead, hx0⟩ := Kd.at_int HR0'.out (j : Int) (by omega) (by omega)
      cases ead
      obtain ⟨ad1, ead1, hx1⟩ := Kd.at_int HR1'.out (j : Int) (by omega) (by omega)
      cases ead1
      rw [Int.toNat_natCast] at hx0 hx1
      go_wp2
      go_quiet ((go_at_call 69; exact Calls.quiet_of_same (vector_Dot.made _ _ _)))
      go_wp2
      go_roundw
      case rel => exact ⟨j + 1, by omega, by go_num, rfl, hD.step _⟩
      case measure => simp [intOf]; omega
    · obtain rfl : j = l0.length := by omega
      go_wp2
      go_ret
      exact ⟨rfl, hD⟩
theorem vector_Dot.both_len (k : Nat) (l0 l1 : List Int) (h : vector_both.f k l0 l1 = some true) : l0.length = l1.length := by
  unfold vector_both.f at h
  split at h
  · omega
  · cases h
set_option maxHeartbeats 1000000 in
set_option maxRecDepth 100000 in
theorem vector_Dot.calls (k : Nat) (A0 : Option Addr) (c0 : Nat) (l0 : List Int) (A1 : Option Addr) (c1 : Nat) (l1 : List Int) (r : Int) (w : World) (hr0 : Kd.C (Kd.int .i64) w A0 l0.length l0) (hc0 : l0.length ≤ c0) (hr1 : Kd.C (Kd.int .i64) w A1 l1.length l1) (hc1 : l1.length ≤ c1) (h : vector_Dot.f k l0 l1 = some r) :
    Calls Try.prog 57 #[.slice A0 l0.length c0, .slice A1 l1.length c1] w fun e w' => e = .returned (.int .i64 r) ∧ Drawn0 w w' := by
  unfold vector_Dot.f at h
  obtain ⟨t, ht, h⟩ := Option.bind_eq_some_iff.mp h
  have HT := Aside0.mk ht
  have HR0 := Aside0.mk hr0
  have HR1 := Aside0.mk hr1
  cases t with
  | false =>
    rw [if_neg (by decide)] at h
    obtain rfl := Option.some.inj h
    clear h ht hr0 hr1
    go_enter Try.func57, Try.ntmps57
    go_wp2_with (go_at_call 63; (with_reducible refine (vector_both.calls k _ _ l0 _ _ l1 false _ HR0.out hc0 HR1.out hc1 HT.out).mono ?_); rintro e w' ⟨rfl, ⟨nd, rfl⟩⟩)
    go_ret
    exact ⟨rfl, by repeat (first | exact Drawn0.refl _ | apply Drawn0.step)⟩
  | true =>
    rw [if_pos rfl] at h
    have H := Aside0.mk h
    have hlen := Aside0.mk (vector_Dot.both_len k l0 l1 ht)
    clear h ht hr0 hr1
    go_enter Try.func57, Try.ntmps57
    go_wp2_with (go_at_call 63; (with_reducible refine (vector_both.calls k _ _ l0 _ _ l1 true _ HR0.out hc0 HR1.out hc1 HT.out).mono ?_); rintro e w' ⟨rfl, ⟨nd, rfl⟩⟩)
    (with_reducible refine (vector_Dot.sums _ _ l0 _ _ l1 _ ?side1 hc0 ?side2 hc1 hlen.out).mono ?_)
    (case side1 => exact Kd.C_drewN HR0.out _)
    (case side2 => exact Kd.C_drewN HR1.out _)
    rintro e w' ⟨rfl, ⟨nd, rfl⟩⟩
    go_wp2
    go_ret
    exact ⟨by rw [← Option.some.inj H.out]; rfl, by repeat (first | exact Drawn0.refl _ | apply Drawn0.step)⟩

end Go.Proofs.Ytlnilonlaedafaa.P
