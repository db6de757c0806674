-- Written by hp.py, a program of this seat, which calls the kit's printer; contracts proved by hand stand among the printed ones. Lean checks it.
import Derived.Test.YtlnilonlaedafaaPx0
import Derived.Test.YtlnilonlaedafaaPx1
namespace Go.Proofs.Ytlnilonlaedafaa.P
open Go.RowKit Go.Proofs.YtlnilonlaedafaaW.PrintWords Go.Proofs.YtlnilonlaedafaaW.PrintLast Go.Proofs.YtlnilonlaedafaaW.PrintMore
attribute [local go_sem] max2_int min2_int max_two min_two max_three min_three max_four min_four   -- for this text's walks alone
set_option linter.unusedVariables false
set_option linter.unusedSimpArgs false

/-! ### vector_L2: function 48, by hand: it hands a function to vector.sum -/
def vector_L2.acc : Nat → List Int → List Int → Int
  | 0, _, _ => 0
  | j + 1, l0, l1 => wrap64 (vector_L2.acc j l0 l1 + wrap64 (wrap64 (rd l0 (j : Int) - rd l1 (j : Int)) * wrap64 (rd l0 (j : Int) - rd l1 (j : Int))))
def vector_L2.f (k : Nat) (l0 : List Int) (l1 : List Int) : Option (Int) := (vector_both.f k l0 l1).bind fun t => (if t = true then (some (vector_L2.acc l0.length l0 l1)) else (some 0))
theorem vector_L2.mono : ∀ a0 a1 k, LeO (vector_L2.f k a0 a1) (vector_L2.f (k + 1) a0 a1) := by
  intro a0 a1 k
  unfold vector_L2.f
  exact LeO.bind (vector_both.mono _ _ _) fun _ => LeO.refl _
theorem vector_L2.made (x y : Int) (w : World) : Calls Try.prog 65 #[.int .i64 x, .int .i64 y] w fun e w' => e = .returned (.int .i64 (wrap64 (wrap64 (x - y) * wrap64 (x - y)))) ∧ w' = w := by
  go_enter Try.func65, Try.ntmps65
  go_wp2
  go_ret
  exact ⟨rfl, rfl⟩
set_option maxHeartbeats 1000000 in
set_option maxRecDepth 100000 in
theorem vector_L2.sums (A0 : Option Addr) (c0 : Nat) (l0 : List Int) (A1 : Option Addr) (c1 : Nat) (l1 : List Int) (w : World) (hr0 : Kd.C (Kd.int .i64) w A0 l0.length l0) (hc0 : l0.length ≤ c0) (hr1 : Kd.C (Kd.int .i64) w A1 l1.length l1) (hc1 : l1.length ≤ c1) (hlen : l0.length = l1.length) :
    Calls Try.prog 64 #[.slice A0 l0.length c0, .slice A1 l1.length c1, .func (.func 65) #[] #[]] w fun e w' => e = .returned (.int .i64 (vector_L2.acc l0.length l0 l1)) ∧ Drawn0 w w' := by
  have hm0 : l0.length ≤ 9223372036854775807 := hr0.2.1
  have HR0 := Aside0.mk hr0
  have HR1 := Aside0.mk hr1
  have HL := Aside0.mk hlen
  clear hr0 hr1 hlen
  go_enter Try.func64, Try.ntmps64
  go_wp2
  go_loopw [7, 11] (fun n i wr => ∃ j : Nat, j ≤ l0.length ∧ i = .int .i64 j ∧ n = .int .i64 (vector_L2.acc j l0 l1) ∧ Drawn0 w wr) (fun _ i _ => l0.length - (intOf i).toNat)
  case atStart => exact ⟨0, by omega, rfl, rfl, Drawn0.refl _⟩
  case round =>
    obtain ⟨j, hj, rfl, rfl, hD⟩ := hrel
    obtain ⟨m1, hm⟩ := hD.out
    have hr0 := Kd.C_drewN HR0.out m1
    have hr1 := Kd.C_drewN HR1.out m1
    rw [← hm] at hr0 hr1
    clear hm
    have HR0' := Aside0.mk hr0
    have HR1' := Aside0.mk hr1
    clear hr0 hr1
    by_cases hlj : j < l0.length
    · have hlj1 : j < l1.length := by have := HL.out; omega
      obtain ⟨ad, ead, hx0⟩ := Kd.at_int HR0'.out (j : Int) (by omega) (by omega)
      cases ead
      obtain ⟨ad1, ead1, hx1⟩ := Kd.at_int HR1'.out (j : Int) (by omega) (by omega)
      cases ead1
      rw [Int.toNat_natCast] at hx0 hx1
      go_wp2
      go_quiet ((go_at_call 65; exact Calls.quiet_of_same (vector_L2.made _ _ _)))
      go_wp2
      go_roundw
      case rel => exact ⟨j + 1, by omega, by go_num, rfl, hD.step _⟩
      case measure => simp [intOf]; omega
    · obtain rfl : j = l0.length := by omega
      go_wp2
      go_ret
      exact ⟨rfl, hD⟩
theorem vector_L2.both_len (k : Nat) (l0 l1 : List Int) (h : vector_both.f k l0 l1 = some true) : l0.length = l1.length := by
  unfold vector_both.f at h
  split at h
  · omega
  · cases h
set_option maxHeartbeats 1000000 in
set_option maxRecDepth 100000 in
theorem vector_L2.calls (k : Nat) (A0 : Option Addr) (c0 : Nat) (l0 : List Int) (A1 : Option Addr) (c1 : Nat) (l1 : List Int) (r : Int) (w : World) (hr0 : Kd.C (Kd.int .i64) w A0 l0.length l0) (hc0 : l0.length ≤ c0) (hr1 : Kd.C (Kd.int .i64) w A1 l1.length l1) (hc1 : l1.length ≤ c1) (h : vector_L2.f k l0 l1 = some r) :
    Calls Try.prog 48 #[.slice A0 l0.length c0, .slice A1 l1.length c1] w fun e w' => e = .returned (.int .i64 r) ∧ Drawn0 w w' := by
  unfold vector_L2.f at h
  obtain ⟨t, ht, h⟩ := Option.bind_eq_some_iff.mp h
  have HT := Aside0.mk ht
  have HR0 := Aside0.mk hr0
  have HR1 := Aside0.mk hr1
  cases t with
  | false =>
    rw [if_neg (by decide)] at h
    obtain rfl := Option.some.inj h
    clear h ht hr0 hr1
    go_enter Try.func48, Try.ntmps48
    go_wp2_with (go_at_call 63; (with_reducible refine (vector_both.calls k _ _ l0 _ _ l1 false _ HR0.out hc0 HR1.out hc1 HT.out).mono ?_); rintro e w' ⟨rfl, ⟨nd, rfl⟩⟩)
    go_ret
    exact ⟨rfl, by repeat (first | exact Drawn0.refl _ | apply Drawn0.step)⟩
  | true =>
    rw [if_pos rfl] at h
    have H := Aside0.mk h
    have hlen := Aside0.mk (vector_L2.both_len k l0 l1 ht)
    clear h ht hr0 hr1
    go_enter Try.func48, Try.ntmps48
    go_wp2_with (go_at_call 63; (with_reducible refine (vector_both.calls k _ _ l0 _ _ l1 true _ HR0.out hc0 HR1.out hc1 HT.out).mono ?_); rintro e w' ⟨rfl, ⟨nd, rfl⟩⟩)
    (with_reducible refine (vector_L2.sums _ _ l0 _ _ l1 _ ?side1 hc0 ?side2 hc1 hlen.out).mono ?_)
    (case side1 => exact Kd.C_drewN HR0.out _)
    (case side2 => exact Kd.C_drewN HR1.out _)
    rintro e w' ⟨rfl, ⟨nd, rfl⟩⟩
    go_wp2
    go_ret
    exact ⟨by rw [← Option.some.inj H.out]; rfl, by repeat (first | exact Drawn0.refl _ | apply Drawn0.step)⟩

/-! ### means_Nearest: function 17 -/
def means_Nearest.l0 : Nat → List Int → Int → Int → List (List Int) → Int → Int → Option (Int)
  | 0, _, _, _, _, _, _ => none
  | k + 1, x0, x5, x6, x10, x11, x12 => if x12 < x11 then (if 0 ≤ x12 then (if x12 < (x10.length : Int) then ((vector_L2.f k x0 (rd_L1 x10 x12)).bind fun t107 => (if x6 < 0 then (means_Nearest.l0 k x0 t107 x12 x10 x11 (wrap64 (x12 + 1))) else (if t107 < x5 then (means_Nearest.l0 k x0 t107 x12 x10 x11 (wrap64 (x12 + 1))) else (means_Nearest.l0 k x0 x5 x6 x10 x11 (wrap64 (x12 + 1)))))) else (none)) else (none)) else (some x6)
def means_Nearest.f (k : Nat) (l0 : List Int) (l1 : List (List Int)) : Option (Int) := means_Nearest.l0 k l0 0 (-1) l1 (l1.length : Int) 0
theorem means_Nearest.mono_l : ∀ k, (∀ y0 y1 y2 y3 y4 y5, LeO (means_Nearest.l0 k y0 y1 y2 y3 y4 y5) (means_Nearest.l0 (k + 1) y0 y1 y2 y3 y4 y5))
  | 0 => fun _ _ _ _ _ _ r h => by simp [means_Nearest.l0] at h
  | k + 1 => by
    have ih0 := means_Nearest.mono_l k
    · intro y0 y1 y2 y3 y4 y5
      unfold means_Nearest.l0
      repeat' first
      | (with_reducible exact ih0 _ _ _ _ _ _)
      | (with_reducible exact vector_L2.mono _ _ _)
      | (with_reducible exact LeO.refl _)
      | (with_reducible exact LeO.none _)
      | (with_reducible refine LeO.ite ?_ ?_)
      | (with_reducible refine LeO.bind ?_ (fun _ => ?_))
      | exact ih0 _ _ _ _ _ _
      | exact vector_L2.mono _ _ _
      | exact LeO.none _
      | refine LeO.ite ?_ ?_
      | refine LeO.bind ?_ (fun _ => ?_)
theorem means_Nearest.mono : ∀ a0 a1 k, LeO (means_Nearest.f k a0 a1) (means_Nearest.f (k + 1) a0 a1) := by
  intro a0 a1 k
  have ih0 := means_Nearest.mono_l k
  unfold means_Nearest.f
  repeat' first
      | (with_reducible exact ih0 _ _ _ _ _ _)
      | (with_reducible exact vector_L2.mono _ _ _)
      | (with_reducible exact LeO.refl _)
      | (with_reducible exact LeO.none _)
      | (with_reducible refine LeO.ite ?_ ?_)
      | (with_reducible refine LeO.bind ?_ (fun _ => ?_))
      | exact ih0 _ _ _ _ _ _
      | exact vector_L2.mono _ _ _
      | exact LeO.none _
      | refine LeO.ite ?_ ?_
      | refine LeO.bind ?_ (fun _ => ?_)
set_option maxHeartbeats 8000000 in
set_option maxRecDepth 100000 in
theorem means_Nearest.calls (k : Nat) (A0 : Option Addr) (c0 : Nat) (l0 : List Int) (A1 : Option Addr) (c1 : Nat) (l1 : List (List Int)) (r : Int) (w : World) (hr0 : Kd.C (Kd.int .i64) w A0 l0.length l0) (hc0 : l0.length ≤ c0) (hr1 : Kd.C (Kd.slice 3 (Kd.int .i64)) w A1 l1.length l1) (hc1 : l1.length ≤ c1) (h : means_Nearest.f k l0 l1 = some r) :
    Calls Try.prog 17 #[.slice A0 l0.length c0, .slice A1 l1.length c1] w fun e w' => e = .returned (.int .i64 r) ∧ Drawn0 w w' := by
  have HR0 := Aside0.mk hr0
  have HC0 := Aside0.mk hc0
  clear hr0 hc0
  have HR1 := Aside0.mk hr1
  have HC1 := Aside0.mk hc1
  clear hr1 hc1
  have H : (means_Nearest.l0 k l0 0 (-1) l1 (l1.length : Int) 0) = some r := h
  clear h
  have H' := Aside0.mk H
  clear H
  go_enter Try.func17, Try.ntmps17
  go_wp2
  go_loopg [5, 6, 12] k (fun kq v5 v6 v12 w' => ∃ (x5_1 : Int) (x6_1 : Int) (x12_1 : Int), v5 = .int .i64 x5_1 ∧ v6 = .int .i64 x6_1 ∧ v12 = .int .i64 x12_1 ∧ Aside0 (means_Nearest.l0 kq l0 x5_1 x6_1 l1 (l1.length : Int) x12_1 = some r) ∧ Aside0 (kq ≤ k) ∧ Drawn0 w w')
  case atStart => exact ⟨(0), ((-1)), (0), (by first | rfl | (simp; done) | (simp [*]; done)), (by first | rfl | (simp; done) | (simp [*]; done)), (by first | rfl | (simp; done) | (simp [*]; done)), H', ⟨Nat.le_refl _⟩, by repeat (first | exact Drawn0.refl _ | apply Drawn0.step)⟩
  case round =>
    clear H'
    try clear c1
    try clear p2
    obtain ⟨x5_1, x6_1, x12_1, rfl, rfl, rfl, HA, HK1, ⟨m1, rfl⟩⟩ := hrel
    cases gk with
    | zero => exact absurd HA.out (by simp [means_Nearest.l0])
    | succ k1 =>
      have H := HA.out
      clear HA
      simp only [means_Nearest.l0] at H
      by_cases c3 : x12_1 < (l1.length : Int)
      · rw [if_pos c3] at H
        have c3b0 : decide (x12_1 < (l1.length : Int)) = true := decide_eq_true c3
        clear c3
        by_cases c4 : 0 ≤ x12_1
        · rw [if_pos c4] at H
          have c4b0 : decide (0 ≤ x12_1) = true := decide_eq_true c4
          clear c4
          by_cases c5 : x12_1 < (l1.length : Int)
          · rw [if_pos c5] at H
            have c5b0 : decide (x12_1 < (l1.length : Int)) = true := decide_eq_true c5
            clear c5
            replace H := Option.bind_eq_some_iff.mp H
            obtain ⟨t107, A60, H⟩ := H
            replace H : (if x6_1 < 0 then (means_Nearest.l0 k1 l0 t107 x12_1 l1 (l1.length : Int) (wrap64 (x12_1 + 1))) else (if t107 < x5_1 then (means_Nearest.l0 k1 l0 t107 x12_1 l1 (l1.length : Int) (wrap64 (x12_1 + 1))) else (means_Nearest.l0 k1 l0 x5_1 x6_1 l1 (l1.length : Int) (wrap64 (x12_1 + 1))))) = some r := H
            have A6 := Aside0.mk A60
            clear A60
            by_cases c7 : x6_1 < 0
            · rw [if_pos c7] at H
              have c7b0 : decide (x6_1 < 0) = true := decide_eq_true c7
              clear c7
              have H' := Aside0.mk H
              clear H
              have p106 : 0 ≤ (x12_1 : Int) := of_decide_eq_true (by first | (with_reducible assumption) | assumption)
              have q106 : x12_1 < (l1.length : Int) := of_decide_eq_true (by first | (with_reducible assumption) | assumption)
              obtain ⟨ad106, A106_0, c106_0, e106, hx106_0, hl106_0, hi106_0⟩ := at_L1 HR1.out x12_1 p106 q106
              cases e106
              have HR106_0 := Aside0.mk hi106_0
              have HC106_0 := Aside0.mk hl106_0
              clear hi106_0 hl106_0
              replace p106 := eq_true p106
              replace q106 := eq_true q106
              go_wp2_with (first | ((with_reducible refine gate_callee (f := 48) rfl ?_); refine goesL_ (some 19) rfl rfl Try.func48 (by kernel_rfl) rfl #[.slice A0 l0.length c0, .slice A106_0 (rd_L1 l1 x12_1).length c106_0] rfl (by (try simp only [List.map_toArray, List.map_cons, List.map_nil]); first | done | rfl | (simp only [List.length_drop, List.length_take]; rfl)) ?_; (with_reducible refine (vector_L2.calls k1 _ _ l0 _ _ (rd_L1 l1 x12_1) t107 _ ?side1 ?side2 ?side3 ?side4 A6.out).mono ?_); (case side1 => repeat (first | exact HR0.out | (with_reducible refine Kd.C_alloc ?_ _) | (with_reducible refine Kd.C_drewN ?_ _) | (with_reducible refine Kd.C_drew ?_))); (case side2 => exact HC0.out); (case side3 => repeat (first | exact HR106_0.out | (with_reducible refine Kd.C_alloc ?_ _) | (with_reducible refine Kd.C_drewN ?_ _) | (with_reducible refine Kd.C_drew ?_))); (case side4 => exact HC106_0.out); rintro e w' ⟨rfl, ⟨nd, rfl⟩⟩; refine ⟨_, rfl, ?_⟩) | (go_at_call 48; (with_reducible refine (vector_L2.calls k1 _ _ l0 _ _ (rd_L1 l1 x12_1) t107 _ ?side1 ?side2 ?side3 ?side4 A6.out).mono ?_); (case side1 => repeat (first | exact HR0.out | (with_reducible refine Kd.C_alloc ?_ _) | (with_reducible refine Kd.C_drewN ?_ _) | (with_reducible refine Kd.C_drew ?_))); (case side2 => exact HC0.out); (case side3 => repeat (first | exact HR106_0.out | (with_reducible refine Kd.C_alloc ?_ _) | (with_reducible refine Kd.C_drewN ?_ _) | (with_reducible refine Kd.C_drew ?_))); (case side4 => exact HC106_0.out); rintro e w' ⟨rfl, ⟨nd, rfl⟩⟩))
              go_roundg k1
              case measure => have := HK1.out; omega
              case rel => exact ⟨(t107), (x12_1), (wrap64 (x12_1 + 1)), (by first | rfl | (simp; done) | (simp [*]; done)), (by first | rfl | (simp; done) | (simp [*]; done)), (by first | rfl | (simp; done) | (simp [*]; done)), H', ⟨by have := HK1.out; omega⟩, by repeat (first | exact Drawn0.refl _ | apply Drawn0.step)⟩
            · rw [if_neg c7] at H
              have c7b0 : decide (x6_1 < 0) = false := decide_eq_false c7
              clear c7
              by_cases c8 : t107 < x5_1
              · rw [if_pos c8] at H
                have c8b0 : decide (t107 < x5_1) = true := decide_eq_true c8
                clear c8
                have H' := Aside0.mk H
                clear H
                have p106 : 0 ≤ (x12_1 : Int) := of_decide_eq_true (by first | (with_reducible assumption) | assumption)
                have q106 : x12_1 < (l1.length : Int) := of_decide_eq_true (by first | (with_reducible assumption) | assumption)
                obtain ⟨ad106, A106_0, c106_0, e106, hx106_0, hl106_0, hi106_0⟩ := at_L1 HR1.out x12_1 p106 q106
                cases e106
                have HR106_0 := Aside0.mk hi106_0
                have HC106_0 := Aside0.mk hl106_0
                clear hi106_0 hl106_0
                replace p106 := eq_true p106
                replace q106 := eq_true q106
                go_wp2_with (first | ((with_reducible refine gate_callee (f := 48) rfl ?_); refine goesL_ (some 19) rfl rfl Try.func48 (by kernel_rfl) rfl #[.slice A0 l0.length c0, .slice A106_0 (rd_L1 l1 x12_1).length c106_0] rfl (by (try simp only [List.map_toArray, List.map_cons, List.map_nil]); first | done | rfl | (simp only [List.length_drop, List.length_take]; rfl)) ?_; (with_reducible refine (vector_L2.calls k1 _ _ l0 _ _ (rd_L1 l1 x12_1) t107 _ ?side1 ?side2 ?side3 ?side4 A6.out).mono ?_); (case side1 => repeat (first | exact HR0.out | (with_reducible refine Kd.C_alloc ?_ _) | (with_reducible refine Kd.C_drewN ?_ _) | (with_reducible refine Kd.C_drew ?_))); (case side2 => exact HC0.out); (case side3 => repeat (first | exact HR106_0.out | (with_reducible refine Kd.C_alloc ?_ _) | (with_reducible refine Kd.C_drewN ?_ _) | (with_reducible refine Kd.C_drew ?_))); (case side4 => exact HC106_0.out); rintro e w' ⟨rfl, ⟨nd, rfl⟩⟩; refine ⟨_, rfl, ?_⟩) | (go_at_call 48; (with_reducible refine (vector_L2.calls k1 _ _ l0 _ _ (rd_L1 l1 x12_1) t107 _ ?side1 ?side2 ?side3 ?side4 A6.out).mono ?_); (case side1 => repeat (first | exact HR0.out | (with_reducible refine Kd.C_alloc ?_ _) | (with_reducible refine Kd.C_drewN ?_ _) | (with_reducible refine Kd.C_drew ?_))); (case side2 => exact HC0.out); (case side3 => repeat (first | exact HR106_0.out | (with_reducible refine Kd.C_alloc ?_ _) | (with_reducible refine Kd.C_drewN ?_ _) | (with_reducible refine Kd.C_drew ?_))); (case side4 => exact HC106_0.out); rintro e w' ⟨rfl, ⟨nd, rfl⟩⟩))
                go_roundg k1
                case measure => have := HK1.out; omega
                case rel => exact ⟨(t107), (x12_1), (wrap64 (x12_1 + 1)), (by first | rfl | (simp; done) | (simp [*]; done)), (by first | rfl | (simp; done) | (simp [*]; done)), (by first | rfl | (simp; done) | (simp [*]; done)), H', ⟨by have := HK1.out; omega⟩, by repeat (first | exact Drawn0.refl _ | apply Drawn0.step)⟩
              · rw [if_neg c8] at H
                have c8b0 : decide (t107 < x5_1) = false := decide_eq_false c8
                clear c8
                have H' := Aside0.mk H
                clear H
                have p106 : 0 ≤ (x12_1 : Int) := of_decide_eq_true (by first | (with_reducible assumption) | assumption)
                have q106 : x12_1 < (l1.length : Int) := of_decide_eq_true (by first | (with_reducible assumption) | assumption)
                obtain ⟨ad106, A106_0, c106_0, e106, hx106_0, hl106_0, hi106_0⟩ := at_L1 HR1.out x12_1 p106 q106
                cases e106
                have HR106_0 := Aside0.mk hi106_0
                have HC106_0 := Aside0.mk hl106_0
                clear hi106_0 hl106_0
                replace p106 := eq_true p106
                replace q106 := eq_true q106
                go_wp2_with (first | ((with_reducible refine gate_callee (f := 48) rfl ?_); refine goesL_ (some 19) rfl rfl Try.func48 (by kernel_rfl) rfl #[.slice A0 l0.length c0, .slice A106_0 (rd_L1 l1 x12_1).length c106_0] rfl (by (try simp only [List.map_toArray, List.map_cons, List.map_nil]); first | done | rfl | (simp only [List.length_drop, List.length_take]; rfl)) ?_; (with_reducible refine (vector_L2.calls k1 _ _ l0 _ _ (rd_L1 l1 x12_1) t107 _ ?side1 ?side2 ?side3 ?side4 A6.out).mono ?_); (case side1 => repeat (first | exact HR0.out | (with_reducible refine Kd.C_alloc ?_ _) | (with_reducible refine Kd.C_drewN ?_ _) | (with_reducible refine Kd.C_drew ?_))); (case side2 => exact HC0.out); (case side3 => repeat (first | exact HR106_0.out | (with_reducible refine Kd.C_alloc ?_ _) | (with_reducible refine Kd.C_drewN ?_ _) | (with_reducible refine Kd.C_drew ?_))); (case side4 => exact HC106_0.out); rintro e w' ⟨rfl, ⟨nd, rfl⟩⟩; refine ⟨_, rfl, ?_⟩) | (go_at_call 48; (with_reducible refine (vector_L2.calls k1 _ _ l0 _ _ (rd_L1 l1 x12_1) t107 _ ?side1 ?side2 ?side3 ?side4 A6.out).mono ?_); (case side1 => repeat (first | exact HR0.out | (with_reducible refine Kd.C_alloc ?_ _) | (with_reducible refine Kd.C_drewN ?_ _) | (with_reducible refine Kd.C_drew ?_))); (case side2 => exact HC0.out); (case side3 => repeat (first | exact HR106_0.out | (with_reducible refine Kd.C_alloc ?_ _) | (with_reducible refine Kd.C_drewN ?_ _) | (with_reducible refine Kd.C_drew ?_))); (case side4 => exact HC106_0.out); rintro e w' ⟨rfl, ⟨nd, rfl⟩⟩))
                go_roundg k1
                case measure => have := HK1.out; omega
                case rel => exact ⟨(x5_1), (x6_1), (wrap64 (x12_1 + 1)), (by first | rfl | (simp; done) | (simp [*]; done)), (by first | rfl | (simp; done) | (simp [*]; done)), (by first | rfl | (simp; done) | (simp [*]; done)), H', ⟨by have := HK1.out; omega⟩, by repeat (first | exact Drawn0.refl _ | apply Drawn0.step)⟩
          · rw [if_neg c5] at H
            exact absurd H (by simp)
        · rw [if_neg c4] at H
          exact absurd H (by simp)
      · rw [if_neg c3] at H
        have c3b0 : decide (x12_1 < (l1.length : Int)) = false := decide_eq_false c3
        clear c3
        obtain rfl := Option.some.inj H
        go_wp2
        go_ret
        exact ⟨by first | rfl | (simp; done) | (simp [*]; done), by repeat (first | exact Drawn0.refl _ | apply Drawn0.step)⟩

-- NOT PRINTED: function 74 (slices_IndexFunc_int_int)

-- NOT PRINTED: function 70 (slices_ContainsFunc_int_int)

/-! ### product_all: function 58, by hand: it hands a function to slices.ContainsFunc -/
def product_all.ok (x : Int) : Bool := decide (-32768 ≤ x) && decide (x ≤ 32767)
def product_all.f (l0 : List Int) : Option (Bool) := some (l0.all product_all.ok)
theorem product_all.made (x : Int) (w : World) : Calls Try.prog 71 #[.int .i64 x] w fun e w' => e = .returned (.bool (!product_all.ok x)) ∧ Drawn0 w w' := by
  unfold product_all.ok
  by_cases h1 : -32768 ≤ x <;> by_cases h2 : x ≤ 32767
  all_goals
    have d1 := h1
    have d2 := h2
    first | (replace d1 := decide_eq_true d1) | (replace d1 := decide_eq_false d1)
    first | (replace d2 := decide_eq_true d2) | (replace d2 := decide_eq_false d2)
    go_enter Try.func71, Try.ntmps71
    go_wp2
    repeat (go_quiet (fail); try go_wp2)
    go_ret
    exact ⟨by first | rfl | (simp; done) | (simp [*]; done), by repeat (first | exact Drawn0.refl _ | apply Drawn0.step)⟩
theorem product_all.drop_cons (l : List Int) (j : Nat) (h : j < l.length) : (l.drop j).all product_all.ok = (product_all.ok (rd l (j : Int)) && (l.drop (j + 1)).all product_all.ok) := by
  rw [List.drop_eq_getElem_cons h, List.all_cons]
  simp [rd, List.getD_eq_getElem?_getD, List.getElem?_eq_getElem h]
set_option maxHeartbeats 1000000 in
set_option maxRecDepth 100000 in
theorem product_all.index (A0 : Option Addr) (c0 : Nat) (l0 : List Int) (w : World) (hr0 : Kd.C (Kd.int .i64) w A0 l0.length l0) (hc0 : l0.length ≤ c0) :
    Calls Try.prog 74 #[.slice A0 l0.length c0, .func (.func 71) #[] #[]] w fun e w' => ∃ r : Int, e = .returned (.int .i64 r) ∧ (decide (0 ≤ r)) = !(l0.all product_all.ok) ∧ Drawn0 w w' := by
  have hm0 : l0.length ≤ 9223372036854775807 := hr0.2.1
  have HR0 := Aside0.mk hr0
  clear hr0
  obtain ⟨Q, hQ⟩ : ∃ Q : Ending → World → Prop, Q = fun e w' => ∃ r : Int, e = .returned (.int .i64 r) ∧ (decide (0 ≤ r)) = !(l0.all product_all.ok) ∧ Drawn0 w w' := ⟨_, rfl⟩
  have HQ := Aside0.mk hQ
  rw [← hQ]
  clear hQ
  go_enter Try.func74, Try.ntmps74
  go_wp2
  go_loopw [8] (fun i wr => ∃ j : Nat, j ≤ l0.length ∧ i = .int .i64 j ∧ (l0.drop j).all product_all.ok = l0.all product_all.ok ∧ Drawn0 w wr) (fun i _ => l0.length - (intOf i).toNat)
  case atStart => exact ⟨0, by omega, rfl, by simp, Drawn0.refl _⟩
  case round =>
    obtain ⟨j, hj, rfl, hp, hD⟩ := hrel
    have HP := Aside0.mk hp
    clear hp
    obtain ⟨m1, hm⟩ := hD.out
    have hr0 := Kd.C_drewN HR0.out m1
    rw [← hm] at hr0
    clear hm
    have HR0' := Aside0.mk hr0
    clear hr0
    by_cases hlj : j < l0.length
    · obtain ⟨ad, ead, hx0⟩ := Kd.at_int HR0'.out (j : Int) (by omega) (by omega)
      cases ead
      rw [Int.toNat_natCast] at hx0
      by_cases hok : product_all.ok (rd l0 (j : Int)) = true
      · have HO := Aside0.mk hok
        clear hok
        go_wp2_with (go_at_call 71; (with_reducible refine (product_all.made _ _).mono ?_); rintro e w' ⟨rfl, ⟨nd, rfl⟩⟩; rw [HO.out, Bool.not_true])
        go_roundw
        case rel => exact ⟨j + 1, by omega, by go_num, by rw [← HP.out, product_all.drop_cons l0 j hlj, HO.out, Bool.true_and], by repeat (first | exact hD | apply Drawn0.step)⟩
        case measure => simp [intOf]; omega
      · have HO := Aside0.mk (Bool.eq_false_iff.mpr hok)
        clear hok
        go_wp2_with (go_at_call 71; (with_reducible refine (product_all.made _ _).mono ?_); rintro e w' ⟨rfl, ⟨nd, rfl⟩⟩; rw [HO.out, Bool.not_false])
        rw [HQ.out]
        exact ⟨_, rfl, by rw [← HP.out, product_all.drop_cons l0 j hlj, HO.out]; simp, by repeat (first | exact hD | apply Drawn0.step)⟩
    · obtain rfl : j = l0.length := by omega
      go_wp2
      rw [HQ.out]
      exact ⟨_, rfl, by rw [← HP.out]; simp, hD⟩
set_option maxHeartbeats 1000000 in
set_option maxRecDepth 100000 in
theorem product_all.calls (A0 : Option Addr) (c0 : Nat) (l0 : List Int) (r : Bool) (w : World) (hr0 : Kd.C (Kd.int .i64) w A0 l0.length l0) (hc0 : l0.length ≤ c0) (h : product_all.f l0 = some r) :
    Calls Try.prog 58 #[.slice A0 l0.length c0] w fun e w' => e = .returned (.bool r) ∧ Drawn0 w w' := by
  have HR0 := Aside0.mk hr0
  have H := Aside0.mk (Option.some.inj h)
  clear hr0 h
  go_enter Try.func58, Try.ntmps58
  go_wp2_with (first | (go_at_call 74; (with_reducible refine (product_all.index _ _ l0 _ HR0.out hc0).mono ?_); rintro e w' ⟨i, rfl, hi, ⟨nd, rfl⟩⟩; have HI := Aside0.mk hi; clear hi) | go_in)
  go_ret
  exact ⟨congrArg (fun b => Ending.returned (.bool b)) (show (!decide (0 ≤ i)) = r from by rw [HI.out, Bool.not_not]; exact H.out), by repeat (first | exact Drawn0.refl _ | apply Drawn0.step)⟩

end Go.Proofs.Ytlnilonlaedafaa.P
