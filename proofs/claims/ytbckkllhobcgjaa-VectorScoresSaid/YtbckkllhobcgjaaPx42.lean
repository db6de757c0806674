-- Written by hp.py, a program of this seat, which calls the kit's printer; contracts proved by hand stand among the printed ones. Lean checks it.
import Derived.Test.YtbckkllhobcgjaaPx0
import Derived.Test.YtbckkllhobcgjaaPx7
import Derived.Test.YtbckkllhobcgjaaPx38
import Derived.Test.YtbckkllhobcgjaaPx40
import Derived.Test.YtbckkllhobcgjaaPx41
namespace Go.Proofs.Ytbckkllhobcgjaa.P
open Go.RowKit Go.Proofs.YtbckkllhobcgjaaW.PrintWords Go.Proofs.YtbckkllhobcgjaaW.PrintLast Go.Proofs.YtbckkllhobcgjaaW.PrintMore
attribute [local go_sem] max2_int min2_int max_two min_two max_three min_three max_four min_four   -- for this text's walks alone
set_option linter.unusedVariables false
set_option linter.unusedSimpArgs false

/-! ### lodestarref06_Cos: function 42 -/
def lodestarref06_Cos.j0 : Nat → List Int → List Int → Int → Bool → Option (Int)
  | 0, _, _, _, _ => none
  | k + 1, x0, x1, x5, x24 => if x24 = true then (some 0) else ((lodestarref06_Dot.f k x0 x1).bind fun t251 => ((lodestarref01_Div.f k (wrap64 (t251 * 1048576)) x5).bind fun bt252 => (some bt252.1)))
def lodestarref06_Cos.f (k : Nat) (l0 : List Int) (l1 : List Int) : Option (Int) := (lodestarref06_Dot.f k l0 l0).bind fun t246 => ((lodestarref01_Isqrt.f k t246).bind fun t247 => ((lodestarref06_Dot.f k l1 l1).bind fun t248 => ((lodestarref01_Isqrt.f k t248).bind fun t249 => ((lodestarref06_both.f k l0 l1).bind fun t250 => (if t250 = true then (lodestarref06_Cos.j0 k l0 l1 (wrap64 (t247 * t249)) ((wrap64 (t247 * t249)) == 0)) else (lodestarref06_Cos.j0 k l0 l1 (wrap64 (t247 * t249)) true))))))
theorem lodestarref06_Cos.mono_l : ∀ k, (∀ y0 y1 y2 y3, LeO (lodestarref06_Cos.j0 k y0 y1 y2 y3) (lodestarref06_Cos.j0 (k + 1) y0 y1 y2 y3))
  | 0 => fun _ _ _ _ r h => by simp [lodestarref06_Cos.j0] at h
  | k + 1 => by
    have ih0 := lodestarref06_Cos.mono_l k
    · intro y0 y1 y2 y3
      unfold lodestarref06_Cos.j0
      repeat' first
      | (with_reducible exact ih0 _ _ _ _)
      | (with_reducible exact lodestarref01_Div.mono _ _ _)
      | (with_reducible exact lodestarref01_Isqrt.mono _ _)
      | (with_reducible exact lodestarref06_Dot.mono _ _ _)
      | (with_reducible exact lodestarref06_both.mono _ _ _)
      | (with_reducible exact LeO.refl _)
      | (with_reducible exact LeO.none _)
      | (with_reducible refine LeO.ite ?_ ?_)
      | (with_reducible refine LeO.bind ?_ (fun _ => ?_))
      | exact ih0 _ _ _ _
      | exact lodestarref01_Div.mono _ _ _
      | exact lodestarref01_Isqrt.mono _ _
      | exact lodestarref06_Dot.mono _ _ _
      | exact lodestarref06_both.mono _ _ _
      | exact LeO.none _
      | refine LeO.ite ?_ ?_
      | refine LeO.bind ?_ (fun _ => ?_)
theorem lodestarref06_Cos.mono : ∀ a0 a1 k, LeO (lodestarref06_Cos.f k a0 a1) (lodestarref06_Cos.f (k + 1) a0 a1) := by
  intro a0 a1 k
  have ih0 := lodestarref06_Cos.mono_l k
  unfold lodestarref06_Cos.f
  repeat' first
      | (with_reducible exact ih0 _ _ _ _)
      | (with_reducible exact lodestarref01_Div.mono _ _ _)
      | (with_reducible exact lodestarref01_Isqrt.mono _ _)
      | (with_reducible exact lodestarref06_Dot.mono _ _ _)
      | (with_reducible exact lodestarref06_both.mono _ _ _)
      | (with_reducible exact LeO.refl _)
      | (with_reducible exact LeO.none _)
      | (with_reducible refine LeO.ite ?_ ?_)
      | (with_reducible refine LeO.bind ?_ (fun _ => ?_))
      | exact ih0 _ _ _ _
      | exact lodestarref01_Div.mono _ _ _
      | exact lodestarref01_Isqrt.mono _ _
      | exact lodestarref06_Dot.mono _ _ _
      | exact lodestarref06_both.mono _ _ _
      | exact LeO.none _
      | refine LeO.ite ?_ ?_
      | refine LeO.bind ?_ (fun _ => ?_)
set_option maxHeartbeats 8000000 in
set_option maxRecDepth 100000 in
theorem lodestarref06_Cos.calls (k : Nat) (A0 : Option Addr) (c0 : Nat) (l0 : List Int) (A1 : Option Addr) (c1 : Nat) (l1 : List Int) (r : Int) (w : World) (hr0 : Kd.C (Kd.int .i64) w A0 l0.length l0) (hc0 : l0.length ≤ c0) (hr1 : Kd.C (Kd.int .i64) w A1 l1.length l1) (hc1 : l1.length ≤ c1) (h : lodestarref06_Cos.f k l0 l1 = some r) :
    Calls Try.prog 42 #[.slice A0 l0.length c0, .slice A1 l1.length c1] w fun e w' => e = .returned (.int .i64 r) ∧ Drawn0 w w' := by
  have HR0 := Aside0.mk hr0
  have HC0 := Aside0.mk hc0
  clear hr0 hc0
  have HR1 := Aside0.mk hr1
  have HC1 := Aside0.mk hc1
  clear hr1 hc1
  have H : ((lodestarref06_Dot.f k l0 l0).bind fun t246 => ((lodestarref01_Isqrt.f k t246).bind fun t247 => ((lodestarref06_Dot.f k l1 l1).bind fun t248 => ((lodestarref01_Isqrt.f k t248).bind fun t249 => ((lodestarref06_both.f k l0 l1).bind fun t250 => (if t250 = true then (lodestarref06_Cos.j0 k l0 l1 (wrap64 (t247 * t249)) ((wrap64 (t247 * t249)) == 0)) else (lodestarref06_Cos.j0 k l0 l1 (wrap64 (t247 * t249)) true))))))) = some r := h
  clear h
  replace H := Option.bind_eq_some_iff.mp H
  obtain ⟨t246, A30, H⟩ := H
  replace H : ((lodestarref01_Isqrt.f k t246).bind fun t247 => ((lodestarref06_Dot.f k l1 l1).bind fun t248 => ((lodestarref01_Isqrt.f k t248).bind fun t249 => ((lodestarref06_both.f k l0 l1).bind fun t250 => (if t250 = true then (lodestarref06_Cos.j0 k l0 l1 (wrap64 (t247 * t249)) ((wrap64 (t247 * t249)) == 0)) else (lodestarref06_Cos.j0 k l0 l1 (wrap64 (t247 * t249)) true)))))) = some r := H
  have A3 := Aside0.mk A30
  clear A30
  replace H := Option.bind_eq_some_iff.mp H
  obtain ⟨t247, A40, H⟩ := H
  replace H : ((lodestarref06_Dot.f k l1 l1).bind fun t248 => ((lodestarref01_Isqrt.f k t248).bind fun t249 => ((lodestarref06_both.f k l0 l1).bind fun t250 => (if t250 = true then (lodestarref06_Cos.j0 k l0 l1 (wrap64 (t247 * t249)) ((wrap64 (t247 * t249)) == 0)) else (lodestarref06_Cos.j0 k l0 l1 (wrap64 (t247 * t249)) true))))) = some r := H
  have A4 := Aside0.mk A40
  clear A40
  replace H := Option.bind_eq_some_iff.mp H
  obtain ⟨t248, A50, H⟩ := H
  replace H : ((lodestarref01_Isqrt.f k t248).bind fun t249 => ((lodestarref06_both.f k l0 l1).bind fun t250 => (if t250 = true then (lodestarref06_Cos.j0 k l0 l1 (wrap64 (t247 * t249)) ((wrap64 (t247 * t249)) == 0)) else (lodestarref06_Cos.j0 k l0 l1 (wrap64 (t247 * t249)) true)))) = some r := H
  have A5 := Aside0.mk A50
  clear A50
  replace H := Option.bind_eq_some_iff.mp H
  obtain ⟨t249, A60, H⟩ := H
  replace H : ((lodestarref06_both.f k l0 l1).bind fun t250 => (if t250 = true then (lodestarref06_Cos.j0 k l0 l1 (wrap64 (t247 * t249)) ((wrap64 (t247 * t249)) == 0)) else (lodestarref06_Cos.j0 k l0 l1 (wrap64 (t247 * t249)) true))) = some r := H
  have A6 := Aside0.mk A60
  clear A60
  have HC7 := Aside0.mk H
  clear H
  go_enter Try.func42, Try.ntmps42
  go_upto_region 2 with (first | ((with_reducible refine gate_callee (f := 40) rfl ?_); refine goesL_ (some 10) rfl rfl Try.func40 (by kernel_rfl) rfl #[.slice A0 l0.length c0, .slice A0 l0.length c0] rfl (by (try simp only [List.map_toArray, List.map_cons, List.map_nil]); first | done | rfl | (simp only [List.length_drop, List.length_take]; rfl)) ?_; (with_reducible refine (lodestarref06_Dot.calls k _ _ l0 _ _ l0 t246 _ ?side1 ?side2 ?side3 ?side4 A3.out).mono ?_); (case side1 => repeat (first | exact HR0.out | (with_reducible refine Kd.C_alloc ?_ _) | (with_reducible refine Kd.C_drewN ?_ _) | (with_reducible refine Kd.C_drew ?_))); (case side2 => exact HC0.out); (case side3 => repeat (first | exact HR0.out | (with_reducible refine Kd.C_alloc ?_ _) | (with_reducible refine Kd.C_drewN ?_ _) | (with_reducible refine Kd.C_drew ?_))); (case side4 => exact HC0.out); rintro e w' ⟨rfl, ⟨nd, rfl⟩⟩; refine ⟨_, rfl, ?_⟩) | ((with_reducible refine gate_callee (f := 16) rfl ?_); refine goesL_ (some 11) rfl rfl Try.func16 (by kernel_rfl) rfl #[.int .i64 t246] rfl (by (try simp only [List.map_toArray, List.map_cons, List.map_nil]); first | done | rfl | (simp only [List.length_drop, List.length_take]; rfl)) ?_; (with_reducible refine (lodestarref01_Isqrt.calls k t246 t247 _ A4.out).mono ?_); rintro e w' ⟨rfl, ⟨nd, rfl⟩⟩; refine ⟨_, rfl, ?_⟩) | ((with_reducible refine gate_callee (f := 40) rfl ?_); refine goesL_ (some 14) rfl rfl Try.func40 (by kernel_rfl) rfl #[.slice A1 l1.length c1, .slice A1 l1.length c1] rfl (by (try simp only [List.map_toArray, List.map_cons, List.map_nil]); first | done | rfl | (simp only [List.length_drop, List.length_take]; rfl)) ?_; (with_reducible refine (lodestarref06_Dot.calls k _ _ l1 _ _ l1 t248 _ ?side1 ?side2 ?side3 ?side4 A5.out).mono ?_); (case side1 => repeat (first | exact HR1.out | (with_reducible refine Kd.C_alloc ?_ _) | (with_reducible refine Kd.C_drewN ?_ _) | (with_reducible refine Kd.C_drew ?_))); (case side2 => exact HC1.out); (case side3 => repeat (first | exact HR1.out | (with_reducible refine Kd.C_alloc ?_ _) | (with_reducible refine Kd.C_drewN ?_ _) | (with_reducible refine Kd.C_drew ?_))); (case side4 => exact HC1.out); rintro e w' ⟨rfl, ⟨nd, rfl⟩⟩; refine ⟨_, rfl, ?_⟩) | ((with_reducible refine gate_callee (f := 16) rfl ?_); refine goesL_ (some 15) rfl rfl Try.func16 (by kernel_rfl) rfl #[.int .i64 t248] rfl (by (try simp only [List.map_toArray, List.map_cons, List.map_nil]); first | done | rfl | (simp only [List.length_drop, List.length_take]; rfl)) ?_; (with_reducible refine (lodestarref01_Isqrt.calls k t248 t249 _ A6.out).mono ?_); rintro e w' ⟨rfl, ⟨nd, rfl⟩⟩; refine ⟨_, rfl, ?_⟩))
  (try simp only [Act.put, List.setIfInBounds_toArray, List.set_cons_zero, List.set_cons_succ])
  go_cut [24] (fun v24 wc => ∃ (kq : Nat) (x24_6 : Bool), v24 = .bool x24_6 ∧ Aside0 (lodestarref06_Cos.j0 kq l0 l1 (wrap64 (t247 * t249)) x24_6 = some r) ∧ Aside0 (kq ≤ k) ∧ Drawn0 w wc)
  case first =>
    have H := HC7.out
    clear HC7
    replace H := Option.bind_eq_some_iff.mp H
    obtain ⟨t250, A80, H⟩ := H
    replace H : (if t250 = true then (lodestarref06_Cos.j0 k l0 l1 (wrap64 (t247 * t249)) ((wrap64 (t247 * t249)) == 0)) else (lodestarref06_Cos.j0 k l0 l1 (wrap64 (t247 * t249)) true)) = some r := H
    have A8 := Aside0.mk A80
    clear A80
    by_cases c9 : t250 = true
    · subst c9
      have H1 : (lodestarref06_Cos.j0 k l0 l1 (wrap64 (t247 * t249)) ((wrap64 (t247 * t249)) == 0)) = some r := by rw [if_pos rfl] at H; exact H
      clear H
      have H := H1
      clear H1
      have H' := Aside0.mk H
      clear H
      go_wp2_with (first | ((with_reducible refine gate_callee (f := 53) rfl ?_); refine goesL_ (some 19) rfl rfl Try.func53 (by kernel_rfl) rfl #[.slice A0 l0.length c0, .slice A1 l1.length c1] rfl (by (try simp only [List.map_toArray, List.map_cons, List.map_nil]); first | done | rfl | (simp only [List.length_drop, List.length_take]; rfl)) ?_; (with_reducible refine (lodestarref06_both.calls k _ _ l0 _ _ l1 true _ ?side1 ?side2 ?side3 ?side4 A8.out).mono ?_); (case side1 => repeat (first | exact HR0.out | (with_reducible refine Kd.C_alloc ?_ _) | (with_reducible refine Kd.C_drewN ?_ _) | (with_reducible refine Kd.C_drew ?_))); (case side2 => exact HC0.out); (case side3 => repeat (first | exact HR1.out | (with_reducible refine Kd.C_alloc ?_ _) | (with_reducible refine Kd.C_drewN ?_ _) | (with_reducible refine Kd.C_drew ?_))); (case side4 => exact HC1.out); rintro e w' ⟨rfl, ⟨nd, rfl⟩⟩; refine ⟨_, rfl, ?_⟩))
      go_meet
      case rel => exact ⟨_, (((wrap64 (t247 * t249)) == 0)), (by first | rfl | (simp; done) | (simp [*]; done)), H', ⟨by first | omega | exact Nat.le_refl _⟩, by repeat (first | exact Drawn0.refl _ | apply Drawn0.step)⟩
    · replace c9 := Bool.eq_false_iff.mpr c9
      subst c9
      have H1 : (lodestarref06_Cos.j0 k l0 l1 (wrap64 (t247 * t249)) true) = some r := by rw [if_neg (show ¬ (false = true) by decide)] at H; exact H
      clear H
      have H := H1
      clear H1
      have H' := Aside0.mk H
      clear H
      go_wp2_with (first | ((with_reducible refine gate_callee (f := 53) rfl ?_); refine goesL_ (some 19) rfl rfl Try.func53 (by kernel_rfl) rfl #[.slice A0 l0.length c0, .slice A1 l1.length c1] rfl (by (try simp only [List.map_toArray, List.map_cons, List.map_nil]); first | done | rfl | (simp only [List.length_drop, List.length_take]; rfl)) ?_; (with_reducible refine (lodestarref06_both.calls k _ _ l0 _ _ l1 false _ ?side1 ?side2 ?side3 ?side4 A8.out).mono ?_); (case side1 => repeat (first | exact HR0.out | (with_reducible refine Kd.C_alloc ?_ _) | (with_reducible refine Kd.C_drewN ?_ _) | (with_reducible refine Kd.C_drew ?_))); (case side2 => exact HC0.out); (case side3 => repeat (first | exact HR1.out | (with_reducible refine Kd.C_alloc ?_ _) | (with_reducible refine Kd.C_drewN ?_ _) | (with_reducible refine Kd.C_drew ?_))); (case side4 => exact HC1.out); rintro e w' ⟨rfl, ⟨nd, rfl⟩⟩; refine ⟨_, rfl, ?_⟩))
      go_meet
      case rel => exact ⟨_, (true), (by first | rfl | (simp; done) | (simp [*]; done)), H', ⟨by first | omega | exact Nat.le_refl _⟩, by repeat (first | exact Drawn0.refl _ | apply Drawn0.step)⟩
  case rest =>
    clear HC7
    try clear c1
    try clear p2
    try clear c4
    try clear c5
    try clear p6
    try clear c9
    obtain ⟨kq, x24_6, rfl, HA, HJ6, ⟨mc6, rfl⟩⟩ := hcut
    cases kq with
    | zero => exact absurd HA.out (by simp [lodestarref06_Cos.j0])
    | succ kj6 =>
      have H := HA.out
      clear HA
      simp only [lodestarref06_Cos.j0] at H
      by_cases c10 : x24_6 = true
      · subst c10
        have H1 : (some 0) = some r := by rw [if_pos rfl] at H; exact H
        clear H
        have H := H1
        clear H1
        obtain rfl := Option.some.inj H
        go_wp2
        go_ret
        exact ⟨by first | rfl | (simp; done) | (simp [*]; done), by repeat (first | exact Drawn0.refl _ | apply Drawn0.step)⟩
      · replace c10 := Bool.eq_false_iff.mpr c10
        subst c10
        have H1 : ((lodestarref06_Dot.f kj6 l0 l1).bind fun t251 => ((lodestarref01_Div.f kj6 (wrap64 (t251 * 1048576)) (wrap64 (t247 * t249))).bind fun bt252 => (some bt252.1))) = some r := by rw [if_neg (show ¬ (false = true) by decide)] at H; exact H
        clear H
        have H := H1
        clear H1
        replace H := Option.bind_eq_some_iff.mp H
        obtain ⟨t251, A110, H⟩ := H
        replace H : ((lodestarref01_Div.f kj6 (wrap64 (t251 * 1048576)) (wrap64 (t247 * t249))).bind fun bt252 => (some bt252.1)) = some r := H
        have A11 := Aside0.mk A110
        clear A110
        replace H := Option.bind_eq_some_iff.mp H
        obtain ⟨⟨t252, t253⟩, A120, H⟩ := H
        replace H : (some t252) = some r := H
        have A12 := Aside0.mk A120
        clear A120
        obtain rfl := Option.some.inj H
        go_wp2_with (first | ((with_reducible refine gate_callee (f := 40) rfl ?_); refine goesL_ (some 28) rfl rfl Try.func40 (by kernel_rfl) rfl #[.slice A0 l0.length c0, .slice A1 l1.length c1] rfl (by (try simp only [List.map_toArray, List.map_cons, List.map_nil]); first | done | rfl | (simp only [List.length_drop, List.length_take]; rfl)) ?_; (with_reducible refine (lodestarref06_Dot.calls kj6 _ _ l0 _ _ l1 t251 _ ?side1 ?side2 ?side3 ?side4 A11.out).mono ?_); (case side1 => repeat (first | exact HR0.out | (with_reducible refine Kd.C_alloc ?_ _) | (with_reducible refine Kd.C_drewN ?_ _) | (with_reducible refine Kd.C_drew ?_))); (case side2 => exact HC0.out); (case side3 => repeat (first | exact HR1.out | (with_reducible refine Kd.C_alloc ?_ _) | (with_reducible refine Kd.C_drewN ?_ _) | (with_reducible refine Kd.C_drew ?_))); (case side4 => exact HC1.out); rintro e w' ⟨rfl, ⟨nd, rfl⟩⟩; refine ⟨_, rfl, ?_⟩) | ((with_reducible refine gate_callee (f := 46) rfl ?_); refine goesL_ (some 31) rfl rfl Try.func46 (by kernel_rfl) rfl #[.int .i64 (wrap64 (t251 * 1048576)), .int .i64 (wrap64 (t247 * t249))] rfl (by (try simp only [List.map_toArray, List.map_cons, List.map_nil]); first | done | rfl | (simp only [List.length_drop, List.length_take]; rfl)) ?_; (with_reducible refine (lodestarref01_Div.calls kj6 (wrap64 (t251 * 1048576)) (wrap64 (t247 * t249)) t252 t253 _ A12.out).mono ?_); rintro e w' ⟨rfl, ⟨nd, rfl⟩⟩; refine ⟨_, rfl, ?_⟩))
        go_ret
        exact ⟨by first | rfl | (simp; done) | (simp [*]; done), by repeat (first | exact Drawn0.refl _ | apply Drawn0.step)⟩

end Go.Proofs.Ytbckkllhobcgjaa.P
