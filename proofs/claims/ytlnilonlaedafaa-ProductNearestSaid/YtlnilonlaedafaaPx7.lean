-- Written by hp.py, a program of this seat, which calls the kit's printer; contracts proved by hand stand among the printed ones. Lean checks it.
import Derived.Test.YtlnilonlaedafaaPx0
import Derived.Test.YtlnilonlaedafaaPx6
namespace Go.Proofs.Ytlnilonlaedafaa.P
open Go.RowKit Go.Proofs.YtlnilonlaedafaaW.PrintWords Go.Proofs.YtlnilonlaedafaaW.PrintLast Go.Proofs.YtlnilonlaedafaaW.PrintMore
attribute [local go_sem] max2_int min2_int max_two min_two max_three min_three max_four min_four   -- for this text's walks alone
set_option linter.unusedVariables false
set_option linter.unusedSimpArgs false

/-! ### lodestarref19_width: function 53 -/
mutual
def lodestarref19_width.j0 : Nat → Bool → List (List (List Int)) → Option (Int)
  | 0, _, _ => none
  | k + 1, x23, x152000 => if x23 = true then (some 0) else (if 0 < (x152000.length : Int) then (if 0 < ((rd_L2 x152000 0).length : Int) then (lodestarref19_width.l0 k ((rd_L1 (rd_L2 x152000 0) 0).length : Int) 0 x152000) else (none)) else (none))
def lodestarref19_width.l0 : Nat → Int → Int → List (List (List Int)) → Option (Int)
  | 0, _, _, _ => none
  | k + 1, x3, x4, x152000 => if x4 < (x152000.length : Int) then (if 0 ≤ x4 then (if ((rd_L2 x152000 x4).length : Int) < 1 then (lodestarref19_width.j2 k x3 x4 true x152000) else (lodestarref19_width.j2 k x3 x4 (decide (((rd_L2 x152000 x4).length : Int) > 256)) x152000)) else (none)) else (if x3 < 1 then (some 0) else (if x3 > 64 then (some 0) else (if (wrap64 ((x152000.length : Int) * x3)) > 64 then (some 0) else (some x3))))
def lodestarref19_width.j2 : Nat → Int → Int → Bool → List (List (List Int)) → Option (Int)
  | 0, _, _, _, _ => none
  | k + 1, x3, x4, x53, x152000 => if x53 = true then (some 0) else (lodestarref19_width.l1 k x3 x4 0 x152000)
def lodestarref19_width.l1 : Nat → Int → Int → Int → List (List (List Int)) → Option (Int)
  | 0, _, _, _, _ => none
  | k + 1, x3, x4, x5, x152000 => if 0 ≤ x4 then (if x4 < (x152000.length : Int) then (if x5 < ((rd_L2 x152000 x4).length : Int) then (if 0 ≤ x5 then (if ((rd_L1 (rd_L2 x152000 x4) x5).length : Int) = x3 then ((lodestarref05_Range.f k (rd_L1 (rd_L2 x152000 x4) x5)).bind fun t162 => (if t162 = true then (lodestarref19_width.l1 k x3 x4 (wrap64 (x5 + 1)) x152000) else (some 0))) else (some 0)) else (none)) else (lodestarref19_width.l0 k x3 (wrap64 (x4 + 1)) x152000)) else (none)) else (none)
end
def lodestarref19_width.f (k : Nat) (l0_0 : List (List (List Int))) : Option (Int) := if (l0_0.length : Int) < 1 then (lodestarref19_width.j0 k true l0_0) else (if (l0_0.length : Int) > 64 then (lodestarref19_width.j0 k true l0_0) else (if 0 < (l0_0.length : Int) then (lodestarref19_width.j0 k (decide (((rd_L2 l0_0 0).length : Int) < 1)) l0_0) else (none)))
theorem lodestarref19_width.mono_l : ∀ k, (∀ y0 y1, LeO (lodestarref19_width.j0 k y0 y1) (lodestarref19_width.j0 (k + 1) y0 y1)) ∧ (∀ y0 y1 y2, LeO (lodestarref19_width.l0 k y0 y1 y2) (lodestarref19_width.l0 (k + 1) y0 y1 y2)) ∧ (∀ y0 y1 y2 y3, LeO (lodestarref19_width.j2 k y0 y1 y2 y3) (lodestarref19_width.j2 (k + 1) y0 y1 y2 y3)) ∧ (∀ y0 y1 y2 y3, LeO (lodestarref19_width.l1 k y0 y1 y2 y3) (lodestarref19_width.l1 (k + 1) y0 y1 y2 y3))
  | 0 => ⟨fun _ _ r h => by simp [lodestarref19_width.j0] at h, fun _ _ _ r h => by simp [lodestarref19_width.l0] at h, fun _ _ _ _ r h => by simp [lodestarref19_width.j2] at h, fun _ _ _ _ r h => by simp [lodestarref19_width.l1] at h⟩
  | k + 1 => by
    obtain ⟨ih0, ih1, ih2, ih3⟩ := lodestarref19_width.mono_l k
    refine ⟨?_, ?_, ?_, ?_⟩
    · intro y0 y1
      unfold lodestarref19_width.j0
      repeat' first
      | (with_reducible exact ih0 _ _)
      | (with_reducible exact ih1 _ _ _)
      | (with_reducible exact ih2 _ _ _ _)
      | (with_reducible exact ih3 _ _ _ _)
      | (with_reducible exact lodestarref05_Range.mono _ _)
      | (with_reducible exact LeO.refl _)
      | (with_reducible exact LeO.none _)
      | (with_reducible refine LeO.ite ?_ ?_)
      | (with_reducible refine LeO.bind ?_ (fun _ => ?_))
      | exact ih0 _ _
      | exact ih1 _ _ _
      | exact ih2 _ _ _ _
      | exact ih3 _ _ _ _
      | exact lodestarref05_Range.mono _ _
      | exact LeO.none _
      | refine LeO.ite ?_ ?_
      | refine LeO.bind ?_ (fun _ => ?_)
    · intro y0 y1 y2
      unfold lodestarref19_width.l0
      repeat' first
      | (with_reducible exact ih0 _ _)
      | (with_reducible exact ih1 _ _ _)
      | (with_reducible exact ih2 _ _ _ _)
      | (with_reducible exact ih3 _ _ _ _)
      | (with_reducible exact lodestarref05_Range.mono _ _)
      | (with_reducible exact LeO.refl _)
      | (with_reducible exact LeO.none _)
      | (with_reducible refine LeO.ite ?_ ?_)
      | (with_reducible refine LeO.bind ?_ (fun _ => ?_))
      | exact ih0 _ _
      | exact ih1 _ _ _
      | exact ih2 _ _ _ _
      | exact ih3 _ _ _ _
      | exact lodestarref05_Range.mono _ _
      | exact LeO.none _
      | refine LeO.ite ?_ ?_
      | refine LeO.bind ?_ (fun _ => ?_)
    · intro y0 y1 y2 y3
      unfold lodestarref19_width.j2
      repeat' first
      | (with_reducible exact ih0 _ _)
      | (with_reducible exact ih1 _ _ _)
      | (with_reducible exact ih2 _ _ _ _)
      | (with_reducible exact ih3 _ _ _ _)
      | (with_reducible exact lodestarref05_Range.mono _ _)
      | (with_reducible exact LeO.refl _)
      | (with_reducible exact LeO.none _)
      | (with_reducible refine LeO.ite ?_ ?_)
      | (with_reducible refine LeO.bind ?_ (fun _ => ?_))
      | exact ih0 _ _
      | exact ih1 _ _ _
      | exact ih2 _ _ _ _
      | exact ih3 _ _ _ _
      | exact lodestarref05_Range.mono _ _
      | exact LeO.none _
      | refine LeO.ite ?_ ?_
      | refine LeO.bind ?_ (fun _ => ?_)
    · intro y0 y1 y2 y3
      unfold lodestarref19_width.l1
      repeat' first
      | (with_reducible exact ih0 _ _)
      | (with_reducible exact ih1 _ _ _)
      | (with_reducible exact ih2 _ _ _ _)
      | (with_reducible exact ih3 _ _ _ _)
      | (with_reducible exact lodestarref05_Range.mono _ _)
      | (with_reducible exact LeO.refl _)
      | (with_reducible exact LeO.none _)
      | (with_reducible refine LeO.ite ?_ ?_)
      | (with_reducible refine LeO.bind ?_ (fun _ => ?_))
      | exact ih0 _ _
      | exact ih1 _ _ _
      | exact ih2 _ _ _ _
      | exact ih3 _ _ _ _
      | exact lodestarref05_Range.mono _ _
      | exact LeO.none _
      | refine LeO.ite ?_ ?_
      | refine LeO.bind ?_ (fun _ => ?_)
theorem lodestarref19_width.mono : ∀ a0 k, LeO (lodestarref19_width.f k a0) (lodestarref19_width.f (k + 1) a0) := by
  intro a0 k
  obtain ⟨ih0, ih1, ih2, ih3⟩ := lodestarref19_width.mono_l k
  unfold lodestarref19_width.f
  repeat' first
      | (with_reducible exact ih0 _ _)
      | (with_reducible exact ih1 _ _ _)
      | (with_reducible exact ih2 _ _ _ _)
      | (with_reducible exact ih3 _ _ _ _)
      | (with_reducible exact lodestarref05_Range.mono _ _)
      | (with_reducible exact LeO.refl _)
      | (with_reducible exact LeO.none _)
      | (with_reducible refine LeO.ite ?_ ?_)
      | (with_reducible refine LeO.bind ?_ (fun _ => ?_))
      | exact ih0 _ _
      | exact ih1 _ _ _
      | exact ih2 _ _ _ _
      | exact ih3 _ _ _ _
      | exact lodestarref05_Range.mono _ _
      | exact LeO.none _
      | refine LeO.ite ?_ ?_
      | refine LeO.bind ?_ (fun _ => ?_)
set_option maxHeartbeats 8000000 in
set_option maxRecDepth 100000 in
theorem lodestarref19_width.calls (k : Nat) (A0_0 : Option Addr) (c0_0 : Nat) (l0_0 : List (List (List Int))) (r : Int) (w : World) (hr0_0 : Kd.C (Kd.slice 23 (Kd.slice 3 (Kd.int .i64))) w A0_0 l0_0.length l0_0) (hc0_0 : l0_0.length ≤ c0_0) (h : lodestarref19_width.f k l0_0 = some r) :
    Calls Try.prog 53 #[.agg #[.slice A0_0 l0_0.length c0_0]] w fun e w' => e = .returned (.int .i64 r) ∧ Below w.heap.size w w' := by
  have hu45 := Try.underlying45
  have HR0_0 := Aside0.mk hr0_0
  have HC0_0 := Aside0.mk hc0_0
  clear hr0_0 hc0_0
  have HB := Aside0.mk (Below.refl w.heap.size w)
  have H : (if (l0_0.length : Int) < 1 then (lodestarref19_width.j0 k true l0_0) else (if (l0_0.length : Int) > 64 then (lodestarref19_width.j0 k true l0_0) else (if 0 < (l0_0.length : Int) then (lodestarref19_width.j0 k (decide (((rd_L2 l0_0 0).length : Int) < 1)) l0_0) else (none)))) = some r := h
  clear h
  have HC2 := Aside0.mk H
  clear H
  go_enter Try.func53, Try.ntmps53
  go_upto_region 1 with (first | ((with_reducible refine gate_dst (N := 1) rfl ?_); (try (refine gate_guard (by rfl) ?_; dsimp only)); refine box_event ?hg (N := 1) ?hd (cs := #[.slice A0_0 l0_0.length c0_0]) (t := 45) ?hr ?_; (case hd => rfl); (case hg => rfl); (case hr => first | (go_simp; done) | (go_simp; rfl)); intro gb151 hg w3 hbox hb; have n0_ := Aside0.mk (below_step (by repeat (first | (with_reducible first | exact HB.out | apply below_alloc | apply pw_below_drewN | apply below_drew1) | exact HB.out)) hb); have n1_ := Aside0.mk (hbox); have n2_ := Aside0.mk ((by rw [hg]; exact (below_size (by repeat (first | (with_reducible first | exact HB.out | apply below_alloc | apply pw_below_drewN | apply below_drew1) | exact HB.out))) : w.heap.size ≤ gb151)); have n3_ := Aside0.mk ((by rw [hg]; exact (below_size (by repeat (first | (with_reducible first | exact HB.out | apply below_alloc | apply pw_below_drewN | apply below_drew1) | exact HB.out))) : w.heap.size ≤ gb151)); clear HB; have HB := n0_; have BK151 := n1_; have GW151 := n2_; have GE151 := n3_; clear n0_ n1_ n2_ n3_; clear hb hbox hg))
  (try simp only [Act.put, List.setIfInBounds_toArray, List.set_cons_zero, List.set_cons_succ])
  go_cut [23] (fun v23 wc => ∃ (kq : Nat) (x23_1 : Bool), v23 = .bool x23_1 ∧ Aside0 (lodestarref19_width.j0 kq x23_1 l0_0 = some r) ∧ Aside0 (kq ≤ k) ∧ Aside0 (wc.heap[gb151]? = some (.cells #[(.slice A0_0 l0_0.length c0_0)] 45 (0, 0))) ∧ Aside0 (Below w.heap.size w wc))
  case first =>
    have H := HC2.out
    clear HC2
    by_cases c4 : (l0_0.length : Int) < 1
    · rw [if_pos c4] at H
      have c4b0 : decide ((l0_0.length : Int) < 1) = true := decide_eq_true c4
      have c4b1 : decide (l0_0.length < 1) = true := decide_eq_true (by omega)
      clear c4
      (first | rw [c4b0] | (simp only [i64_w, i32_w]; rw [c4b0]) | skip)
      have H' := Aside0.mk H
      clear H
      have hcz5_0 : w3.cell? ⟨gb151, 0, none⟩ = some (.slice A0_0 l0_0.length c0_0) := (blk_cell BK151.out 0).trans rfl
      have hfz5_0 := blk_frozen BK151.out 0
      go_wp2
      go_meet
      case rel => exact ⟨_, (true), (by first | rfl | (simp; done) | (simp [*]; done)), H', ⟨by first | omega | exact Nat.le_refl _⟩, ⟨by (with_reducible repeat (first | refine blk_drewN ?_ _ | refine blk_drew ?_ | refine blk_alloc ?_ _)); exact BK151.out⟩, ⟨by repeat (first | (with_reducible first | exact HB.out | apply below_alloc | apply pw_below_drewN | apply below_drew1 | refine below_set ?_ GE151.out) | exact HB.out)⟩⟩
    · rw [if_neg c4] at H
      have c4b0 : decide ((l0_0.length : Int) < 1) = false := decide_eq_false c4
      have c4b1 : decide (l0_0.length < 1) = false := decide_eq_false (by omega)
      clear c4
      (first | rw [c4b0] | (simp only [i64_w, i32_w]; rw [c4b0]) | skip)
      by_cases c6 : (l0_0.length : Int) > 64
      · rw [if_pos c6] at H
        have c6b0 : decide (64 < (l0_0.length : Int)) = true := decide_eq_true c6
        have c6b1 : decide (64 < l0_0.length) = true := decide_eq_true (by omega)
        clear c6
        have H' := Aside0.mk H
        clear H
        have hcz7_0 : w3.cell? ⟨gb151, 0, none⟩ = some (.slice A0_0 l0_0.length c0_0) := (blk_cell BK151.out 0).trans rfl
        have hfz7_0 := blk_frozen BK151.out 0
        go_wp2
        go_meet
        case rel => exact ⟨_, (true), (by first | rfl | (simp; done) | (simp [*]; done)), H', ⟨by first | omega | exact Nat.le_refl _⟩, ⟨by (with_reducible repeat (first | refine blk_drewN ?_ _ | refine blk_drew ?_ | refine blk_alloc ?_ _)); exact BK151.out⟩, ⟨by repeat (first | (with_reducible first | exact HB.out | apply below_alloc | apply pw_below_drewN | apply below_drew1 | refine below_set ?_ GE151.out) | exact HB.out)⟩⟩
      · rw [if_neg c6] at H
        have c6b0 : decide (64 < (l0_0.length : Int)) = false := decide_eq_false c6
        have c6b1 : decide (64 < l0_0.length) = false := decide_eq_false (by omega)
        clear c6
        by_cases c8 : 0 < (l0_0.length : Int)
        · rw [if_pos c8] at H
          have c8b0 : decide (0 < (l0_0.length : Int)) = true := decide_eq_true c8
          have c8b1 : decide (0 < l0_0.length) = true := decide_eq_true (by omega)
          clear c8
          have H' := Aside0.mk H
          clear H
          have hcz9_0 : w3.cell? ⟨gb151, 0, none⟩ = some (.slice A0_0 l0_0.length c0_0) := (blk_cell BK151.out 0).trans rfl
          have hfz9_0 := blk_frozen BK151.out 0
          have p152 : 0 ≤ (0 : Int) := (by omega)
          have q152 : 0 < (l0_0.length : Int) := of_decide_eq_true (by first | (with_reducible assumption) | assumption)
          obtain ⟨ad152, A152_0, c152_0, e152, hx152_0, hl152_0, hi152_0⟩ := at_L2 HR0_0.out 0 p152 q152
          cases e152
          have qi152 : (0 < l0_0.length) = True := eq_true (by omega)
          (try rw [show ((0 : Int)).toNat = 0 from rfl] at hx152_0)
          (try rw [Addr.add_zero'] at hx152_0)
          replace hx152_0 := (HB.out.cell (World.block_lt_of_cell? w _ hx152_0)).trans hx152_0
          have HR152_0 := Aside0.mk hi152_0
          have HC152_0 := Aside0.mk hl152_0
          clear hi152_0 hl152_0
          replace p152 := eq_true p152
          replace q152 := eq_true q152
          go_wp2
          go_meet
          case rel => exact ⟨_, (decide (((rd_L2 l0_0 0).length : Int) < 1)), (by first | rfl | (simp; done) | (simp [*]; done)), H', ⟨by first | omega | exact Nat.le_refl _⟩, ⟨by (with_reducible repeat (first | refine blk_drewN ?_ _ | refine blk_drew ?_ | refine blk_alloc ?_ _)); exact BK151.out⟩, ⟨by repeat (first | (with_reducible first | exact HB.out | apply below_alloc | apply pw_below_drewN | apply below_drew1 | refine below_set ?_ GE151.out) | exact HB.out)⟩⟩
        · rw [if_neg c8] at H
          exact absurd H (by simp)
  case rest =>
    clear HC2
    try clear c1
    try clear p1
    try clear q1
    try clear hx1
    try clear qi1
    try clear p2
    try clear c4
    try clear c4b0
    try clear c4b1
    try clear c5
    try clear c6
    try clear c6b0
    try clear c6b1
    try clear c8
    try clear c8b0
    try clear c8b1
    try clear hcz5_0
    try clear hcz7_0
    try clear hcz9_0
    try clear hfz5_0
    try clear hfz7_0
    try clear hfz9_0
    try clear hx152_0
    try clear p152
    try clear q152
    obtain ⟨kq, x23_1, rfl, HA, HJ1, BK151, HB⟩ := hcut
    cases kq with
    | zero => exact absurd HA.out (by simp [lodestarref19_width.j0])
    | succ kj1 =>
      have H := HA.out
      clear HA
      simp only [lodestarref19_width.j0] at H
      by_cases c10 : x23_1 = true
      · subst c10
        have H1 : (some 0) = some r := by rw [if_pos rfl] at H; exact H
        clear H
        have H := H1
        clear H1
        obtain rfl := Option.some.inj H
        go_wp2
        go_ret
        exact ⟨by first | rfl | (simp [errW_none, errW_some] <;> rfl) | (simp [*, errW_none, errW_some] <;> rfl), by repeat (first | (with_reducible first | exact HB.out | apply below_alloc | apply pw_below_drewN | apply below_drew1 | refine below_set ?_ GE151.out) | exact HB.out)⟩
      · replace c10 := Bool.eq_false_iff.mpr c10
        subst c10
        have H1 : (if 0 < (l0_0.length : Int) then (if 0 < ((rd_L2 l0_0 0).length : Int) then (lodestarref19_width.l0 kj1 ((rd_L1 (rd_L2 l0_0 0) 0).length : Int) 0 l0_0) else (none)) else (none)) = some r := by rw [if_neg (show ¬ (false = true) by decide)] at H; exact H
        clear H
        have H := H1
        clear H1
        by_cases c11 : 0 < (l0_0.length : Int)
        · rw [if_pos c11] at H
          have c11b0 : decide (0 < (l0_0.length : Int)) = true := decide_eq_true c11
          have c11b1 : decide (0 < l0_0.length) = true := decide_eq_true (by omega)
          clear c11
          by_cases c12 : 0 < ((rd_L2 l0_0 0).length : Int)
          · rw [if_pos c12] at H
            have c12b0 : decide (0 < ((rd_L2 l0_0 0).length : Int)) = true := decide_eq_true c12
            have c12b1 : decide (0 < (rd_L2 l0_0 0).length) = true := decide_eq_true (by omega)
            clear c12
            have H' := Aside0.mk H
            clear H
            have hcz13_0 : wc.cell? ⟨gb151, 0, none⟩ = some (.slice A0_0 l0_0.length c0_0) := (blk_cell BK151.out 0).trans rfl
            have hfz13_0 := blk_frozen BK151.out 0
            have p153 : 0 ≤ (0 : Int) := (by omega)
            have q153 : 0 < (l0_0.length : Int) := of_decide_eq_true (by first | (with_reducible assumption) | assumption)
            obtain ⟨ad153, A153_0, c153_0, e153, hx153_0, hl153_0, hi153_0⟩ := at_L2 HR0_0.out 0 p153 q153
            cases e153
            have qi153 : (0 < l0_0.length) = True := eq_true (by omega)
            (try rw [show ((0 : Int)).toNat = 0 from rfl] at hx153_0)
            (try rw [Addr.add_zero'] at hx153_0)
            replace hx153_0 := (HB.out.cell (World.block_lt_of_cell? w _ hx153_0)).trans hx153_0
            have HR153_0 := Aside0.mk hi153_0
            have HC153_0 := Aside0.mk hl153_0
            clear hi153_0 hl153_0
            replace p153 := eq_true p153
            replace q153 := eq_true q153
            have p154 : 0 ≤ (0 : Int) := (by omega)
            have q154 : 0 < ((rd_L2 l0_0 0).length : Int) := of_decide_eq_true (by first | (with_reducible assumption) | assumption)
            obtain ⟨ad154, A154_0, c154_0, e154, hx154_0, hl154_0, hi154_0⟩ := at_L1 HR153_0.out 0 p154 q154
            cases e154
            have qi154 : (0 < (rd_L2 l0_0 0).length) = True := eq_true (by omega)
            (try rw [show ((0 : Int)).toNat = 0 from rfl] at hx154_0)
            (try rw [Addr.add_zero'] at hx154_0)
            replace hx154_0 := (HB.out.cell (World.block_lt_of_cell? w _ hx154_0)).trans hx154_0
            have HR154_0 := Aside0.mk hi154_0
            have HC154_0 := Aside0.mk hl154_0
            clear hi154_0 hl154_0
            try (have ea_ := Option.some.inj (hx153_0.symm.trans hx154_0); injection ea_ with ea_ en_ ec_; subst ea_; subst ec_; clear en_)
            replace p154 := eq_true p154
            replace q154 := eq_true q154
            go_wp2
            go_loopg [4] kj1 (fun kq v4 w' => ∃ (x4_2 : Int), v4 = .int .i64 x4_2 ∧ Aside0 (lodestarref19_width.l0 kq ((rd_L1 (rd_L2 l0_0 0) 0).length : Int) x4_2 l0_0 = some r) ∧ Aside0 (kq ≤ kj1) ∧ Aside0 (w'.heap[gb151]? = some (.cells #[(.slice (some ad153) l0_0.length c0_0)] 45 (0, 0))) ∧ Aside0 (Below w.heap.size w w'))
            case atStart => exact ⟨(0), (by first | rfl | (simp; done) | (simp [*]; done)), H', ⟨Nat.le_refl _⟩, ⟨by (with_reducible repeat (first | refine blk_drewN ?_ _ | refine blk_drew ?_ | refine blk_alloc ?_ _)); exact BK151.out⟩, ⟨by repeat (first | (with_reducible first | exact HB.out | apply below_alloc | apply pw_below_drewN | apply below_drew1 | refine below_set ?_ GE151.out) | exact HB.out)⟩⟩
            case round =>
              clear H'
              try clear c1
              try clear p1
              try clear q1
              try clear hx1
              try clear qi1
              try clear p2
              try clear c4
              try clear c4b0
              try clear c4b1
              try clear c5
              try clear c6
              try clear c6b0
              try clear c6b1
              try clear c8
              try clear c8b0
              try clear c8b1
              try clear c10
              try clear c11
              try clear c11b0
              try clear c11b1
              try clear c12
              try clear c12b0
              try clear c12b1
              try clear hcz13_0
              try clear hcz5_0
              try clear hcz7_0
              try clear hcz9_0
              try clear hfz13_0
              try clear hfz5_0
              try clear hfz7_0
              try clear hfz9_0
              try clear hx152_0
              try clear hx153_0
              try clear hx154_0
              try clear p1
              try clear p152
              try clear p153
              try clear p154
              try clear p2
              try clear q1
              try clear q152
              try clear q153
              try clear q154
              obtain ⟨x4_2, rfl, HA, HK2, BK151, HB⟩ := hrel
              cases gk with
              | zero => exact absurd HA.out (by simp [lodestarref19_width.l0])
              | succ k2 =>
                have H := HA.out
                clear HA
                simp only [lodestarref19_width.l0] at H
                by_cases c14 : x4_2 < (l0_0.length : Int)
                · rw [if_pos c14] at H
                  have c14b0 : decide (x4_2 < (l0_0.length : Int)) = true := decide_eq_true c14
                  clear c14
                  have HC15 := Aside0.mk H
                  clear H
                  have hcz16_0 : wr.cell? ⟨gb151, 0, none⟩ = some (.slice (some ad153) l0_0.length c0_0) := (blk_cell BK151.out 0).trans rfl
                  have hfz16_0 := blk_frozen BK151.out 0
                  go_upto_region 7 with (fail)
                  go_cut [53] (fun v53 wc => ∃ (kq : Nat) (x53_14 : Bool), v53 = .bool x53_14 ∧ Aside0 (lodestarref19_width.j2 kq ((rd_L1 (rd_L2 l0_0 0) 0).length : Int) x4_2 x53_14 l0_0 = some r) ∧ Aside0 (kq ≤ k2) ∧ Aside0 (wc.heap[gb151]? = some (.cells #[(.slice (some ad153) l0_0.length c0_0)] 45 (0, 0))) ∧ Aside0 (Below w.heap.size w wc))
                  case first =>
                    have H := HC15.out
                    clear HC15
                    by_cases c17 : 0 ≤ x4_2
                    · rw [if_pos c17] at H
                      have c17b0 : decide (0 ≤ x4_2) = true := decide_eq_true c17
                      clear c17
                      (first | rw [c17b0] | (simp only [i64_w, i32_w]; rw [c17b0]) | skip)
                      by_cases c18 : ((rd_L2 l0_0 x4_2).length : Int) < 1
                      · rw [if_pos c18] at H
                        have c18b0 : decide (((rd_L2 l0_0 x4_2).length : Int) < 1) = true := decide_eq_true c18
                        have c18b1 : decide ((rd_L2 l0_0 x4_2).length < 1) = true := decide_eq_true (by omega)
                        clear c18
                        have H' := Aside0.mk H
                        clear H
                        have hcz19_0 : wr.cell? ⟨gb151, 0, none⟩ = some (.slice (some ad153) l0_0.length c0_0) := (blk_cell BK151.out 0).trans rfl
                        have hfz19_0 := blk_frozen BK151.out 0
                        have p155 : 0 ≤ (x4_2 : Int) := of_decide_eq_true (by first | (with_reducible assumption) | assumption)
                        have q155 : x4_2 < (l0_0.length : Int) := of_decide_eq_true (by first | (with_reducible assumption) | assumption)
                        obtain ⟨ad155, A155_0, c155_0, e155, hx155_0, hl155_0, hi155_0⟩ := at_L2 HR0_0.out x4_2 p155 q155
                        obtain rfl : ad153 = ad155 := (by injection e155)
                        replace hx155_0 := (HB.out.cell (World.block_lt_of_cell? w _ hx155_0)).trans hx155_0
                        have HR155_0 := Aside0.mk hi155_0
                        have HC155_0 := Aside0.mk hl155_0
                        clear hi155_0 hl155_0
                        replace p155 := eq_true p155
                        replace q155 := eq_true q155
                        go_wp2
                        go_meet
                        case rel => exact ⟨_, (true), (by first | rfl | (simp; done) | (simp [*]; done)), H', ⟨by have := HJ1.out; have := HK2.out; first | omega | exact Nat.le_refl _⟩, ⟨by (with_reducible repeat (first | refine blk_drewN ?_ _ | refine blk_drew ?_ | refine blk_alloc ?_ _)); exact BK151.out⟩, ⟨by repeat (first | (with_reducible first | exact HB.out | apply below_alloc | apply pw_below_drewN | apply below_drew1 | refine below_set ?_ GE151.out) | exact HB.out)⟩⟩
                      · rw [if_neg c18] at H
                        have c18b0 : decide (((rd_L2 l0_0 x4_2).length : Int) < 1) = false := decide_eq_false c18
                        have c18b1 : decide ((rd_L2 l0_0 x4_2).length < 1) = false := decide_eq_false (by omega)
                        clear c18
                        have H' := Aside0.mk H
                        clear H
                        have hcz20_0 : wr.cell? ⟨gb151, 0, none⟩ = some (.slice (some ad153) l0_0.length c0_0) := (blk_cell BK151.out 0).trans rfl
                        have hfz20_0 := blk_frozen BK151.out 0
                        have p155 : 0 ≤ (x4_2 : Int) := of_decide_eq_true (by first | (with_reducible assumption) | assumption)
                        have q155 : x4_2 < (l0_0.length : Int) := of_decide_eq_true (by first | (with_reducible assumption) | assumption)
                        obtain ⟨ad155, A155_0, c155_0, e155, hx155_0, hl155_0, hi155_0⟩ := at_L2 HR0_0.out x4_2 p155 q155
                        obtain rfl : ad153 = ad155 := (by injection e155)
                        replace hx155_0 := (HB.out.cell (World.block_lt_of_cell? w _ hx155_0)).trans hx155_0
                        have HR155_0 := Aside0.mk hi155_0
                        have HC155_0 := Aside0.mk hl155_0
                        clear hi155_0 hl155_0
                        replace p155 := eq_true p155
                        replace q155 := eq_true q155
                        have p156 : 0 ≤ (x4_2 : Int) := of_decide_eq_true (by first | (with_reducible assumption) | assumption)
                        have q156 : x4_2 < (l0_0.length : Int) := of_decide_eq_true (by first | (with_reducible assumption) | assumption)
                        obtain ⟨ad156, A156_0, c156_0, e156, hx156_0, hl156_0, hi156_0⟩ := at_L2 HR0_0.out x4_2 p156 q156
                        obtain rfl : ad153 = ad156 := (by injection e156)
                        replace hx156_0 := (HB.out.cell (World.block_lt_of_cell? w _ hx156_0)).trans hx156_0
                        have HR156_0 := Aside0.mk hi156_0
                        have HC156_0 := Aside0.mk hl156_0
                        clear hi156_0 hl156_0
                        replace p156 := eq_true p156
                        replace q156 := eq_true q156
                        have ea_ := Option.some.inj (hx155_0.symm.trans hx156_0)
                        injection ea_ with ea_ en_ ec_
                        subst ea_
                        subst ec_
                        clear en_
                        go_wp2
                        go_meet
                        case rel => exact ⟨_, (decide (((rd_L2 l0_0 x4_2).length : Int) > 256)), (by first | rfl | (simp; done) | (simp [*]; done)), H', ⟨by have := HJ1.out; have := HK2.out; first | omega | exact Nat.le_refl _⟩, ⟨by (with_reducible repeat (first | refine blk_drewN ?_ _ | refine blk_drew ?_ | refine blk_alloc ?_ _)); exact BK151.out⟩, ⟨by repeat (first | (with_reducible first | exact HB.out | apply below_alloc | apply pw_below_drewN | apply below_drew1 | refine below_set ?_ GE151.out) | exact HB.out)⟩⟩
                    · rw [if_neg c17] at H
                      exact absurd H (by simp)
                  case rest =>
                    clear HC15
                    try clear c1
                    try clear p1
                    try clear q1
                    try clear hx1
                    try clear qi1
                    try clear p2
                    try clear c4
                    try clear c4b0
                    try clear c4b1
                    try clear c5
                    try clear c6
                    try clear c6b0
                    try clear c6b1
                    try clear c8
                    try clear c8b0
                    try clear c8b1
                    try clear c10
                    try clear c11
                    try clear c11b0
                    try clear c11b1
                    try clear c12
                    try clear c12b0
                    try clear c12b1
                    try clear c14
                    try clear c14b0
                    try clear c15
                    try clear p15
                    try clear q15
                    try clear hx15
                    try clear qi15
                    try clear c17
                    try clear c17b0
                    try clear c18
                    try clear c18b0
                    try clear c18b1
                    try clear hcz13_0
                    try clear hcz16_0
                    try clear hcz19_0
                    try clear hcz20_0
                    try clear hcz5_0
                    try clear hcz7_0
                    try clear hcz9_0
                    try clear hfz13_0
                    try clear hfz16_0
                    try clear hfz19_0
                    try clear hfz20_0
                    try clear hfz5_0
                    try clear hfz7_0
                    try clear hfz9_0
                    try clear hx152_0
                    try clear hx153_0
                    try clear hx154_0
                    try clear hx155_0
                    try clear hx156_0
                    try clear p1
                    try clear p152
                    try clear p153
                    try clear p154
                    try clear p155
                    try clear p156
                    try clear p2
                    try clear q1
                    try clear q152
                    try clear q153
                    try clear q154
                    try clear q155
                    try clear q156
                    obtain ⟨kq, x53_14, rfl, HA, HJ14, BK151, HB⟩ := hcut
                    cases kq with
                    | zero => exact absurd HA.out (by simp [lodestarref19_width.j2])
                    | succ kj14 =>
                      have H := HA.out
                      clear HA
                      simp only [lodestarref19_width.j2] at H
                      by_cases c21 : x53_14 = true
                      · subst c21
                        have H1 : (some 0) = some r := by rw [if_pos rfl] at H; exact H
                        clear H
                        have H := H1
                        clear H1
                        obtain rfl := Option.some.inj H
                        go_wp2
                        go_ret
                        exact ⟨by first | rfl | (simp [errW_none, errW_some] <;> rfl) | (simp [*, errW_none, errW_some] <;> rfl), by repeat (first | (with_reducible first | exact HB.out | apply below_alloc | apply pw_below_drewN | apply below_drew1 | refine below_set ?_ GE151.out) | exact HB.out)⟩
                      · replace c21 := Bool.eq_false_iff.mpr c21
                        subst c21
                        have H1 : (lodestarref19_width.l1 kj14 ((rd_L1 (rd_L2 l0_0 0) 0).length : Int) x4_2 0 l0_0) = some r := by rw [if_neg (show ¬ (false = true) by decide)] at H; exact H
                        clear H
                        have H := H1
                        clear H1
                        have H' := Aside0.mk H
                        clear H
                        go_wp2
                        go_loopg [5] kj14 (fun kq v5 w' => ∃ (x5_4 : Int), v5 = .int .i64 x5_4 ∧ Aside0 (lodestarref19_width.l1 kq ((rd_L1 (rd_L2 l0_0 0) 0).length : Int) x4_2 x5_4 l0_0 = some r) ∧ Aside0 (kq ≤ kj14) ∧ Aside0 (w'.heap[gb151]? = some (.cells #[(.slice (some ad153) l0_0.length c0_0)] 45 (0, 0))) ∧ Aside0 (Below w.heap.size w w'))
                        case atStart => exact ⟨(0), (by first | rfl | (simp; done) | (simp [*]; done)), H', ⟨Nat.le_refl _⟩, ⟨by (with_reducible repeat (first | refine blk_drewN ?_ _ | refine blk_drew ?_ | refine blk_alloc ?_ _)); exact BK151.out⟩, ⟨by repeat (first | (with_reducible first | exact HB.out | apply below_alloc | apply pw_below_drewN | apply below_drew1 | refine below_set ?_ GE151.out) | exact HB.out)⟩⟩
                        case round =>
                          clear H'
                          try clear c1
                          try clear p1
                          try clear q1
                          try clear hx1
                          try clear qi1
                          try clear c2
                          try clear p2
                          try clear c4
                          try clear c4b0
                          try clear c4b1
                          try clear c5
                          try clear c6
                          try clear c6b0
                          try clear c6b1
                          try clear c8
                          try clear c8b0
                          try clear c8b1
                          try clear c10
                          try clear c11
                          try clear c11b0
                          try clear c11b1
                          try clear c12
                          try clear c12b0
                          try clear c12b1
                          try clear c14
                          try clear c14b0
                          try clear c15
                          try clear p15
                          try clear q15
                          try clear hx15
                          try clear qi15
                          try clear c17
                          try clear c17b0
                          try clear c18
                          try clear c18b0
                          try clear c18b1
                          try clear c21
                          try clear hcz13_0
                          try clear hcz16_0
                          try clear hcz19_0
                          try clear hcz20_0
                          try clear hcz5_0
                          try clear hcz7_0
                          try clear hcz9_0
                          try clear hfz13_0
                          try clear hfz16_0
                          try clear hfz19_0
                          try clear hfz20_0
                          try clear hfz5_0
                          try clear hfz7_0
                          try clear hfz9_0
                          try clear hx152_0
                          try clear hx153_0
                          try clear hx154_0
                          try clear hx155_0
                          try clear hx156_0
                          try clear p1
                          try clear p15
                          try clear p152
                          try clear p153
                          try clear p154
                          try clear p155
                          try clear p156
                          try clear p2
                          try clear q1
                          try clear q15
                          try clear q152
                          try clear q153
                          try clear q154
                          try clear q155
                          try clear q156
                          obtain ⟨x5_4, rfl, HA, HK4, BK151, HB⟩ := hrel
                          cases gk with
                          | zero => exact absurd HA.out (by simp [lodestarref19_width.l1])
                          | succ k4 =>
                            have H := HA.out
                            clear HA
                            simp only [lodestarref19_width.l1] at H
                            by_cases c22 : 0 ≤ x4_2
                            · rw [if_pos c22] at H
                              have c22b0 : decide (0 ≤ x4_2) = true := decide_eq_true c22
                              clear c22
                              by_cases c23 : x4_2 < (l0_0.length : Int)
                              · rw [if_pos c23] at H
                                have c23b0 : decide (x4_2 < (l0_0.length : Int)) = true := decide_eq_true c23
                                clear c23
                                by_cases c24 : x5_4 < ((rd_L2 l0_0 x4_2).length : Int)
                                · rw [if_pos c24] at H
                                  have c24b0 : decide (x5_4 < ((rd_L2 l0_0 x4_2).length : Int)) = true := decide_eq_true c24
                                  clear c24
                                  by_cases c25 : 0 ≤ x5_4
                                  · rw [if_pos c25] at H
                                    have c25b0 : decide (0 ≤ x5_4) = true := decide_eq_true c25
                                    clear c25
                                    by_cases c26 : ((rd_L1 (rd_L2 l0_0 x4_2) x5_4).length : Int) = ((rd_L1 (rd_L2 l0_0 0) 0).length : Int)
                                    · rw [if_pos c26] at H
                                      have c26b0 : (((rd_L1 (rd_L2 l0_0 x4_2) x5_4).length : Int) == ((rd_L1 (rd_L2 l0_0 0) 0).length : Int)) = true := beq_iff_eq.mpr c26
                                      have c26b1 : (((rd_L1 (rd_L2 l0_0 x4_2) x5_4).length : Int) != ((rd_L1 (rd_L2 l0_0 0) 0).length : Int)) = false := bne_eq_false_iff_eq.mpr c26
                                      have c26b2 : ((rd_L1 (rd_L2 l0_0 x4_2) x5_4).length == (rd_L1 (rd_L2 l0_0 0) 0).length) = true := by first | simpa using c26 | (simp at c26 ⊢; omega)
                                      clear c26
                                      replace H := Option.bind_eq_some_iff.mp H
                                      obtain ⟨t162, A270, H⟩ := H
                                      replace H : (if t162 = true then (lodestarref19_width.l1 k4 ((rd_L1 (rd_L2 l0_0 0) 0).length : Int) x4_2 (wrap64 (x5_4 + 1)) l0_0) else (some 0)) = some r := H
                                      have A27 := Aside0.mk A270
                                      clear A270
                                      by_cases c28 : t162 = true
                                      · subst c28
                                        have H1 : (lodestarref19_width.l1 k4 ((rd_L1 (rd_L2 l0_0 0) 0).length : Int) x4_2 (wrap64 (x5_4 + 1)) l0_0) = some r := by rw [if_pos rfl] at H; exact H
                                        clear H
                                        have H := H1
                                        clear H1
                                        have H' := Aside0.mk H
                                        clear H
                                        have hcz29_0 : wr.cell? ⟨gb151, 0, none⟩ = some (.slice (some ad153) l0_0.length c0_0) := (blk_cell BK151.out 0).trans rfl
                                        have hfz29_0 := blk_frozen BK151.out 0
                                        have p157 : 0 ≤ (x4_2 : Int) := of_decide_eq_true (by first | (with_reducible assumption) | assumption)
                                        have q157 : x4_2 < (l0_0.length : Int) := of_decide_eq_true (by first | (with_reducible assumption) | assumption)
                                        obtain ⟨ad157, A157_0, c157_0, e157, hx157_0, hl157_0, hi157_0⟩ := at_L2 HR0_0.out x4_2 p157 q157
                                        obtain rfl : ad153 = ad157 := (by injection e157)
                                        replace hx157_0 := (HB.out.cell (World.block_lt_of_cell? w _ hx157_0)).trans hx157_0
                                        have HR157_0 := Aside0.mk hi157_0
                                        have HC157_0 := Aside0.mk hl157_0
                                        clear hi157_0 hl157_0
                                        replace p157 := eq_true p157
                                        replace q157 := eq_true q157
                                        have p158 : 0 ≤ (x4_2 : Int) := of_decide_eq_true (by first | (with_reducible assumption) | assumption)
                                        have q158 : x4_2 < (l0_0.length : Int) := of_decide_eq_true (by first | (with_reducible assumption) | assumption)
                                        obtain ⟨ad158, A158_0, c158_0, e158, hx158_0, hl158_0, hi158_0⟩ := at_L2 HR0_0.out x4_2 p158 q158
                                        obtain rfl : ad153 = ad158 := (by injection e158)
                                        replace hx158_0 := (HB.out.cell (World.block_lt_of_cell? w _ hx158_0)).trans hx158_0
                                        have HR158_0 := Aside0.mk hi158_0
                                        have HC158_0 := Aside0.mk hl158_0
                                        clear hi158_0 hl158_0
                                        replace p158 := eq_true p158
                                        replace q158 := eq_true q158
                                        have ea_ := Option.some.inj (hx157_0.symm.trans hx158_0)
                                        injection ea_ with ea_ en_ ec_
                                        subst ea_
                                        subst ec_
                                        clear en_
                                        have p159 : 0 ≤ (x5_4 : Int) := of_decide_eq_true (by first | (with_reducible assumption) | assumption)
                                        have q159 : x5_4 < ((rd_L2 l0_0 x4_2).length : Int) := of_decide_eq_true (by first | (with_reducible assumption) | assumption)
                                        obtain ⟨ad159, A159_0, c159_0, e159, hx159_0, hl159_0, hi159_0⟩ := at_L1 HR158_0.out x5_4 p159 q159
                                        cases e159
                                        replace hx159_0 := (HB.out.cell (World.block_lt_of_cell? w _ hx159_0)).trans hx159_0
                                        have HR159_0 := Aside0.mk hi159_0
                                        have HC159_0 := Aside0.mk hl159_0
                                        clear hi159_0 hl159_0
                                        replace p159 := eq_true p159
                                        replace q159 := eq_true q159
                                        have p160 : 0 ≤ (x4_2 : Int) := of_decide_eq_true (by first | (with_reducible assumption) | assumption)
                                        have q160 : x4_2 < (l0_0.length : Int) := of_decide_eq_true (by first | (with_reducible assumption) | assumption)
                                        obtain ⟨ad160, A160_0, c160_0, e160, hx160_0, hl160_0, hi160_0⟩ := at_L2 HR0_0.out x4_2 p160 q160
                                        obtain rfl : ad153 = ad160 := (by injection e160)
                                        replace hx160_0 := (HB.out.cell (World.block_lt_of_cell? w _ hx160_0)).trans hx160_0
                                        have HR160_0 := Aside0.mk hi160_0
                                        have HC160_0 := Aside0.mk hl160_0
                                        clear hi160_0 hl160_0
                                        replace p160 := eq_true p160
                                        replace q160 := eq_true q160
                                        have ea_ := Option.some.inj (hx157_0.symm.trans hx160_0)
                                        injection ea_ with ea_ en_ ec_
                                        subst ea_
                                        subst ec_
                                        clear en_
                                        have p161 : 0 ≤ (x5_4 : Int) := of_decide_eq_true (by first | (with_reducible assumption) | assumption)
                                        have q161 : x5_4 < ((rd_L2 l0_0 x4_2).length : Int) := of_decide_eq_true (by first | (with_reducible assumption) | assumption)
                                        obtain ⟨ad161, A161_0, c161_0, e161, hx161_0, hl161_0, hi161_0⟩ := at_L1 HR160_0.out x5_4 p161 q161
                                        cases e161
                                        replace hx161_0 := (HB.out.cell (World.block_lt_of_cell? w _ hx161_0)).trans hx161_0
                                        have HR161_0 := Aside0.mk hi161_0
                                        have HC161_0 := Aside0.mk hl161_0
                                        clear hi161_0 hl161_0
                                        try (have ea_ := Option.some.inj (hx159_0.symm.trans hx161_0); injection ea_ with ea_ en_ ec_; subst ea_; subst ec_; clear en_)
                                        replace p161 := eq_true p161
                                        replace q161 := eq_true q161
                                        go_wp2_with (first | (go_at_call 68; (with_reducible refine (lodestarref05_Range.calls k4 _ _ (rd_L1 (rd_L2 l0_0 x4_2) x5_4) true _ ?side1 ?side2 A27.out).mono ?_); (case side1 => repeat (first | exact (Kd.C_below HR161_0.out HB.out) | (with_reducible refine Kd.C_alloc ?_ _) | (with_reducible refine Kd.C_drewN ?_ _) | (with_reducible refine Kd.C_drew ?_))); (case side2 => exact HC161_0.out); rintro e w' ⟨rfl, ⟨nd, rfl⟩⟩))
                                        go_roundg k4
                                        case measure => have := HJ1.out; have := HK2.out; have := HJ14.out; have := HK4.out; omega
                                        case rel => exact ⟨(wrap64 (x5_4 + 1)), (by first | rfl | (simp; done) | (simp [*]; done)), H', ⟨by have := HJ1.out; have := HK2.out; have := HJ14.out; have := HK4.out; omega⟩, ⟨by (with_reducible repeat (first | refine blk_drewN ?_ _ | refine blk_drew ?_ | refine blk_alloc ?_ _)); exact BK151.out⟩, ⟨by repeat (first | (with_reducible first | exact HB.out | apply below_alloc | apply pw_below_drewN | apply below_drew1 | refine below_set ?_ GE151.out) | exact HB.out)⟩⟩
                                      · replace c28 := Bool.eq_false_iff.mpr c28
                                        subst c28
                                        have H1 : (some 0) = some r := by rw [if_neg (show ¬ (false = true) by decide)] at H; exact H
                                        clear H
                                        have H := H1
                                        clear H1
                                        obtain rfl := Option.some.inj H
                                        have hcz30_0 : wr.cell? ⟨gb151, 0, none⟩ = some (.slice (some ad153) l0_0.length c0_0) := (blk_cell BK151.out 0).trans rfl
                                        have hfz30_0 := blk_frozen BK151.out 0
                                        have p157 : 0 ≤ (x4_2 : Int) := of_decide_eq_true (by first | (with_reducible assumption) | assumption)
                                        have q157 : x4_2 < (l0_0.length : Int) := of_decide_eq_true (by first | (with_reducible assumption) | assumption)
                                        obtain ⟨ad157, A157_0, c157_0, e157, hx157_0, hl157_0, hi157_0⟩ := at_L2 HR0_0.out x4_2 p157 q157
                                        obtain rfl : ad153 = ad157 := (by injection e157)
                                        replace hx157_0 := (HB.out.cell (World.block_lt_of_cell? w _ hx157_0)).trans hx157_0
                                        have HR157_0 := Aside0.mk hi157_0
                                        have HC157_0 := Aside0.mk hl157_0
                                        clear hi157_0 hl157_0
                                        replace p157 := eq_true p157
                                        replace q157 := eq_true q157
                                        have p158 : 0 ≤ (x4_2 : Int) := of_decide_eq_true (by first | (with_reducible assumption) | assumption)
                                        have q158 : x4_2 < (l0_0.length : Int) := of_decide_eq_true (by first | (with_reducible assumption) | assumption)
                                        obtain ⟨ad158, A158_0, c158_0, e158, hx158_0, hl158_0, hi158_0⟩ := at_L2 HR0_0.out x4_2 p158 q158
                                        obtain rfl : ad153 = ad158 := (by injection e158)
                                        replace hx158_0 := (HB.out.cell (World.block_lt_of_cell? w _ hx158_0)).trans hx158_0
                                        have HR158_0 := Aside0.mk hi158_0
                                        have HC158_0 := Aside0.mk hl158_0
                                        clear hi158_0 hl158_0
                                        replace p158 := eq_true p158
                                        replace q158 := eq_true q158
                                        have ea_ := Option.some.inj (hx157_0.symm.trans hx158_0)
                                        injection ea_ with ea_ en_ ec_
                                        subst ea_
                                        subst ec_
                                        clear en_
                                        have p159 : 0 ≤ (x5_4 : Int) := of_decide_eq_true (by first | (with_reducible assumption) | assumption)
                                        have q159 : x5_4 < ((rd_L2 l0_0 x4_2).length : Int) := of_decide_eq_true (by first | (with_reducible assumption) | assumption)
                                        obtain ⟨ad159, A159_0, c159_0, e159, hx159_0, hl159_0, hi159_0⟩ := at_L1 HR158_0.out x5_4 p159 q159
                                        cases e159
                                        replace hx159_0 := (HB.out.cell (World.block_lt_of_cell? w _ hx159_0)).trans hx159_0
                                        have HR159_0 := Aside0.mk hi159_0
                                        have HC159_0 := Aside0.mk hl159_0
                                        clear hi159_0 hl159_0
                                        replace p159 := eq_true p159
                                        replace q159 := eq_true q159
                                        have p160 : 0 ≤ (x4_2 : Int) := of_decide_eq_true (by first | (with_reducible assumption) | assumption)
                                        have q160 : x4_2 < (l0_0.length : Int) := of_decide_eq_true (by first | (with_reducible assumption) | assumption)
                                        obtain ⟨ad160, A160_0, c160_0, e160, hx160_0, hl160_0, hi160_0⟩ := at_L2 HR0_0.out x4_2 p160 q160
                                        obtain rfl : ad153 = ad160 := (by injection e160)
                                        replace hx160_0 := (HB.out.cell (World.block_lt_of_cell? w _ hx160_0)).trans hx160_0
                                        have HR160_0 := Aside0.mk hi160_0
                                        have HC160_0 := Aside0.mk hl160_0
                                        clear hi160_0 hl160_0
                                        replace p160 := eq_true p160
                                        replace q160 := eq_true q160
                                        have ea_ := Option.some.inj (hx157_0.symm.trans hx160_0)
                                        injection ea_ with ea_ en_ ec_
                                        subst ea_
                                        subst ec_
                                        clear en_
                                        have p161 : 0 ≤ (x5_4 : Int) := of_decide_eq_true (by first | (with_reducible assumption) | assumption)
                                        have q161 : x5_4 < ((rd_L2 l0_0 x4_2).length : Int) := of_decide_eq_true (by first | (with_reducible assumption) | assumption)
                                        obtain ⟨ad161, A161_0, c161_0, e161, hx161_0, hl161_0, hi161_0⟩ := at_L1 HR160_0.out x5_4 p161 q161
                                        cases e161
                                        replace hx161_0 := (HB.out.cell (World.block_lt_of_cell? w _ hx161_0)).trans hx161_0
                                        have HR161_0 := Aside0.mk hi161_0
                                        have HC161_0 := Aside0.mk hl161_0
                                        clear hi161_0 hl161_0
                                        try (have ea_ := Option.some.inj (hx159_0.symm.trans hx161_0); injection ea_ with ea_ en_ ec_; subst ea_; subst ec_; clear en_)
                                        replace p161 := eq_true p161
                                        replace q161 := eq_true q161
                                        go_wp2_with (first | (go_at_call 68; (with_reducible refine (lodestarref05_Range.calls k4 _ _ (rd_L1 (rd_L2 l0_0 x4_2) x5_4) false _ ?side1 ?side2 A27.out).mono ?_); (case side1 => repeat (first | exact (Kd.C_below HR161_0.out HB.out) | (with_reducible refine Kd.C_alloc ?_ _) | (with_reducible refine Kd.C_drewN ?_ _) | (with_reducible refine Kd.C_drew ?_))); (case side2 => exact HC161_0.out); rintro e w' ⟨rfl, ⟨nd, rfl⟩⟩))
                                        go_ret
                                        exact ⟨by first | rfl | (simp [errW_none, errW_some] <;> rfl) | (simp [*, errW_none, errW_some] <;> rfl), by repeat (first | (with_reducible first | exact HB.out | apply below_alloc | apply pw_below_drewN | apply below_drew1 | refine below_set ?_ GE151.out) | exact HB.out)⟩
                                    · rw [if_neg c26] at H
                                      have c26b0 : (((rd_L1 (rd_L2 l0_0 x4_2) x5_4).length : Int) == ((rd_L1 (rd_L2 l0_0 0) 0).length : Int)) = false := beq_eq_false_iff_ne.mpr c26
                                      have c26b1 : (((rd_L1 (rd_L2 l0_0 x4_2) x5_4).length : Int) != ((rd_L1 (rd_L2 l0_0 0) 0).length : Int)) = true := bne_iff_ne.mpr c26
                                      have c26b2 : ((rd_L1 (rd_L2 l0_0 x4_2) x5_4).length == (rd_L1 (rd_L2 l0_0 0) 0).length) = false := by first | simpa using c26 | (simp at c26 ⊢; omega)
                                      obtain rfl := Option.some.inj H
                                      have hcz31_0 : wr.cell? ⟨gb151, 0, none⟩ = some (.slice (some ad153) l0_0.length c0_0) := (blk_cell BK151.out 0).trans rfl
                                      have hfz31_0 := blk_frozen BK151.out 0
                                      have p157 : 0 ≤ (x4_2 : Int) := of_decide_eq_true (by first | (with_reducible assumption) | assumption)
                                      have q157 : x4_2 < (l0_0.length : Int) := of_decide_eq_true (by first | (with_reducible assumption) | assumption)
                                      obtain ⟨ad157, A157_0, c157_0, e157, hx157_0, hl157_0, hi157_0⟩ := at_L2 HR0_0.out x4_2 p157 q157
                                      obtain rfl : ad153 = ad157 := (by injection e157)
                                      replace hx157_0 := (HB.out.cell (World.block_lt_of_cell? w _ hx157_0)).trans hx157_0
                                      have HR157_0 := Aside0.mk hi157_0
                                      have HC157_0 := Aside0.mk hl157_0
                                      clear hi157_0 hl157_0
                                      replace p157 := eq_true p157
                                      replace q157 := eq_true q157
                                      have p158 : 0 ≤ (x4_2 : Int) := of_decide_eq_true (by first | (with_reducible assumption) | assumption)
                                      have q158 : x4_2 < (l0_0.length : Int) := of_decide_eq_true (by first | (with_reducible assumption) | assumption)
                                      obtain ⟨ad158, A158_0, c158_0, e158, hx158_0, hl158_0, hi158_0⟩ := at_L2 HR0_0.out x4_2 p158 q158
                                      obtain rfl : ad153 = ad158 := (by injection e158)
                                      replace hx158_0 := (HB.out.cell (World.block_lt_of_cell? w _ hx158_0)).trans hx158_0
                                      have HR158_0 := Aside0.mk hi158_0
                                      have HC158_0 := Aside0.mk hl158_0
                                      clear hi158_0 hl158_0
                                      replace p158 := eq_true p158
                                      replace q158 := eq_true q158
                                      have ea_ := Option.some.inj (hx157_0.symm.trans hx158_0)
                                      injection ea_ with ea_ en_ ec_
                                      subst ea_
                                      subst ec_
                                      clear en_
                                      have p159 : 0 ≤ (x5_4 : Int) := of_decide_eq_true (by first | (with_reducible assumption) | assumption)
                                      have q159 : x5_4 < ((rd_L2 l0_0 x4_2).length : Int) := of_decide_eq_true (by first | (with_reducible assumption) | assumption)
                                      obtain ⟨ad159, A159_0, c159_0, e159, hx159_0, hl159_0, hi159_0⟩ := at_L1 HR158_0.out x5_4 p159 q159
                                      cases e159
                                      replace hx159_0 := (HB.out.cell (World.block_lt_of_cell? w _ hx159_0)).trans hx159_0
                                      have HR159_0 := Aside0.mk hi159_0
                                      have HC159_0 := Aside0.mk hl159_0
                                      clear hi159_0 hl159_0
                                      replace p159 := eq_true p159
                                      replace q159 := eq_true q159
                                      go_wp2
                                      go_ret
                                      exact ⟨by first | rfl | (simp [errW_none, errW_some] <;> rfl) | (simp [*, errW_none, errW_some] <;> rfl), by repeat (first | (with_reducible first | exact HB.out | apply below_alloc | apply pw_below_drewN | apply below_drew1 | refine below_set ?_ GE151.out) | exact HB.out)⟩
                                  · rw [if_neg c25] at H
                                    exact absurd H (by simp)
                                · rw [if_neg c24] at H
                                  have c24b0 : decide (x5_4 < ((rd_L2 l0_0 x4_2).length : Int)) = false := decide_eq_false c24
                                  clear c24
                                  have H' := Aside0.mk H
                                  clear H
                                  have hcz32_0 : wr.cell? ⟨gb151, 0, none⟩ = some (.slice (some ad153) l0_0.length c0_0) := (blk_cell BK151.out 0).trans rfl
                                  have hfz32_0 := blk_frozen BK151.out 0
                                  have p157 : 0 ≤ (x4_2 : Int) := of_decide_eq_true (by first | (with_reducible assumption) | assumption)
                                  have q157 : x4_2 < (l0_0.length : Int) := of_decide_eq_true (by first | (with_reducible assumption) | assumption)
                                  obtain ⟨ad157, A157_0, c157_0, e157, hx157_0, hl157_0, hi157_0⟩ := at_L2 HR0_0.out x4_2 p157 q157
                                  obtain rfl : ad153 = ad157 := (by injection e157)
                                  replace hx157_0 := (HB.out.cell (World.block_lt_of_cell? w _ hx157_0)).trans hx157_0
                                  have HR157_0 := Aside0.mk hi157_0
                                  have HC157_0 := Aside0.mk hl157_0
                                  clear hi157_0 hl157_0
                                  replace p157 := eq_true p157
                                  replace q157 := eq_true q157
                                  go_wp2
                                  go_roundg k4
                                  case measure => have := HJ1.out; have := HK2.out; have := HJ14.out; have := HK4.out; omega
                                  case rel => exact ⟨(wrap64 (x4_2 + 1)), (by first | rfl | (simp; done) | (simp [*]; done)), H', ⟨by have := HJ1.out; have := HK2.out; have := HJ14.out; have := HK4.out; omega⟩, ⟨by (with_reducible repeat (first | refine blk_drewN ?_ _ | refine blk_drew ?_ | refine blk_alloc ?_ _)); exact BK151.out⟩, ⟨by repeat (first | (with_reducible first | exact HB.out | apply below_alloc | apply pw_below_drewN | apply below_drew1 | refine below_set ?_ GE151.out) | exact HB.out)⟩⟩
                              · rw [if_neg c23] at H
                                exact absurd H (by simp)
                            · rw [if_neg c22] at H
                              exact absurd H (by simp)
                · rw [if_neg c14] at H
                  have c14b0 : decide (x4_2 < (l0_0.length : Int)) = false := decide_eq_false c14
                  clear c14
                  by_cases c33 : ((rd_L1 (rd_L2 l0_0 0) 0).length : Int) < 1
                  · rw [if_pos c33] at H
                    have c33b0 : decide (((rd_L1 (rd_L2 l0_0 0) 0).length : Int) < 1) = true := decide_eq_true c33
                    have c33b1 : decide ((rd_L1 (rd_L2 l0_0 0) 0).length < 1) = true := decide_eq_true (by omega)
                    clear c33
                    obtain rfl := Option.some.inj H
                    have hcz34_0 : wr.cell? ⟨gb151, 0, none⟩ = some (.slice (some ad153) l0_0.length c0_0) := (blk_cell BK151.out 0).trans rfl
                    have hfz34_0 := blk_frozen BK151.out 0
                    go_wp2
                    go_ret
                    exact ⟨by first | rfl | (simp [errW_none, errW_some] <;> rfl) | (simp [*, errW_none, errW_some] <;> rfl), by repeat (first | (with_reducible first | exact HB.out | apply below_alloc | apply pw_below_drewN | apply below_drew1 | refine below_set ?_ GE151.out) | exact HB.out)⟩
                  · rw [if_neg c33] at H
                    have c33b0 : decide (((rd_L1 (rd_L2 l0_0 0) 0).length : Int) < 1) = false := decide_eq_false c33
                    have c33b1 : decide ((rd_L1 (rd_L2 l0_0 0) 0).length < 1) = false := decide_eq_false (by omega)
                    clear c33
                    by_cases c35 : ((rd_L1 (rd_L2 l0_0 0) 0).length : Int) > 64
                    · rw [if_pos c35] at H
                      have c35b0 : decide (64 < ((rd_L1 (rd_L2 l0_0 0) 0).length : Int)) = true := decide_eq_true c35
                      have c35b1 : decide (64 < (rd_L1 (rd_L2 l0_0 0) 0).length) = true := decide_eq_true (by omega)
                      clear c35
                      obtain rfl := Option.some.inj H
                      have hcz36_0 : wr.cell? ⟨gb151, 0, none⟩ = some (.slice (some ad153) l0_0.length c0_0) := (blk_cell BK151.out 0).trans rfl
                      have hfz36_0 := blk_frozen BK151.out 0
                      go_wp2
                      go_ret
                      exact ⟨by first | rfl | (simp [errW_none, errW_some] <;> rfl) | (simp [*, errW_none, errW_some] <;> rfl), by repeat (first | (with_reducible first | exact HB.out | apply below_alloc | apply pw_below_drewN | apply below_drew1 | refine below_set ?_ GE151.out) | exact HB.out)⟩
                    · rw [if_neg c35] at H
                      have c35b0 : decide (64 < ((rd_L1 (rd_L2 l0_0 0) 0).length : Int)) = false := decide_eq_false c35
                      have c35b1 : decide (64 < (rd_L1 (rd_L2 l0_0 0) 0).length) = false := decide_eq_false (by omega)
                      clear c35
                      by_cases c37 : (wrap64 ((l0_0.length : Int) * ((rd_L1 (rd_L2 l0_0 0) 0).length : Int))) > 64
                      · rw [if_pos c37] at H
                        have c37b0 : decide (64 < (wrap64 ((l0_0.length : Int) * ((rd_L1 (rd_L2 l0_0 0) 0).length : Int)))) = true := decide_eq_true c37
                        clear c37
                        obtain rfl := Option.some.inj H
                        have hcz38_0 : wr.cell? ⟨gb151, 0, none⟩ = some (.slice (some ad153) l0_0.length c0_0) := (blk_cell BK151.out 0).trans rfl
                        have hfz38_0 := blk_frozen BK151.out 0
                        go_wp2
                        go_ret
                        exact ⟨by first | rfl | (simp [errW_none, errW_some] <;> rfl) | (simp [*, errW_none, errW_some] <;> rfl), by repeat (first | (with_reducible first | exact HB.out | apply below_alloc | apply pw_below_drewN | apply below_drew1 | refine below_set ?_ GE151.out) | exact HB.out)⟩
                      · rw [if_neg c37] at H
                        have c37b0 : decide (64 < (wrap64 ((l0_0.length : Int) * ((rd_L1 (rd_L2 l0_0 0) 0).length : Int)))) = false := decide_eq_false c37
                        clear c37
                        obtain rfl := Option.some.inj H
                        have hcz39_0 : wr.cell? ⟨gb151, 0, none⟩ = some (.slice (some ad153) l0_0.length c0_0) := (blk_cell BK151.out 0).trans rfl
                        have hfz39_0 := blk_frozen BK151.out 0
                        go_wp2
                        go_ret
                        exact ⟨by first | rfl | (simp [errW_none, errW_some] <;> rfl) | (simp [*, errW_none, errW_some] <;> rfl), by repeat (first | (with_reducible first | exact HB.out | apply below_alloc | apply pw_below_drewN | apply below_drew1 | refine below_set ?_ GE151.out) | exact HB.out)⟩
          · rw [if_neg c12] at H
            exact absurd H (by simp)
        · rw [if_neg c11] at H
          exact absurd H (by simp)

end Go.Proofs.Ytlnilonlaedafaa.P
