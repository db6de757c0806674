-- Written by hp.py, a program of this seat, which calls the kit's printer; contracts proved by hand stand among the printed ones. Lean checks it.
import Derived.Test.YtbckkllhobcgjaaPx0
import Derived.Test.YtbckkllhobcgjaaPx1
import Derived.Test.YtbckkllhobcgjaaPx2
namespace Go.Proofs.Ytbckkllhobcgjaa.P
open Go.RowKit Go.Proofs.YtbckkllhobcgjaaW.PrintWords Go.Proofs.YtbckkllhobcgjaaW.PrintLast Go.Proofs.YtbckkllhobcgjaaW.PrintMore
attribute [local go_sem] max2_int min2_int max_two min_two max_three min_three max_four min_four   -- for this text's walks alone
set_option linter.unusedVariables false
set_option linter.unusedSimpArgs false

/-! ### lodestarref01_Sum: function 20 -/
mutual
def lodestarref01_Sum.l0 : Nat → ByteArray → Int → Int → Option (Int)
  | 0, _, _, _ => none
  | k + 1, x0, x3, x4 => if x4 < (x0.size : Int) then (if 0 ≤ x4 then (lodestarref01_Sum.l1 k x0 (Go.bits .xor .u32 x3 ((bt x0 x4) % 4294967296)) x4 0) else (none)) else (some (Go.bits .xor .u32 x3 4294967295))
def lodestarref01_Sum.l1 : Nat → ByteArray → Int → Int → Int → Option (Int)
  | 0, _, _, _, _ => none
  | k + 1, x0, x3, x4, x5 => if x5 < 8 then (if (Int.tmod x3 2) = 1 then (lodestarref01_Sum.l1 k x0 (Go.bits .xor .u32 ((Int.tdiv x3 2) % 4294967296) 3988292384) x4 (wrap64 (x5 + 1))) else (lodestarref01_Sum.l1 k x0 ((Int.tdiv x3 2) % 4294967296) x4 (wrap64 (x5 + 1)))) else (lodestarref01_Sum.l0 k x0 x3 (wrap64 (x4 + 1)))
end
def lodestarref01_Sum.f (k : Nat) (a0 : ByteArray) : Option (Int) := lodestarref01_Sum.l0 k a0 4294967295 0
theorem lodestarref01_Sum.mono_l : ∀ k, (∀ y0 y1 y2, LeO (lodestarref01_Sum.l0 k y0 y1 y2) (lodestarref01_Sum.l0 (k + 1) y0 y1 y2)) ∧ (∀ y0 y1 y2 y3, LeO (lodestarref01_Sum.l1 k y0 y1 y2 y3) (lodestarref01_Sum.l1 (k + 1) y0 y1 y2 y3))
  | 0 => ⟨fun _ _ _ r h => by simp [lodestarref01_Sum.l0] at h, fun _ _ _ _ r h => by simp [lodestarref01_Sum.l1] at h⟩
  | k + 1 => by
    obtain ⟨ih0, ih1⟩ := lodestarref01_Sum.mono_l k
    refine ⟨?_, ?_⟩
    · intro y0 y1 y2
      unfold lodestarref01_Sum.l0
      repeat' first
      | (with_reducible exact ih0 _ _ _)
      | (with_reducible exact ih1 _ _ _ _)
      | (with_reducible exact LeO.refl _)
      | (with_reducible exact LeO.none _)
      | (with_reducible refine LeO.ite ?_ ?_)
      | (with_reducible refine LeO.bind ?_ (fun _ => ?_))
      | exact ih0 _ _ _
      | exact ih1 _ _ _ _
      | exact LeO.none _
      | refine LeO.ite ?_ ?_
      | refine LeO.bind ?_ (fun _ => ?_)
    · intro y0 y1 y2 y3
      unfold lodestarref01_Sum.l1
      repeat' first
      | (with_reducible exact ih0 _ _ _)
      | (with_reducible exact ih1 _ _ _ _)
      | (with_reducible exact LeO.refl _)
      | (with_reducible exact LeO.none _)
      | (with_reducible refine LeO.ite ?_ ?_)
      | (with_reducible refine LeO.bind ?_ (fun _ => ?_))
      | exact ih0 _ _ _
      | exact ih1 _ _ _ _
      | exact LeO.none _
      | refine LeO.ite ?_ ?_
      | refine LeO.bind ?_ (fun _ => ?_)
theorem lodestarref01_Sum.mono : ∀ a0 k, LeO (lodestarref01_Sum.f k a0) (lodestarref01_Sum.f (k + 1) a0) := by
  intro a0 k
  obtain ⟨ih0, ih1⟩ := lodestarref01_Sum.mono_l k
  unfold lodestarref01_Sum.f
  repeat' first
      | (with_reducible exact ih0 _ _ _)
      | (with_reducible exact ih1 _ _ _ _)
      | (with_reducible exact LeO.refl _)
      | (with_reducible exact LeO.none _)
      | (with_reducible refine LeO.ite ?_ ?_)
      | (with_reducible refine LeO.bind ?_ (fun _ => ?_))
      | exact ih0 _ _ _
      | exact ih1 _ _ _ _
      | exact LeO.none _
      | refine LeO.ite ?_ ?_
      | refine LeO.bind ?_ (fun _ => ?_)
set_option maxHeartbeats 8000000 in
set_option maxRecDepth 100000 in
theorem lodestarref01_Sum.calls (k : Nat) (a0 : ByteArray) (r : Int) (w : World) (h : lodestarref01_Sum.f k a0 = some r) :
    Calls Try.prog 20 #[.string a0] w fun e w' => e = .returned (.int .u32 r) ∧ Drawn0 w w' := by
  have H : (lodestarref01_Sum.l0 k a0 4294967295 0) = some r := h
  clear h
  have H' := Aside0.mk H
  clear H
  go_enter Try.func20, Try.ntmps20
  go_wp2
  go_loopg [3, 4] k (fun kq v3 v4 w' => ∃ (x3_1 : Int) (x4_1 : Int), v3 = .int .u32 x3_1 ∧ v4 = .int .i64 x4_1 ∧ Aside0 (lodestarref01_Sum.l0 kq a0 x3_1 x4_1 = some r) ∧ Aside0 (kq ≤ k) ∧ Drawn0 w w')
  case atStart => exact ⟨(4294967295), (0), (by first | rfl | (simp; done) | (simp [*]; done)), (by first | rfl | (simp; done) | (simp [*]; done)), H', ⟨Nat.le_refl _⟩, by repeat (first | exact Drawn0.refl _ | apply Drawn0.step)⟩
  case round =>
    clear H'
    obtain ⟨x3_1, x4_1, rfl, rfl, HA, HK1, ⟨m1, rfl⟩⟩ := hrel
    cases gk with
    | zero => exact absurd HA.out (by simp [lodestarref01_Sum.l0])
    | succ k1 =>
      have H := HA.out
      clear HA
      simp only [lodestarref01_Sum.l0] at H
      by_cases c2 : x4_1 < (a0.size : Int)
      · rw [if_pos c2] at H
        have c2b0 : decide (x4_1 < (a0.size : Int)) = true := decide_eq_true c2
        clear c2
        by_cases c3 : 0 ≤ x4_1
        · rw [if_pos c3] at H
          have c3b0 : decide (0 ≤ x4_1) = true := decide_eq_true c3
          clear c3
          have H' := Aside0.mk H
          clear H
          have p4 : 0 ≤ (x4_1 : Int) := of_decide_eq_true (by first | (with_reducible assumption) | assumption)
          have q4 : x4_1 < (a0.size : Int) := of_decide_eq_true (by first | (with_reducible assumption) | assumption)
          have hx4 := bt_at a0 x4_1
          replace p4 := eq_true p4
          replace q4 := eq_true q4
          go_wp2
          go_loopg [3, 5] k1 (fun kq v3 v5 w' => ∃ (x3_2 : Int) (x5_2 : Int), v3 = .int .u32 x3_2 ∧ v5 = .int .i64 x5_2 ∧ Aside0 (lodestarref01_Sum.l1 kq a0 x3_2 x4_1 x5_2 = some r) ∧ Aside0 (kq ≤ k1) ∧ Drawn0 w w')
          case atStart => exact ⟨(Go.bits .xor .u32 x3_1 ((bt a0 x4_1) % 4294967296)), (0), (by first | rfl | (simp; done) | (simp [*]; done)), (by first | rfl | (simp; done) | (simp [*]; done)), H', ⟨Nat.le_refl _⟩, by repeat (first | exact Drawn0.refl _ | apply Drawn0.step)⟩
          case round =>
            clear H'
            try clear c2
            try clear c2b0
            try clear p2
            try clear c3
            try clear c3b0
            try clear p4
            try clear q4
            try clear hx4
            try clear p4
            try clear q4
            obtain ⟨x3_2, x5_2, rfl, rfl, HA, HK2, ⟨m2, rfl⟩⟩ := hrel
            cases gk with
            | zero => exact absurd HA.out (by simp [lodestarref01_Sum.l1])
            | succ k2 =>
              have H := HA.out
              clear HA
              simp only [lodestarref01_Sum.l1] at H
              by_cases c5 : x5_2 < 8
              · rw [if_pos c5] at H
                have c5b0 : decide (x5_2 < 8) = true := decide_eq_true c5
                clear c5
                by_cases c6 : (Int.tmod x3_2 2) = 1
                · rw [if_pos c6] at H
                  have c6b0 : ((Int.tmod x3_2 2) == 1) = true := beq_iff_eq.mpr c6
                  have c6b1 : ((Int.tmod x3_2 2) != 1) = false := bne_eq_false_iff_eq.mpr c6
                  clear c6
                  have H' := Aside0.mk H
                  clear H
                  go_wp2
                  go_roundg k2
                  case measure => have := HK1.out; have := HK2.out; omega
                  case rel => exact ⟨(Go.bits .xor .u32 ((Int.tdiv x3_2 2) % 4294967296) 3988292384), (wrap64 (x5_2 + 1)), (by first | rfl | (simp; done) | (simp [*]; done)), (by first | rfl | (simp; done) | (simp [*]; done)), H', ⟨by have := HK1.out; have := HK2.out; omega⟩, by repeat (first | exact Drawn0.refl _ | apply Drawn0.step)⟩
                · rw [if_neg c6] at H
                  have c6b0 : ((Int.tmod x3_2 2) == 1) = false := beq_eq_false_iff_ne.mpr c6
                  have c6b1 : ((Int.tmod x3_2 2) != 1) = true := bne_iff_ne.mpr c6
                  have H' := Aside0.mk H
                  clear H
                  go_wp2
                  go_roundg k2
                  case measure => have := HK1.out; have := HK2.out; omega
                  case rel => exact ⟨((Int.tdiv x3_2 2) % 4294967296), (wrap64 (x5_2 + 1)), (by first | rfl | (simp; done) | (simp [*]; done)), (by first | rfl | (simp; done) | (simp [*]; done)), H', ⟨by have := HK1.out; have := HK2.out; omega⟩, by repeat (first | exact Drawn0.refl _ | apply Drawn0.step)⟩
              · rw [if_neg c5] at H
                have c5b0 : decide (x5_2 < 8) = false := decide_eq_false c5
                clear c5
                have H' := Aside0.mk H
                clear H
                go_wp2
                go_roundg k2
                case measure => have := HK1.out; have := HK2.out; omega
                case rel => exact ⟨(x3_2), (wrap64 (x4_1 + 1)), (by first | rfl | (simp; done) | (simp [*]; done)), (by first | rfl | (simp; done) | (simp [*]; done)), H', ⟨by have := HK1.out; have := HK2.out; omega⟩, by repeat (first | exact Drawn0.refl _ | apply Drawn0.step)⟩
        · rw [if_neg c3] at H
          exact absurd H (by simp)
      · rw [if_neg c2] at H
        have c2b0 : decide (x4_1 < (a0.size : Int)) = false := decide_eq_false c2
        clear c2
        obtain rfl := Option.some.inj H
        go_wp2
        go_ret
        exact ⟨by first | rfl | (simp; done) | (simp [*]; done), by repeat (first | exact Drawn0.refl _ | apply Drawn0.step)⟩

/-! ### num_Hash: function 21, by hand: it ranges over the bytes of a string -/
def num_Hash.fold : Nat → ByteArray → Int
  | 0, _ => 14695981039346656037
  | j + 1, s => IntKind.u64.wrap (bits BinOp.xor IntKind.u64 (num_Hash.fold j s) (bt s (j : Int)) * 1099511628211)
def num_Hash.f (a0 : ByteArray) : Option (Int) := if a0.size ≤ 140737488351232 then some (wrap64 (num_Hash.fold a0.size a0 / 4096)) else none
theorem num_Hash.fold_u64 (n : Nat) (s : ByteArray) : 0 ≤ num_Hash.fold n s ∧ num_Hash.fold n s ≤ 18446744073709551615 := by
  cases n with
  | zero => unfold num_Hash.fold; decide
  | succ n => unfold num_Hash.fold; exact bounds_u64 (wf_wrap _ _)
set_option maxHeartbeats 1000000 in
set_option maxRecDepth 100000 in
theorem num_Hash.calls (a0 : ByteArray) (r : Int) (w : World) (h : num_Hash.f a0 = some r) :
    Calls Try.prog 21 #[.string a0] w fun e w' => e = .returned (.int .i64 r) ∧ Below w.heap.size w w' := by
  have hs : a0.size ≤ 140737488351232 := by
    unfold num_Hash.f at h; split at h
    · assumption
    · exact absurd h (by simp)
  have hr : wrap64 (num_Hash.fold a0.size a0 / 4096) = r := by
    unfold num_Hash.f at h; rw [if_pos hs] at h; exact Option.some.inj h
  clear h
  have HR := Aside0.mk hr
  clear hr
  have hbel2 : Below w.heap.size w (Lib.bytesWorld w 5 a0) := bytes_below (Below.refl _ _) (Nat.le_refl _) 5 a0
  have hrd := bytes_reads w 5 a0 (by omega)
  have HRD := Aside0.mk hrd
  clear hrd
  have hcv := print_bytes (P := Try.prog) 9 36 5 Try.underlying9 Try.underlying36 Try.underlying5 a0 w
  go_enter Try.func21, Try.ntmps21
  go_wp2
  clear hcv
  obtain ⟨wb, hwb⟩ : ∃ W, W = Lib.bytesWorld w 5 a0 := ⟨_, rfl⟩
  rw [← hwb] at hbel2 HRD ⊢
  clear hwb
  go_loopw [3, 9] (fun c i wr2 => ∃ j : Nat, j ≤ a0.size ∧ i = .int .i64 j ∧ c = .int .u64 (num_Hash.fold j a0) ∧ wr2 = wb) (fun _ i _ => a0.size - (intOf i).toNat)
  case atStart => exact ⟨0, by omega, rfl, rfl, rfl⟩
  case round =>
    obtain ⟨j, hj, rfl, rfl, rfl⟩ := hrel
    by_cases hlj : j < a0.size
    · obtain ⟨ad, ead, hcell⟩ := HRD.out.at_ (j : Int) (by omega) (by omega)
      cases ead
      have hbr := bt_range a0 j
      rw [rd_bytesOf, add_plain, Int.toNat_natCast] at hcell
      go_wp2
      go_roundw
      case rel => exact ⟨j + 1, by omega, by go_num, rfl, trivial⟩
      case measure => simp [intOf]; omega
    · obtain rfl : j = a0.size := by omega
      go_wp2
      go_ret
      exact ⟨by rw [← HR.out]; rfl, hbel2⟩

/-! ### lodestarref01_Hash: function 22 -/
def lodestarref01_Hash.l0 : Nat → ByteArray → Int → Int → Option (Int)
  | 0, _, _, _ => none
  | k + 1, x0, x3, x4 => if x4 < (x0.size : Int) then (if 0 ≤ x4 then (lodestarref01_Hash.l0 k x0 (IntKind.u64.wrap ((Go.bits .xor .u64 x3 (IntKind.u64.wrap (bt x0 x4))) * 1099511628211)) (wrap64 (x4 + 1))) else (none)) else (some (wrap64 (IntKind.u64.wrap (Int.tdiv x3 4096))))
def lodestarref01_Hash.f (k : Nat) (a0 : ByteArray) : Option (Int) := lodestarref01_Hash.l0 k a0 14695981039346656037 0
theorem lodestarref01_Hash.mono_l : ∀ k, (∀ y0 y1 y2, LeO (lodestarref01_Hash.l0 k y0 y1 y2) (lodestarref01_Hash.l0 (k + 1) y0 y1 y2))
  | 0 => fun _ _ _ r h => by simp [lodestarref01_Hash.l0] at h
  | k + 1 => by
    have ih0 := lodestarref01_Hash.mono_l k
    · intro y0 y1 y2
      unfold lodestarref01_Hash.l0
      repeat' first
      | (with_reducible exact ih0 _ _ _)
      | (with_reducible exact LeO.refl _)
      | (with_reducible exact LeO.none _)
      | (with_reducible refine LeO.ite ?_ ?_)
      | (with_reducible refine LeO.bind ?_ (fun _ => ?_))
      | exact ih0 _ _ _
      | exact LeO.none _
      | refine LeO.ite ?_ ?_
      | refine LeO.bind ?_ (fun _ => ?_)
theorem lodestarref01_Hash.mono : ∀ a0 k, LeO (lodestarref01_Hash.f k a0) (lodestarref01_Hash.f (k + 1) a0) := by
  intro a0 k
  have ih0 := lodestarref01_Hash.mono_l k
  unfold lodestarref01_Hash.f
  repeat' first
      | (with_reducible exact ih0 _ _ _)
      | (with_reducible exact LeO.refl _)
      | (with_reducible exact LeO.none _)
      | (with_reducible refine LeO.ite ?_ ?_)
      | (with_reducible refine LeO.bind ?_ (fun _ => ?_))
      | exact ih0 _ _ _
      | exact LeO.none _
      | refine LeO.ite ?_ ?_
      | refine LeO.bind ?_ (fun _ => ?_)
set_option maxHeartbeats 8000000 in
set_option maxRecDepth 100000 in
theorem lodestarref01_Hash.calls (k : Nat) (a0 : ByteArray) (r : Int) (w : World) (h : lodestarref01_Hash.f k a0 = some r) :
    Calls Try.prog 22 #[.string a0] w fun e w' => e = .returned (.int .i64 r) ∧ Drawn0 w w' := by
  have H : (lodestarref01_Hash.l0 k a0 14695981039346656037 0) = some r := h
  clear h
  have H' := Aside0.mk H
  clear H
  go_enter Try.func22, Try.ntmps22
  go_wp2
  go_loopg [3, 4] k (fun kq v3 v4 w' => ∃ (x3_1 : Int) (x4_1 : Int), v3 = .int .u64 x3_1 ∧ v4 = .int .i64 x4_1 ∧ Aside0 (lodestarref01_Hash.l0 kq a0 x3_1 x4_1 = some r) ∧ Aside0 (kq ≤ k) ∧ Drawn0 w w')
  case atStart => exact ⟨(14695981039346656037), (0), (by first | rfl | (simp; done) | (simp [*]; done)), (by first | rfl | (simp; done) | (simp [*]; done)), H', ⟨Nat.le_refl _⟩, by repeat (first | exact Drawn0.refl _ | apply Drawn0.step)⟩
  case round =>
    clear H'
    obtain ⟨x3_1, x4_1, rfl, rfl, HA, HK1, ⟨m1, rfl⟩⟩ := hrel
    cases gk with
    | zero => exact absurd HA.out (by simp [lodestarref01_Hash.l0])
    | succ k1 =>
      have H := HA.out
      clear HA
      simp only [lodestarref01_Hash.l0] at H
      by_cases c2 : x4_1 < (a0.size : Int)
      · rw [if_pos c2] at H
        have c2b0 : decide (x4_1 < (a0.size : Int)) = true := decide_eq_true c2
        clear c2
        by_cases c3 : 0 ≤ x4_1
        · rw [if_pos c3] at H
          have c3b0 : decide (0 ≤ x4_1) = true := decide_eq_true c3
          clear c3
          have H' := Aside0.mk H
          clear H
          have p4 : 0 ≤ (x4_1 : Int) := of_decide_eq_true (by first | (with_reducible assumption) | assumption)
          have q4 : x4_1 < (a0.size : Int) := of_decide_eq_true (by first | (with_reducible assumption) | assumption)
          have hx4 := bt_at a0 x4_1
          replace p4 := eq_true p4
          replace q4 := eq_true q4
          go_wp2
          go_roundg k1
          case measure => have := HK1.out; omega
          case rel => exact ⟨(IntKind.u64.wrap ((Go.bits .xor .u64 x3_1 (IntKind.u64.wrap (bt a0 x4_1))) * 1099511628211)), (wrap64 (x4_1 + 1)), (by first | rfl | (simp; done) | (simp [*]; done)), (by first | rfl | (simp; done) | (simp [*]; done)), H', ⟨by have := HK1.out; omega⟩, by repeat (first | exact Drawn0.refl _ | apply Drawn0.step)⟩
        · rw [if_neg c3] at H
          exact absurd H (by simp)
      · rw [if_neg c2] at H
        have c2b0 : decide (x4_1 < (a0.size : Int)) = false := decide_eq_false c2
        clear c2
        obtain rfl := Option.some.inj H
        go_wp2
        go_ret
        exact ⟨by first | rfl | (simp; done) | (simp [*]; done), by repeat (first | exact Drawn0.refl _ | apply Drawn0.step)⟩

/-! ### lodestarlaw01_NumSums: function 6, by hand: it writes into the bytes of a string -/
def lodestarlaw01_NumSums.place (a0 : ByteArray) (a1 : Int) : Int := Int.tmod (wrap64 (Int.tmod a1 (a0.size : Int) + (a0.size : Int))) (a0.size : Int)
def lodestarlaw01_NumSums.turned (a0 : ByteArray) (a1 a2 : Int) : ByteArray := strOfNums ((bytesOf a0).set (lodestarlaw01_NumSums.place a0 a1).toNat (bits .xor .u8 (bt a0 (lodestarlaw01_NumSums.place a0 a1)) a2))
def lodestarlaw01_NumSums.Pure : Prop := ∀ (a0 : ByteArray) (a1 : Int) (a2 : Int), a0.size ≤ 140737488351232 → (Lit.int .i64 a1).wf = true → (Lit.int .u8 a2).wf = true → ∃ k t h, num_Sum.f a0 = some t ∧ lodestarref01_Sum.f k a0 = some t ∧ num_Hash.f a0 = some h ∧ lodestarref01_Hash.f k a0 = some h ∧ lodestarlaw01_awake.f k = some true ∧ 0 ≤ h ∧ (0 < a0.size → a2 ≠ 0 → ∃ t2, num_Sum.f (lodestarlaw01_NumSums.turned a0 a1 a2) = some t2 ∧ t2 ≠ t)
theorem lodestarlaw01_NumSums.place_in (a0 : ByteArray) (a1 : Int) (h : 0 < a0.size) (hs : a0.size ≤ 140737488351232) : 0 ≤ lodestarlaw01_NumSums.place a0 a1 ∧ lodestarlaw01_NumSums.place a0 a1 < (a0.size : Int) := by
  unfold lodestarlaw01_NumSums.place
  have h1 : -(a0.size : Int) < Int.tmod a1 (a0.size : Int) := by
    have := Int.lt_tmod_of_pos a1 (b := (a0.size : Int)) (by omega); omega
  have h2 : Int.tmod a1 (a0.size : Int) < (a0.size : Int) := Int.tmod_lt_of_pos _ (by omega)
  have h3 : wrap64 (Int.tmod a1 (a0.size : Int) + (a0.size : Int)) = Int.tmod a1 (a0.size : Int) + (a0.size : Int) := by unfold wrap64; omega
  rw [h3]
  exact ⟨Int.tmod_nonneg _ (by omega), Int.tmod_lt_of_pos _ (by omega)⟩
theorem lodestarlaw01_NumSums.reads_set {W : World} {g n : Nat} {xs : List Int} (h : ReadsInt W .u8 (some ⟨g, 0, none⟩) n xs) (i : Nat) (hi : i < n) (x : Int) : ReadsInt (W.setCell ⟨g, i, none⟩ (.int .u8 x)) .u8 (some ⟨g, 0, none⟩) n (xs.set i x) := by
  refine ⟨by simpa using h.1, h.2.1, fun h0 => ⟨_, rfl, fun j hj => ?_⟩⟩
  obtain ⟨ad, e, hc⟩ := h.2.2 h0
  cases e
  have hj' := hc j hj
  rw [add_plain] at hj' ⊢
  by_cases e : i = j
  · subst e
    have hl := h.1
    rw [World.cell?_setCell_same (h := hj')]
    simp [List.getD_eq_getElem?_getD, List.getElem?_set_self (show i < xs.length by omega)]
  · rw [World.cell?_setCell_other (h := by intro h; apply e; injection h), hj']
    simp [List.getD_eq_getElem?_getD, List.getElem?_set_ne e]
set_option maxHeartbeats 2000000 in
set_option maxRecDepth 100000 in
theorem lodestarlaw01_NumSums.walk (P : lodestarlaw01_NumSums.Pure) (a0 : ByteArray) (a1 : Int) (a2 : Int) (w : World) (w0 : a0.size ≤ 140737488351232) (w1 : (Lit.int .i64 a1).wf = true) (w2 : (Lit.int .u8 a2).wf = true) :
    Calls Try.prog 6 #[.string a0, .int .i64 a1, .int .u8 a2] w fun e w' => e = .returned (.bool true) ∧ Below w.heap.size w w' := by
  obtain ⟨k, t, h, e1, e2, e3, e4, e5, h0, e6⟩ := P a0 a1 a2 w0 w1 w2
  have E1 := Aside0.mk e1
  have E2 := Aside0.mk e2
  have E3 := Aside0.mk e3
  have E4 := Aside0.mk e4
  have E5 := Aside0.mk e5
  have E6 := Aside0.mk e6
  have W2 := Aside0.mk w2
  clear P e1 e2 e3 e4 e5 e6 w1 w2
  go_enter Try.func6, Try.ntmps6
  go_wp2_with fail
  refine (num_Sum.calls a0 t _ E1.out).mono ?_
  rintro e w1 ⟨rfl, hb⟩
  have B1 := Aside0.mk hb
  clear hb
  go_wp2_with fail
  refine (lodestarref01_Sum.calls k a0 t _ E2.out).mono ?_
  rintro e w' ⟨rfl, ⟨n1, rfl⟩⟩
  go_wp2_with fail
  refine (num_Hash.calls a0 h _ E3.out).mono ?_
  rintro e w2 ⟨rfl, hb⟩
  have B2 := Aside0.mk (below_then (pw_below_drewN B1.out n1) (pw_below_drewN B1.out n1).size hb)
  clear hb B1
  go_wp2_with fail
  refine (lodestarref01_Hash.calls k a0 h _ E4.out).mono ?_
  rintro e w' ⟨rfl, ⟨n2, rfl⟩⟩
  go_wp2_with fail
  refine (lodestarlaw01_awake.calls k true _ E5.out).mono ?_
  rintro e w3 ⟨rfl, hb⟩
  have B3 := Aside0.mk (below_then (pw_below_drewN B2.out n2) (pw_below_drewN B2.out n2).size hb)
  clear hb B2
  have hcv := print_bytes (P := Try.prog) 9 36 5 Try.underlying9 Try.underlying36 Try.underlying5 a0 w3
  by_cases hs : a0.size = 0
  · have hl : a0.toList = [] := by rw [ByteArray.toList_eq, Array.toList_eq_nil_iff]; exact Array.eq_empty_of_size_eq_zero hs
    have hl1 : a0.toList.isEmpty = true := by rw [hl]; rfl
    clear hs hcv
    go_wp2_with fail
    go_ret
    exact ⟨rfl, B3.out⟩
  · have hne : ¬ a0.toList = [] := by rw [ByteArray.toList_eq, Array.toList_eq_nil_iff]; intro h; apply hs; simp [ByteArray.size, h]
    have hl1 : a0.toList.isEmpty = false := by simpa using hne
    by_cases ha : a2 = 0
    · have ha1 : (a2 == 0) = true := by simpa using ha
      clear hcv hs ha
      go_wp2_with fail
      go_ret
      exact ⟨rfl, B3.out⟩
    · have ha1 : (a2 == 0) = false := by simpa using ha
      have hp : 0 < a0.size := by omega
      obtain ⟨t2, f1, f2⟩ := E6.out hp ha
      have F1 := Aside0.mk f1
      have F2 := Aside0.mk f2
      clear f1 f2 ha hs
      obtain ⟨i0, i1⟩ := lodestarlaw01_NumSums.place_in a0 a1 hp w0
      have hrd := bytes_reads w3 5 a0 (by omega)
      obtain ⟨ad, ead, hcell⟩ := hrd.at_ (lodestarlaw01_NumSums.place a0 a1) i0 i1
      cases ead
      rw [rd_bytesOf, add_plain] at hcell
      have hfr : (Lib.bytesWorld w3 5 a0).frozen? ⟨w3.heap.size, (lodestarlaw01_NumSums.place a0 a1).toNat, none⟩ = false := by
        have hsz : a0.size ≤ (Lib.bytesCells w3 5 a0).size := by
          have e : (a0.data.map fun b => Value.int .u8 b.toNat).size = a0.size := Array.size_map ..
          unfold Lib.bytesCells; rw [Array.size_append, e]; omega
        simp only [World.frozen?, Lib.bytesWorld_at_new]
        simp; omega
      have hb2 := bt_range a0 (lodestarlaw01_NumSums.place a0 a1)
      have ha2 := bounds_u8 W2.out
      have hset := lodestarlaw01_NumSums.reads_set hrd (lodestarlaw01_NumSums.place a0 a1).toNat (by omega) (bits .xor .u8 (bt a0 (lodestarlaw01_NumSums.place a0 a1)) a2)
      have hcs := string_of_reads (P := Try.prog) (c := grownCap w3 a0.size 0 5) Try.underlying36 Try.underlying5 Try.underlying9 hset
      have B4 := Aside0.mk ((bytes_below B3.out B3.out.size 5 a0).setCell (p := ⟨w3.heap.size, (lodestarlaw01_NumSums.place a0 a1).toNat, none⟩) B3.out.size (.int .u8 (bits .xor .u8 (bt a0 (lodestarlaw01_NumSums.place a0 a1)) a2)))
      clear hset hrd
      unfold lodestarlaw01_NumSums.turned at F1
      unfold lodestarlaw01_NumSums.place at i0 i1 hcell hfr hb2 hcs F1 B4
      have hne2 : (t2 != t) = true := bne_iff_ne.mpr F2.out
      go_wp2_with fail
      clear hcv hcs hcell hfr
      refine (num_Sum.calls _ t2 _ F1.out).mono ?_
      rintro e w5 ⟨rfl, hb⟩
      have B5 := Aside0.mk (below_then B4.out B4.out.size hb)
      clear hb B4
      go_wp2_with fail
      refine (num_Sum.calls a0 t _ E1.out).mono ?_
      rintro e w6 ⟨rfl, hb⟩
      have B6 := Aside0.mk (below_then B5.out B5.out.size hb)
      clear hb B5
      go_wp2_with fail
      refine (num_Hash.calls a0 h _ E3.out).mono ?_
      rintro e w7 ⟨rfl, hb⟩
      have B7 := Aside0.mk (below_then B6.out B6.out.size hb)
      clear hb B6
      go_wp2_with fail
      go_ret
      exact ⟨rfl, B7.out⟩

/-! ### lodestarref01_Draw: function 23 -/
def lodestarref01_Draw.f (a0 : Int) : Option (Int × Int) := some (Go.bits .xor .u64 (IntKind.u64.wrap ((Go.bits .xor .u64 (IntKind.u64.wrap ((Go.bits .xor .u64 (IntKind.u64.wrap (a0 + 11400714819323198485)) (IntKind.u64.wrap (Int.tdiv (IntKind.u64.wrap (a0 + 11400714819323198485)) 1073741824))) * 13787848793156543929)) (IntKind.u64.wrap (Int.tdiv (IntKind.u64.wrap ((Go.bits .xor .u64 (IntKind.u64.wrap (a0 + 11400714819323198485)) (IntKind.u64.wrap (Int.tdiv (IntKind.u64.wrap (a0 + 11400714819323198485)) 1073741824))) * 13787848793156543929)) 134217728))) * 10723151780598845931)) (IntKind.u64.wrap (Int.tdiv (IntKind.u64.wrap ((Go.bits .xor .u64 (IntKind.u64.wrap ((Go.bits .xor .u64 (IntKind.u64.wrap (a0 + 11400714819323198485)) (IntKind.u64.wrap (Int.tdiv (IntKind.u64.wrap (a0 + 11400714819323198485)) 1073741824))) * 13787848793156543929)) (IntKind.u64.wrap (Int.tdiv (IntKind.u64.wrap ((Go.bits .xor .u64 (IntKind.u64.wrap (a0 + 11400714819323198485)) (IntKind.u64.wrap (Int.tdiv (IntKind.u64.wrap (a0 + 11400714819323198485)) 1073741824))) * 13787848793156543929)) 134217728))) * 10723151780598845931)) 2147483648)), IntKind.u64.wrap (a0 + 11400714819323198485))
set_option maxHeartbeats 8000000 in
set_option maxRecDepth 100000 in
theorem lodestarref01_Draw.calls (a0 : Int) (r1 : Int) (r2 : Int) (w : World) (h : lodestarref01_Draw.f a0 = some (r1, r2)) :
    Calls Try.prog 23 #[.int .u64 a0] w fun e w' => e = .returned (.tuple #[.int .u64 r1, .int .u64 r2]) ∧ Drawn0 w w' := by
  have H : (some (Go.bits .xor .u64 (IntKind.u64.wrap ((Go.bits .xor .u64 (IntKind.u64.wrap ((Go.bits .xor .u64 (IntKind.u64.wrap (a0 + 11400714819323198485)) (IntKind.u64.wrap (Int.tdiv (IntKind.u64.wrap (a0 + 11400714819323198485)) 1073741824))) * 13787848793156543929)) (IntKind.u64.wrap (Int.tdiv (IntKind.u64.wrap ((Go.bits .xor .u64 (IntKind.u64.wrap (a0 + 11400714819323198485)) (IntKind.u64.wrap (Int.tdiv (IntKind.u64.wrap (a0 + 11400714819323198485)) 1073741824))) * 13787848793156543929)) 134217728))) * 10723151780598845931)) (IntKind.u64.wrap (Int.tdiv (IntKind.u64.wrap ((Go.bits .xor .u64 (IntKind.u64.wrap ((Go.bits .xor .u64 (IntKind.u64.wrap (a0 + 11400714819323198485)) (IntKind.u64.wrap (Int.tdiv (IntKind.u64.wrap (a0 + 11400714819323198485)) 1073741824))) * 13787848793156543929)) (IntKind.u64.wrap (Int.tdiv (IntKind.u64.wrap ((Go.bits .xor .u64 (IntKind.u64.wrap (a0 + 11400714819323198485)) (IntKind.u64.wrap (Int.tdiv (IntKind.u64.wrap (a0 + 11400714819323198485)) 1073741824))) * 13787848793156543929)) 134217728))) * 10723151780598845931)) 2147483648)), IntKind.u64.wrap (a0 + 11400714819323198485))) = some (r1, r2) := h
  clear h
  simp only [Option.some.injEq, Prod.mk.injEq] at H
  obtain ⟨rfl, rfl⟩ := H
  go_enter Try.func23, Try.ntmps23
  go_wp2
  go_ret2
  exact ⟨by first | rfl | (simp; done) | (simp [*]; done), by repeat (first | exact Drawn0.refl _ | apply Drawn0.step)⟩

/-! ### num_Below: function 24 -/
def num_Below.f (a0 : Int) (a1 : Int) : Option (Int × Int) := if a1 < 1 then (some (0, a0)) else ((num_Draw.f a0).bind fun bt129 => (if (IntKind.u64.wrap (a1)) = 0 then (none) else (some (wrap64 (Int.tmod bt129.1 (IntKind.u64.wrap (a1))), bt129.2))))
set_option maxHeartbeats 8000000 in
set_option maxRecDepth 100000 in
theorem num_Below.calls (a0 : Int) (a1 : Int) (r1 : Int) (r2 : Int) (w : World) (h : num_Below.f a0 a1 = some (r1, r2)) :
    Calls Try.prog 24 #[.int .u64 a0, .int .i64 a1] w fun e w' => e = .returned (.tuple #[.int .i64 r1, .int .u64 r2]) ∧ Drawn0 w w' := by
  have H : (if a1 < 1 then (some (0, a0)) else ((num_Draw.f a0).bind fun bt129 => (if (IntKind.u64.wrap (a1)) = 0 then (none) else (some (wrap64 (Int.tmod bt129.1 (IntKind.u64.wrap (a1))), bt129.2))))) = some (r1, r2) := h
  clear h
  by_cases c3 : a1 < 1
  · rw [if_pos c3] at H
    have c3b0 : decide (a1 < 1) = true := decide_eq_true c3
    clear c3
    simp only [Option.some.injEq, Prod.mk.injEq] at H
    obtain ⟨rfl, rfl⟩ := H
    go_enter Try.func24, Try.ntmps24
    go_wp2
    go_ret2
    exact ⟨by first | rfl | (simp; done) | (simp [*]; done), by repeat (first | exact Drawn0.refl _ | apply Drawn0.step)⟩
  · rw [if_neg c3] at H
    have c3b0 : decide (a1 < 1) = false := decide_eq_false c3
    clear c3
    replace H := Option.bind_eq_some_iff.mp H
    obtain ⟨⟨t129, t130⟩, A40, H⟩ := H
    replace H : (if (IntKind.u64.wrap (a1)) = 0 then (none) else (some (wrap64 (Int.tmod t129 (IntKind.u64.wrap (a1))), t130))) = some (r1, r2) := H
    have A4 := Aside0.mk A40
    clear A40
    by_cases c5 : (IntKind.u64.wrap (a1)) = 0
    · rw [if_pos c5] at H
      exact absurd H (by simp)
    · rw [if_neg c5] at H
      have c5b0 : ((IntKind.u64.wrap (a1)) == 0) = false := beq_eq_false_iff_ne.mpr c5
      have c5b1 : ((IntKind.u64.wrap (a1)) != 0) = true := bne_iff_ne.mpr c5
      simp only [Option.some.injEq, Prod.mk.injEq] at H
      obtain ⟨rfl, rfl⟩ := H
      go_enter Try.func24, Try.ntmps24
      go_wp2_with (first | ((with_reducible refine gate_callee (f := 18) rfl ?_); refine goesL_ (some 13) rfl rfl Try.func18 (by kernel_rfl) rfl #[.int .u64 a0] rfl (by (try simp only [List.map_toArray, List.map_cons, List.map_nil]); first | done | rfl | (simp only [List.length_drop, List.length_take]; rfl)) ?_; (with_reducible refine (num_Draw.calls a0 t129 t130 _ A4.out).mono ?_); rintro e w' ⟨rfl, ⟨nd, rfl⟩⟩; refine ⟨_, rfl, ?_⟩))
      go_ret2
      exact ⟨by first | rfl | (simp; done) | (simp [*]; done), by repeat (first | exact Drawn0.refl _ | apply Drawn0.step)⟩

/-! ### lodestarref01_Below: function 25 -/
def lodestarref01_Below.f (a0 : Int) (a1 : Int) : Option (Int × Int) := if a1 < 1 then (some (0, a0)) else ((lodestarref01_Draw.f a0).bind fun bt131 => (if (IntKind.u64.wrap (a1)) = 0 then (none) else (some (wrap64 (Int.tmod bt131.1 (IntKind.u64.wrap (a1))), bt131.2))))
set_option maxHeartbeats 8000000 in
set_option maxRecDepth 100000 in
theorem lodestarref01_Below.calls (a0 : Int) (a1 : Int) (r1 : Int) (r2 : Int) (w : World) (h : lodestarref01_Below.f a0 a1 = some (r1, r2)) :
    Calls Try.prog 25 #[.int .u64 a0, .int .i64 a1] w fun e w' => e = .returned (.tuple #[.int .i64 r1, .int .u64 r2]) ∧ Drawn0 w w' := by
  have H : (if a1 < 1 then (some (0, a0)) else ((lodestarref01_Draw.f a0).bind fun bt131 => (if (IntKind.u64.wrap (a1)) = 0 then (none) else (some (wrap64 (Int.tmod bt131.1 (IntKind.u64.wrap (a1))), bt131.2))))) = some (r1, r2) := h
  clear h
  by_cases c3 : a1 < 1
  · rw [if_pos c3] at H
    have c3b0 : decide (a1 < 1) = true := decide_eq_true c3
    clear c3
    simp only [Option.some.injEq, Prod.mk.injEq] at H
    obtain ⟨rfl, rfl⟩ := H
    go_enter Try.func25, Try.ntmps25
    go_wp2
    go_ret2
    exact ⟨by first | rfl | (simp; done) | (simp [*]; done), by repeat (first | exact Drawn0.refl _ | apply Drawn0.step)⟩
  · rw [if_neg c3] at H
    have c3b0 : decide (a1 < 1) = false := decide_eq_false c3
    clear c3
    replace H := Option.bind_eq_some_iff.mp H
    obtain ⟨⟨t131, t132⟩, A40, H⟩ := H
    replace H : (if (IntKind.u64.wrap (a1)) = 0 then (none) else (some (wrap64 (Int.tmod t131 (IntKind.u64.wrap (a1))), t132))) = some (r1, r2) := H
    have A4 := Aside0.mk A40
    clear A40
    by_cases c5 : (IntKind.u64.wrap (a1)) = 0
    · rw [if_pos c5] at H
      exact absurd H (by simp)
    · rw [if_neg c5] at H
      have c5b0 : ((IntKind.u64.wrap (a1)) == 0) = false := beq_eq_false_iff_ne.mpr c5
      have c5b1 : ((IntKind.u64.wrap (a1)) != 0) = true := bne_iff_ne.mpr c5
      simp only [Option.some.injEq, Prod.mk.injEq] at H
      obtain ⟨rfl, rfl⟩ := H
      go_enter Try.func25, Try.ntmps25
      go_wp2_with (first | ((with_reducible refine gate_callee (f := 23) rfl ?_); refine goesL_ (some 13) rfl rfl Try.func23 (by kernel_rfl) rfl #[.int .u64 a0] rfl (by (try simp only [List.map_toArray, List.map_cons, List.map_nil]); first | done | rfl | (simp only [List.length_drop, List.length_take]; rfl)) ?_; (with_reducible refine (lodestarref01_Draw.calls a0 t131 t132 _ A4.out).mono ?_); rintro e w' ⟨rfl, ⟨nd, rfl⟩⟩; refine ⟨_, rfl, ?_⟩))
      go_ret2
      exact ⟨by first | rfl | (simp; done) | (simp [*]; done), by repeat (first | exact Drawn0.refl _ | apply Drawn0.step)⟩

end Go.Proofs.Ytbckkllhobcgjaa.P
