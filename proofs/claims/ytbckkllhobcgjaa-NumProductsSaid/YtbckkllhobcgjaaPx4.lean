-- Written by hp.py, a program of this seat, which calls the kit's printer; contracts proved by hand stand among the printed ones. Lean checks it.
import Derived.Test.YtbckkllhobcgjaaPx0
namespace Go.Proofs.Ytbckkllhobcgjaa.P
open Go.RowKit Go.Proofs.YtbckkllhobcgjaaW.PrintWords Go.Proofs.YtbckkllhobcgjaaW.PrintLast Go.Proofs.YtbckkllhobcgjaaW.PrintMore
attribute [local go_sem] max2_int min2_int max_two min_two max_three min_three max_four min_four   -- for this text's walks alone
set_option linter.unusedVariables false
set_option linter.unusedSimpArgs false

/-! ### num_Sum: function 19, by hand: an array of 256 numbers is filled, then read -/
def num_Sum.arr (l : List Int) : Array Value := (l.map fun x => Value.int .u32 x).toArray
def num_Sum.step (c : Int) : Int := bits BinOp.xor IntKind.u32 (c / 2) (3988292384 * bits BinOp.and IntKind.u32 c 1 % 4294967296)
def num_Sum.steps : Nat → Int → Int
  | 0, c => c
  | n + 1, c => num_Sum.step (num_Sum.steps n c)
def num_Sum.entry (j : Nat) : Int := num_Sum.steps 8 (j : Int)
def num_Sum.tab (k : Nat) : List Int := (List.range 256).map fun j => if j < k then num_Sum.entry j else 0
def num_Sum.at (c x : Int) : Int := bits BinOp.xor IntKind.u8 (c % 256) x
def num_Sum.upd (c x : Int) : Int := bits BinOp.xor IntKind.u32 (rd (num_Sum.tab 256) (num_Sum.at c x)) (c / 256)
def num_Sum.fold : Nat → ByteArray → Int
  | 0, _ => 4294967295
  | j + 1, s => num_Sum.upd (num_Sum.fold j s) (bt s (j : Int))
def num_Sum.last (c : Int) : Int := bits BinOp.xor IntKind.u32 IntKind.u32.max c
def num_Sum.f (a0 : ByteArray) : Option (Int) := if a0.size ≤ 140737488351232 then some (num_Sum.last (num_Sum.fold a0.size a0)) else none
theorem num_Sum.zero : ∀ w, (zeroValue 66).run Try.prog w = .ok (.agg (num_Sum.arr (num_Sum.tab 0))) w := fun w => by kernel_rfl
theorem num_Sum.tab_len (k : Nat) : (num_Sum.tab k).length = 256 := by simp [num_Sum.tab]
theorem num_Sum.arr_get (l : List Int) (i : Nat) (h : i < l.length) : (num_Sum.arr l)[i]? = some (.int .u32 (l.getD i 0)) := by
  simp [num_Sum.arr, List.getD_eq_getElem?_getD, List.getElem?_eq_getElem h]
theorem num_Sum.steps_u32 (n : Nat) (c : Int) (h : 0 ≤ c ∧ c ≤ 4294967295) : 0 ≤ num_Sum.steps n c ∧ num_Sum.steps n c ≤ 4294967295 := by
  cases n with
  | zero => exact h
  | succ n => unfold num_Sum.steps num_Sum.step; exact bounds_u32 (wf_bits _ _ _ _)
theorem num_Sum.fold_u32 (n : Nat) (s : ByteArray) : 0 ≤ num_Sum.fold n s ∧ num_Sum.fold n s ≤ 4294967295 := by
  cases n with
  | zero => unfold num_Sum.fold; decide
  | succ n => unfold num_Sum.fold num_Sum.upd; exact bounds_u32 (wf_bits _ _ _ _)
theorem num_Sum.at_u8 (c x : Int) : 0 ≤ num_Sum.at c x ∧ num_Sum.at c x ≤ 255 := bounds_u8 (wf_bits _ _ _ _)
theorem num_Sum.tab_set (k : Nat) (hk : k < 256) : (num_Sum.arr (num_Sum.tab k)).setIfInBounds k (.int .u32 (num_Sum.steps 8 (k : Int))) = num_Sum.arr (num_Sum.tab (k + 1)) := by
  apply Array.ext_getElem?
  intro i
  by_cases hi : i < 256
  · rw [num_Sum.arr_get _ _ (by rw [num_Sum.tab_len]; exact hi), Array.getElem?_setIfInBounds]
    by_cases e : k = i
    · subst e
      simp [num_Sum.arr, num_Sum.tab, num_Sum.entry, hk]
    · rw [if_neg e, num_Sum.arr_get _ _ (by rw [num_Sum.tab_len]; exact hi)]
      have e1 : (i < k + 1) = (i < k) := by simp; omega
      simp [num_Sum.tab, hi, e1]
  · rw [Array.getElem?_eq_none (by simp [num_Sum.arr, num_Sum.tab_len]; omega), Array.getElem?_eq_none (by simp [num_Sum.arr, num_Sum.tab_len]; omega)]
set_option maxHeartbeats 1000000 in
set_option maxRecDepth 100000 in
theorem num_Sum.calls (a0 : ByteArray) (r : Int) (w : World) (h : num_Sum.f a0 = some r) :
    Calls Try.prog 19 #[.string a0] w fun e w' => e = .returned (.int .u32 r) ∧ Below w.heap.size w w' := by
  have hs : a0.size ≤ 140737488351232 := by
    unfold num_Sum.f at h; split at h
    · assumption
    · exact absurd h (by simp)
  have hr : num_Sum.last (num_Sum.fold a0.size a0) = r := by
    unfold num_Sum.f at h; rw [if_pos hs] at h; exact Option.some.inj h
  clear h
  have HR := Aside0.mk hr
  clear hr
  have hz := num_Sum.zero
  go_enter Try.func19, Try.ntmps19
  go_wp2
  clear hz
  go_loopw [9] (fun i wr => ∃ k : Nat, k ≤ 256 ∧ i = .int .i64 k ∧ wr.heap[w.heap.size]? = some (.cells (num_Sum.arr (num_Sum.tab k)) 66 (0, 0)) ∧ Below w.heap.size w wr) (fun i _ => 256 - (intOf i).toNat)
  case atStart => exact ⟨0, by omega, rfl, heap_alloc_new w _, (Below.refl _ _).alloc (Nat.le_refl _) _⟩
  case round =>
    obtain ⟨k, hk, rfl, hb, hbel⟩ := hrel
    have HB := Aside0.mk hb
    clear hb
    by_cases hlt : k < 256
    · have hlt' : ((k : Int) < 256) := by omega
      have hc := blk_cell HB.out k
      rw [num_Sum.arr_get _ _ (by rw [num_Sum.tab_len]; exact hlt)] at hc
      have hf := blk_frozen HB.out k
      go_wp2
      go_loopw [5, 14] (fun c m wr2 => ∃ j : Nat, j ≤ 8 ∧ m = .int .i64 j ∧ c = .int .u32 (num_Sum.steps j (k : Int)) ∧ wr2 = wr) (fun _ m _ => 8 - (intOf m).toNat)
      case atStart => exact ⟨0, by omega, rfl, rfl, rfl⟩
      case round =>
        obtain ⟨j, hj, rfl, rfl, rfl⟩ := hrel
        have hcu := num_Sum.steps_u32 j (k : Int) (by omega)
        by_cases hlj : j < 8
        · go_wp2
          go_roundw
          case rel => exact ⟨j + 1, by omega, by go_num, rfl, trivial⟩
          case measure => simp [intOf]; omega
        · obtain rfl : j = 8 := by omega
          go_wp2
          go_roundw
          case rel => exact ⟨k + 1, by omega, by go_num, by rw [← num_Sum.tab_set k hlt]; exact blk_set HB.out k _, hbel.setCell (Nat.le_refl _) _⟩
          case measure => simp [intOf]; omega
    · obtain rfl : k = 256 := by omega
      have hbel2 : Below w.heap.size w (Lib.bytesWorld wr 5 a0) := bytes_below hbel hbel.size 5 a0
      have hrd := bytes_reads wr 5 a0 (by omega)
      have hbl : (Lib.bytesWorld wr 5 a0).heap[w.heap.size]? = some (.cells (num_Sum.arr (num_Sum.tab 256)) 66 (0, 0)) := (Lib.bytesWorld_at_old wr 5 a0 _ (blk_lt HB.out)).trans HB.out
      have HBL := Aside0.mk hbl
      have HRD := Aside0.mk hrd
      clear hbl hrd HB hbel
      have hcv := print_bytes (P := Try.prog) 9 36 5 Try.underlying9 Try.underlying36 Try.underlying5 a0 wr
      go_wp2
      clear hcv
      obtain ⟨wb, hwb⟩ : ∃ W, W = Lib.bytesWorld wr 5 a0 := ⟨_, rfl⟩
      rw [← hwb] at hbel2 HBL HRD ⊢
      clear hwb
      go_loopw [6, 30] (fun c i wr2 => ∃ j : Nat, j ≤ a0.size ∧ i = .int .i64 j ∧ c = .int .u32 (num_Sum.fold j a0) ∧ wr2 = wb) (fun _ i _ => a0.size - (intOf i).toNat)
      case atStart => exact ⟨0, by omega, rfl, rfl, rfl⟩
      case round =>
        obtain ⟨j, hj, rfl, rfl, rfl⟩ := hrel
        have hcu := num_Sum.fold_u32 j a0
        by_cases hlj : j < a0.size
        · obtain ⟨ad, ead, hcell⟩ := HRD.out.at_ (j : Int) (by omega) (by omega)
          cases ead
          have hbr := bt_range a0 j
          rw [rd_bytesOf, add_plain, Int.toNat_natCast] at hcell
          obtain ⟨hi0, hi1⟩ := num_Sum.at_u8 (num_Sum.fold j a0) (bt a0 j)
          have hcell2 := blk_cell HBL.out (num_Sum.at (num_Sum.fold j a0) (bt a0 j)).toNat
          rw [num_Sum.arr_get _ _ (by rw [num_Sum.tab_len]; omega)] at hcell2
          unfold num_Sum.at at hi0 hi1 hcell2
          go_wp2
          go_roundw
          case rel => exact ⟨j + 1, by omega, by go_num, rfl, trivial⟩
          case measure => simp [intOf]; omega
        · obtain rfl : j = a0.size := by omega
          go_wp2
          go_ret
          exact ⟨by rw [← HR.out]; rfl, hbel2⟩

end Go.Proofs.Ytbckkllhobcgjaa.P
