/- The check sum: by the table and bit by bit it is one; a text with one byte turned has another. The hash: both are one. -/
import Derived.Test.YtbckkllhobcgjaaQBits
import Derived.Test.YtbckkllhobcgjaaPx1
import Derived.Test.YtbckkllhobcgjaaPx3
import Derived.Test.YtbckkllhobcgjaaPx3
import Derived.Test.YtbckkllhobcgjaaPx3
namespace Go.Proofs.Ytbckkllhobcgjaa.P
open Go.RowKit Go.Proofs.YtbckkllhobcgjaaW.PrintWords Go.Proofs.YtbckkllhobcgjaaW.PrintLast
open Go.Proofs.Ytbckkllhobcgjaa.Q
/-- One bit's step, on whole numbers from 0 on. -/
def crcBit (c : Nat) : Nat := (c / 2) ^^^ (if c % 2 = 1 then 3988292384 else 0)
def crcBits : Nat → Nat → Nat
  | 0, c => c
  | n + 1, c => crcBit (crcBits n c)
theorem crcBit_lt {c : Nat} (h : c < 2 ^ 32) : crcBit c < 2 ^ 32 := by
  unfold crcBit
  refine Nat.xor_lt_two_pow (by omega) ?_
  split <;> decide
theorem crcBits_lt {c : Nat} (h : c < 2 ^ 32) (n : Nat) : crcBits n c < 2 ^ 32 := by
  induction n with
  | zero => exact h
  | succ n ih => exact crcBit_lt ih
theorem and_one_u32 (c : Nat) (h : c < 2 ^ 32) : bits .and .u32 (c : Int) 1 = ((c % 2 : Nat) : Int) := by
  have := (bits_nat .u32 32 (by decide) wraps_u32 c 1 h (by decide)).1
  rw [Nat.and_one_is_mod] at this
  exact this
theorem step_nat (c : Nat) (h : c < 2 ^ 32) : num_Sum.step (c : Int) = (crcBit c : Int) := by
  unfold num_Sum.step crcBit
  rw [and_one_u32 c h]
  have e : ((c : Int) / 2) = ((c / 2 : Nat) : Int) := by simp
  rcases Nat.mod_two_eq_zero_or_one c with h0 | h0
  · rw [h0, e, if_neg (by decide)]
    exact xor_u32 (c / 2) 0 (by omega) (by decide)
  · rw [h0, e, if_pos rfl]
    exact xor_u32 (c / 2) 3988292384 (by omega) (by decide)
theorem steps_nat (n : Nat) (c : Nat) (h : c < 2 ^ 32) : num_Sum.steps n (c : Int) = (crcBits n c : Int) := by
  induction n with
  | zero => rfl
  | succ n ih =>
    simp only [num_Sum.steps, crcBits]
    rw [ih, step_nat _ (crcBits_lt h n)]
/-! linear -/
theorem xor_mod_two (a b : Nat) : (a ^^^ b) % 2 = (a % 2 + b % 2) % 2 := by
  have h := Nat.xor_mod_two_pow (a := a) (b := b) (n := 1)
  simp only [Nat.pow_one] at h
  rw [h]
  rcases Nat.mod_two_eq_zero_or_one a with h0 | h0 <;> rcases Nat.mod_two_eq_zero_or_one b with h1 | h1 <;> rw [h0, h1] <;> decide
theorem crcBit_xor (a b : Nat) : crcBit (a ^^^ b) = crcBit a ^^^ crcBit b := by
  unfold crcBit
  rw [Nat.xor_div_two, xor_mod_two]
  rcases Nat.mod_two_eq_zero_or_one a with h0 | h0 <;> rcases Nat.mod_two_eq_zero_or_one b with h1 | h1 <;> rw [h0, h1]
  · simp
  · simp [Nat.xor_assoc]
  · simp only [Nat.add_zero, Nat.mod_succ, if_true, Nat.zero_ne_one, if_false, Nat.xor_zero]
    rw [Nat.xor_assoc, Nat.xor_comm (b / 2), ← Nat.xor_assoc]
  · simp only [Nat.reduceAdd, Nat.mod_self, Nat.zero_ne_one, if_false, if_true, Nat.xor_zero]
    rw [Nat.xor_assoc (a / 2), Nat.xor_comm (b / 2) 3988292384, ← Nat.xor_assoc 3988292384, Nat.xor_self, Nat.zero_xor]
theorem crcBits_xor (n a b : Nat) : crcBits n (a ^^^ b) = crcBits n a ^^^ crcBits n b := by
  induction n with
  | zero => rfl
  | succ n ih => simp only [crcBits]; rw [ih, crcBit_xor]
theorem crcBit_even (m : Nat) : crcBit (2 * m) = m := by
  unfold crcBit
  rw [if_neg (by omega), Nat.xor_zero]; omega
theorem crcBits_high (n m : Nat) : crcBits n (2 ^ n * m) = m := by
  induction n generalizing m with
  | zero => simp [crcBits]
  | succ n ih =>
    simp only [crcBits]
    rw [Nat.pow_succ, Nat.mul_assoc, ih, crcBit_even]
/-! one to one -/
theorem crcBit_inj {a b : Nat} (ha : a < 2 ^ 32) (hb : b < 2 ^ 32) (h : crcBit a = crcBit b) : a = b := by
  have top : ∀ c : Nat, c < 2 ^ 32 → crcBit c / 2 ^ 31 = c % 2 := by
    intro c hc
    unfold crcBit
    rw [Nat.xor_div_two_pow]
    have : c / 2 / 2 ^ 31 = 0 := by omega
    rw [this, Nat.zero_xor]
    rcases Nat.mod_two_eq_zero_or_one c with h0 | h0 <;> rw [h0] <;> decide
  have hp : a % 2 = b % 2 := by rw [← top a ha, ← top b hb, h]
  unfold crcBit at h
  rw [hp] at h
  have := xor_left_inj h
  omega
theorem crcBits_inj (n : Nat) {a b : Nat} (ha : a < 2 ^ 32) (hb : b < 2 ^ 32) (h : crcBits n a = crcBits n b) : a = b := by
  induction n with
  | zero => exact h
  | succ n ih => exact ih (crcBit_inj (crcBits_lt ha n) (crcBits_lt hb n) h)
/-! one byte more -/
def crcByte (c x : Nat) : Nat := crcBits 8 (c ^^^ x)
theorem crcByte_lt {c x : Nat} (hc : c < 2 ^ 32) (hx : x < 256) : crcByte c x < 2 ^ 32 := crcBits_lt (Nat.xor_lt_two_pow hc (by omega)) 8
theorem xor_low (c x : Nat) : c ^^^ x = ((c % 256) ^^^ x) ^^^ (2 ^ 8 * (c / 256)) := by
  have hlow : c = (c % 256) ^^^ (2 ^ 8 * (c / 256)) := by
    have h1 : 2 ^ 8 * (c / 256) + c % 256 = 2 ^ 8 * (c / 256) ||| c % 256 := Nat.two_pow_add_eq_or_of_lt (by omega) _
    have h2 : 2 ^ 8 * (c / 256) &&& c % 256 = 0 := by
      apply Nat.eq_of_testBit_eq
      intro i
      rw [Nat.testBit_and, Nat.zero_testBit]
      by_cases hi : i < 8
      · have : (2 ^ 8 * (c / 256)).testBit i = false := by rw [Nat.testBit_two_pow_mul]; simp; omega
        rw [this]; rfl
      · have : (c % 256).testBit i = false := Nat.testBit_lt_two_pow (Nat.lt_of_lt_of_le (by omega : c % 256 < 2 ^ 8) (Nat.pow_le_pow_right (by omega) (by omega)))
        rw [this, Bool.and_false]
    have h3 : (2 ^ 8 * (c / 256)) ^^^ (c % 256) = (2 ^ 8 * (c / 256)) ||| (c % 256) := by
      apply Nat.eq_of_testBit_eq
      intro i
      have := congrArg (fun n => n.testBit i) h2
      simp only [Nat.testBit_and, Nat.zero_testBit] at this
      rw [Nat.testBit_xor, Nat.testBit_or]
      revert this
      cases (2 ^ 8 * (c / 256)).testBit i <;> cases (c % 256).testBit i <;> simp
    rw [Nat.xor_comm, h3, ← h1]; omega
  calc c ^^^ x = ((c % 256) ^^^ (2 ^ 8 * (c / 256))) ^^^ x := by rw [← hlow]
    _ = _ := by rw [Nat.xor_assoc, Nat.xor_comm (2 ^ 8 * (c / 256)) x, ← Nat.xor_assoc]
theorem tab_at (i : Nat) (h : i < 256) : rd (num_Sum.tab 256) (i : Int) = (crcBits 8 i : Int) := by
  unfold rd num_Sum.tab
  rw [Int.toNat_natCast, List.getD_eq_getElem?_getD, List.getElem?_map, List.getElem?_range h]
  simp only [Option.map_some, Option.getD_some]
  rw [if_pos h]
  exact steps_nat 8 i (by omega)
theorem upd_nat (c x : Nat) (hc : c < 2 ^ 32) (hx : x < 256) : num_Sum.upd (c : Int) (x : Int) = (crcByte c x : Int) := by
  unfold num_Sum.upd num_Sum.at crcByte
  have e1 : ((c : Int) % 256) = ((c % 256 : Nat) : Int) := by simp
  have e2 : ((c : Int) / 256) = ((c / 256 : Nat) : Int) := by simp
  have hl : (c % 256) ^^^ x < 2 ^ 8 := Nat.xor_lt_two_pow (by omega) (by omega)
  have key : crcBits 8 (c ^^^ x) = crcBits 8 ((c % 256) ^^^ x) ^^^ (c / 256) := by rw [xor_low c x, crcBits_xor, crcBits_high]
  rw [e1, e2, xor_u8 _ _ (by omega) (by omega), tab_at _ (by omega), xor_u32 _ _ (crcBits_lt (by omega) 8) (by omega), key]
def crcFold : Nat → ByteArray → Nat
  | 0, _ => 4294967295
  | j + 1, s => crcByte (crcFold j s) (bt s (j : Int)).toNat
theorem bt_nat (s : ByteArray) (i : Int) : bt s i = ((bt s i).toNat : Int) ∧ (bt s i).toNat < 256 := by have := bt_range s i; omega
theorem crcFold_lt (j : Nat) (s : ByteArray) : crcFold j s < 2 ^ 32 := by
  induction j with
  | zero => show 4294967295 < 2 ^ 32; decide
  | succ j ih => exact crcByte_lt ih (bt_nat s j).2
theorem fold_nat (j : Nat) (s : ByteArray) : num_Sum.fold j s = (crcFold j s : Int) := by
  induction j with
  | zero => rfl
  | succ j ih =>
    simp only [num_Sum.fold, crcFold]
    have h := upd_nat _ _ (crcFold_lt j s) (bt_nat s j).2
    rw [← (bt_nat s j).1] at h
    rw [ih, h]
theorem last_nat (c : Nat) (hc : c < 2 ^ 32) : num_Sum.last (c : Int) = ((4294967295 ^^^ c : Nat) : Int) := by
  unfold num_Sum.last
  exact xor_u32 4294967295 c (by decide) hc
theorem num_Sum_some (s : ByteArray) (hs : s.size ≤ 140737488351232) : num_Sum.f s = some ((4294967295 ^^^ crcFold s.size s : Nat) : Int) := by
  unfold num_Sum.f
  rw [if_pos hs, fold_nat, last_nat _ (crcFold_lt _ _)]
/-! the document's, bit by bit -/
theorem crcBits_succ (d c : Nat) : crcBits (d + 1) c = crcBits d (crcBit c) := by
  induction d with
  | zero => rfl
  | succ d ih => rw [crcBits, ih]; rfl
theorem ref_bits (s : ByteArray) (hs : s.size ≤ 140737488351232) (i : Nat) (hi : i < s.size) : ∀ (d m : Nat) (c : Nat), c < 2 ^ 32 → m + d = 8 → ∀ k r, lodestarref01_Sum.l0 k s (crcBits d c : Int) ((i : Int) + 1) = some r → lodestarref01_Sum.l1 (k + d + 1) s (c : Int) (i : Int) (m : Int) = some r := by
  intro d
  induction d with
  | zero =>
    intro m c hc hm k r h
    simp only [lodestarref01_Sum.l1]
    rw [if_neg (by omega), w64 (by omega) (by omega)]
    exact h
  | succ d ih =>
    intro m c hc hm k r h
    rw [show k + (d + 1) + 1 = (k + d + 1) + 1 from by omega]
    simp only [lodestarref01_Sum.l1]
    have hw : wrap64 ((m : Int) + 1) = ((m + 1 : Nat) : Int) := by rw [w64 (by omega) (by omega)]; simp
    have e2 : (Int.tdiv (c : Int) 2) % 4294967296 = ((c / 2 : Nat) : Int) := by
      rw [Int.tdiv_eq_ediv_of_nonneg (by omega)]; omega
    have e1 : Int.tmod (c : Int) 2 = ((c % 2 : Nat) : Int) := by rw [Int.tmod_eq_emod_of_nonneg (by omega)]; simp
    have hstep := crcBits_succ d c
    rw [hstep] at h
    rw [if_pos (by omega), hw, e1, e2]
    have hb := ih (m + 1) (crcBit c) (crcBit_lt hc) (by omega) k r h
    rcases Nat.mod_two_eq_zero_or_one c with h0 | h0
    · rw [h0, if_neg (by decide)]
      have : crcBit c = c / 2 := by unfold crcBit; rw [if_neg (by omega), Nat.xor_zero]
      rw [this] at hb; exact hb
    · rw [h0, if_pos (by decide)]
      have : bits .xor .u32 ((c / 2 : Nat) : Int) 3988292384 = (crcBit c : Int) := by
        unfold crcBit; rw [if_pos h0]
        exact xor_u32 (c / 2) 3988292384 (by omega) (by decide)
      rw [this]; exact hb
theorem ref_Sum_loop (s : ByteArray) (hs : s.size ≤ 140737488351232) : ∀ (d i : Nat), i + d = s.size → lodestarref01_Sum.l0 (10 * d + 1) s (crcFold i s : Int) (i : Int) = some ((4294967295 ^^^ crcFold s.size s : Nat) : Int) := by
  intro d
  induction d with
  | zero =>
    intro i hi
    have : i = s.size := by omega
    subst this
    simp only [lodestarref01_Sum.l0]
    rw [if_neg (by omega)]
    have := xor_u32 (crcFold s.size s) 4294967295 (crcFold_lt _ _) (by decide)
    rw [Nat.xor_comm] at this
    exact congrArg some this
  | succ d ih =>
    intro i hi
    rw [show 10 * (d + 1) + 1 = (10 * d + 1 + 8 + 1) + 1 from by omega]
    simp only [lodestarref01_Sum.l0]
    rw [if_pos (by omega), if_pos (by omega)]
    have hb := bt_nat s i
    have e : bt s (i : Int) % 4294967296 = ((bt s (i : Int)).toNat : Int) := by omega
    rw [e, xor_u32 _ _ (crcFold_lt i s) (by omega)]
    refine ref_bits s hs i (by omega) 8 0 _ (Nat.xor_lt_two_pow (crcFold_lt i s) (by omega)) (by omega) (10 * d + 1) _ ?_
    have := ih (i + 1) (by omega)
    simpa [crcFold, crcByte] using this
theorem ref_Sum_some (s : ByteArray) (hs : s.size ≤ 140737488351232) (k : Nat) (hk : 10 * s.size + 1 ≤ k) : lodestarref01_Sum.f k s = some ((4294967295 ^^^ crcFold s.size s : Nat) : Int) := by
  unfold lodestarref01_Sum.f
  exact at_rounds (g := fun k => lodestarref01_Sum.l0 k s 4294967295 0) (fun k => (lodestarref01_Sum.mono_l k).1 s 4294967295 0) hk (ref_Sum_loop s hs s.size 0 (by omega))
/-! a byte that is turned -/
theorem crcFold_same (s t : ByteArray) (j : Nat) (h : ∀ i, i < j → bt s (i : Nat) = bt t (i : Nat)) : crcFold j s = crcFold j t := by
  induction j with
  | zero => rfl
  | succ j ih =>
    simp only [crcFold]
    rw [ih (fun i hi => h i (by omega)), h j (by omega)]
theorem crcByte_inj_left {a b x : Nat} (ha : a < 2 ^ 32) (hb : b < 2 ^ 32) (hx : x < 256) (h : crcByte a x = crcByte b x) : a = b :=
  xor_left_inj (crcBits_inj 8 (Nat.xor_lt_two_pow ha (by omega)) (Nat.xor_lt_two_pow hb (by omega)) h)
theorem crcByte_inj_right {a x y : Nat} (ha : a < 2 ^ 32) (hx : x < 256) (hy : y < 256) (h : crcByte a x = crcByte a y) : x = y :=
  xor_right_inj (crcBits_inj 8 (Nat.xor_lt_two_pow ha (by omega)) (Nat.xor_lt_two_pow ha (by omega)) h)
theorem crcFold_unlike (s t : ByteArray) (p : Nat) (hp : bt s (p : Nat) ≠ bt t (p : Nat)) (h : ∀ i : Nat, i ≠ p → bt s (i : Nat) = bt t (i : Nat)) : ∀ d, crcFold (p + 1 + d) s ≠ crcFold (p + 1 + d) t := by
  intro d
  induction d with
  | zero =>
    intro e
    simp only [crcFold] at e
    rw [crcFold_same s t p (fun i hi => h i (by omega))] at e
    have := crcByte_inj_right (crcFold_lt p t) (bt_nat s p).2 (bt_nat t p).2 e
    have h1 := (bt_nat s p).1
    have h2 := (bt_nat t p).1
    apply hp
    rw [h1, h2, this]
  | succ d ih =>
    intro e
    rw [show p + 1 + (d + 1) = (p + 1 + d) + 1 from by omega] at e
    simp only [crcFold] at e
    rw [h (p + 1 + d) (by omega)] at e
    exact ih (crcByte_inj_left (crcFold_lt _ s) (crcFold_lt _ t) (bt_nat t _).2 e)
/-! the hash -/
theorem ref_Hash_loop (s : ByteArray) (hs : s.size ≤ 140737488351232) : ∀ (d i : Nat), i + d = s.size → lodestarref01_Hash.l0 (d + 1) s (num_Hash.fold i s) (i : Int) = some (wrap64 (num_Hash.fold s.size s / 4096)) := by
  intro d
  induction d with
  | zero =>
    intro i hi
    have : i = s.size := by omega
    subst this
    simp only [lodestarref01_Hash.l0]
    rw [if_neg (by omega)]
    have hu := num_Hash.fold_u64 s.size s
    rw [Int.tdiv_eq_ediv_of_nonneg hu.1, wu64]
    congr 2; omega
  | succ d ih =>
    intro i hi
    rw [lodestarref01_Hash.l0]
    rw [if_pos (by omega), if_pos (by omega)]
    have hb := bt_range s i
    have e : IntKind.u64.wrap (bt s (i : Int)) = bt s (i : Int) := by rw [wu64]; omega
    have := ih (i + 1) (by omega)
    rw [e, w64 (by omega) (by omega)]
    simpa [num_Hash.fold] using this
theorem Hash_some (s : ByteArray) (hs : s.size ≤ 140737488351232) : ∃ h, num_Hash.f s = some h ∧ (∀ k, s.size + 1 ≤ k → lodestarref01_Hash.f k s = some h) ∧ 0 ≤ h := by
  refine ⟨wrap64 (num_Hash.fold s.size s / 4096), by unfold num_Hash.f; rw [if_pos hs], fun k hk => ?_, ?_⟩
  · unfold lodestarref01_Hash.f
    exact at_rounds (g := fun k => lodestarref01_Hash.l0 k s 14695981039346656037 0) (fun k => lodestarref01_Hash.mono_l k s 14695981039346656037 0) hk (ref_Hash_loop s hs s.size 0 (by omega))
  · have := num_Hash.fold_u64 s.size s
    unfold wrap64; omega
end Go.Proofs.Ytbckkllhobcgjaa.P
