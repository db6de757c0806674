/- lodestarlaw01.NumBytes: the bytes of any number in any width, and the number of any bytes, are those of the document; there and back it is the same. For every uint64, int and text. -/
import Derived.Test.YtbckkllhobcgjaaQBits
import Derived.Test.YtbckkllhobcgjaaQAwake
import Derived.Test.YtbckkllhobcgjaaPx5
namespace Go.Proofs.Ytbckkllhobcgjaa.Pure
open Go.RowKit Go.Proofs.Ytbckkllhobcgjaa.P Go.Proofs.YtbckkllhobcgjaaW.PrintWords Go.Proofs.YtbckkllhobcgjaaW.PrintLast Go.Proofs.YtbckkllhobcgjaaW.PrintMore
open Go.Proofs.Ytbckkllhobcgjaa.Q
/-! the bytes of a number -/
def dig (n : Nat) (i : Nat) : Int := ((n / 256 ^ i % 256 : Nat) : Int)
def digs (n w i : Nat) : List Int := (List.range w).map fun j => if j < i then dig n j else 0
theorem digs_len (n w i : Nat) : (digs n w i).length = w := by simp [digs]
theorem digs_set (n w i : Nat) (hi : i < w) : (digs n w i).set i (dig n i) = digs n w (i + 1) := by
  apply List.ext_getElem?
  intro j
  rw [List.getElem?_set, digs_len]
  by_cases hj : j < w
  · by_cases e : i = j
    · subst e
      simp [digs, hj]
    · have e1 : (j < i + 1) = (j < i) := by simp; omega
      simp [digs, hj, e, e1]
  · rw [List.getElem?_eq_none (by rw [digs_len]; omega), List.getElem?_eq_none (by rw [digs_len]; omega)]
    split
    · omega
    · rfl
theorem pow_bytes (i : Nat) : (2 : Int) ^ (8 * i) = ((256 ^ i : Nat) : Int) := by
  have h : (2 : Nat) ^ (8 * i) = 256 ^ i := Nat.pow_mul 2 8 i
  rw [← h]; simp
theorem shr_dig (n i : Nat) (hi : i < 8) : shr .u64 (n : Int) (wrap64 (8 * (i : Int))) % 256 = dig n i := by
  have e : wrap64 (8 * (i : Int)) = ((8 * i : Nat) : Int) := by rw [w64 (by omega) (by omega)]; simp
  unfold shr dig
  have e2 : min (8 * i) IntKind.u64.bits = 8 * i := Nat.min_eq_left (by simp [IntKind.bits]; omega)
  rw [e, Int.toNat_natCast, e2, pow_bytes]
  simp
theorem num_Fix_loop (n w : Nat) (hw : w ≤ 8) : ∀ (d i : Nat), i + d = w → ∀ k, d < k → num_Fix.l0 k (n : Int) (digs n w i) (w : Int) (i : Int) = some (strOfNums (digs n w w), 0) := by
  intro d
  induction d with
  | zero =>
    intro i hi k hk
    obtain ⟨k, rfl⟩ : ∃ j, k = j + 1 := ⟨k - 1, by omega⟩
    obtain rfl : i = w := by omega
    simp only [num_Fix.l0]
    rw [if_neg (by omega)]
  | succ d ih =>
    intro i hi k hk
    obtain ⟨k, rfl⟩ : ∃ j, k = j + 1 := ⟨k - 1, by omega⟩
    simp only [num_Fix.l0]
    have e : wrap64 (8 * (i : Int)) = 8 * (i : Int) := w64 (by omega) (by omega)
    rw [if_pos (by omega), if_pos (by rw [e]; omega), if_pos (by omega), if_pos (by rw [digs_len]; omega), shr_dig n i (by omega), Int.toNat_natCast, digs_set n w i (by omega), w64 (n := (i : Int) + 1) (by omega) (by omega)]
    exact ih (i + 1) (by omega) k (by omega)
theorem digs_zero (n w : Nat) : digs n w 0 = List.replicate w 0 := by
  apply List.ext_getElem (by simp [digs])
  intro j h1 h2
  simp [digs]
/-- What both tell. -/
def fixed (n : Nat) (w : Int) : ByteArray × Int := if w < 1 ∨ w > 8 ∨ n / 256 ^ w.toNat ≠ 0 then (⟨#[]⟩, 11) else (strOfNums (digs n w.toNat w.toNat), 0)
theorem num_Fix_some (n : Nat) (w : Int) (hn : n < 2 ^ 64) (k : Nat) (hk : 12 ≤ k) : num_Fix.f k (n : Int) w = some (fixed n w) := by
  obtain ⟨k, rfl⟩ : ∃ j, k = j + 1 := ⟨k - 1, by omega⟩
  have hbad : num_Fix.j0 (k + 1) (n : Int) w true = some (⟨#[]⟩, 11) := by simp only [num_Fix.j0]; rw [if_pos trivial]
  unfold num_Fix.f fixed
  by_cases h1 : w < 1
  · rw [if_pos h1, if_pos (.inl h1), hbad]
  rw [if_neg h1]
  by_cases h2 : w > 8
  · rw [if_pos h2, if_pos (.inr (.inl h2)), hbad]
  rw [if_neg h2]
  obtain ⟨v, rfl⟩ := Int.eq_ofNat_of_zero_le (by omega : 0 ≤ w)
  have hgood : num_Fix.j0 (k + 1) (n : Int) (v : Int) false = some (strOfNums (digs n v v), 0) := by
    simp only [num_Fix.j0]
    rw [if_neg (by simp), if_pos (by omega), if_pos (by rw [Int.toNat_natCast]; omega)]
    simp only [Option.bind_some, Int.toNat_natCast, List.length_replicate]
    rw [← digs_zero n]
    exact num_Fix_loop n v (by omega) v 0 (by omega) k (by omega)
  rw [Int.toNat_natCast]
  have e : wrap64 (8 * (v : Int)) = ((8 * v : Nat) : Int) := by rw [w64 (by omega) (by omega)]; simp
  by_cases h3 : (v : Int) < 8
  · rw [if_pos h3, if_pos (by rw [e]; omega)]
    have es : shr .u64 (n : Int) (wrap64 (8 * (v : Int))) = ((n / 256 ^ v : Nat) : Int) := by
      unfold shr
      have e2 : min (8 * v) IntKind.u64.bits = 8 * v := Nat.min_eq_left (by simp [IntKind.bits]; omega)
      rw [e, Int.toNat_natCast, e2, pow_bytes]
      simp
    rw [es]
    by_cases h4 : n / 256 ^ v = 0
    · rw [h4, if_neg (by omega)]
      exact hgood
    · rw [if_pos (.inr (.inr h4)), show (((n / 256 ^ v : Nat) : Int) != 0) = true from by rw [bne_iff_ne]; omega]
      exact hbad
  · rw [if_neg h3]
    obtain rfl : v = 8 := by omega
    have : n / 256 ^ 8 = 0 := Nat.div_eq_of_lt (by omega)
    rw [this, if_neg (by omega)]
    exact hgood
theorem tdiv_byte (q : Nat) (hq : q < 2 ^ 64) : IntKind.u64.wrap (Int.tdiv (q : Int) 256) = ((q / 256 : Nat) : Int) ∧ Int.tmod (q : Int) 256 % 256 = ((q % 256 : Nat) : Int) := by
  rw [Int.tdiv_eq_ediv_of_nonneg (Int.natCast_nonneg _), Int.tmod_eq_emod_of_nonneg (Int.natCast_nonneg _), wu64]
  omega
theorem ref_Fix_loop (n w : Nat) (hn : n < 2 ^ 64) (hw : w ≤ 8) : ∀ (d i : Nat), i + d = w → ∀ k, d < k → lodestarref01_Fix.l0 k ((n / 256 ^ i : Nat) : Int) (w : Int) ((List.range i).map (dig n)) (i : Int) = if n / 256 ^ w = 0 then some (strOfNums ((List.range w).map (dig n)), 0) else some (⟨#[]⟩, 11) := by
  intro d
  induction d with
  | zero =>
    intro i hi k hk
    obtain ⟨k, rfl⟩ : ∃ j, k = j + 1 := ⟨k - 1, by omega⟩
    obtain rfl : i = w := by omega
    simp only [lodestarref01_Fix.l0]
    rw [if_neg (by omega)]
    by_cases h : n / 256 ^ i = 0
    · rw [if_pos (by omega), if_pos h]
    · rw [if_neg (by omega), if_neg h]
  | succ d ih =>
    intro i hi k hk
    obtain ⟨k, rfl⟩ : ∃ j, k = j + 1 := ⟨k - 1, by omega⟩
    simp only [lodestarref01_Fix.l0]
    have hle : n / 256 ^ i ≤ n := Nat.div_le_self _ _
    have e1 : IntKind.u64.wrap (Int.tdiv ((n / 256 ^ i : Nat) : Int) 256) = ((n / 256 ^ (i + 1) : Nat) : Int) := by
      rw [(tdiv_byte _ (by omega)).1, Nat.pow_succ, ← Nat.div_div_eq_div_mul]
    have e2 : Int.tmod ((n / 256 ^ i : Nat) : Int) 256 % 256 = dig n i := (tdiv_byte _ (by omega)).2
    rw [if_pos (by omega), if_pos (by simp; omega), e1, e2, w64 (n := (i : Int) + 1) (by omega) (by omega)]
    have := ih (i + 1) (by omega) k (by omega)
    rw [List.range_succ, List.map_append] at this
    exact this
theorem digs_all (n w : Nat) : digs n w w = (List.range w).map (dig n) := by
  unfold digs
  apply List.map_congr_left
  intro j hj
  rw [if_pos (List.mem_range.1 hj)]
theorem ref_Fix_some (n : Nat) (w : Int) (hn : n < 2 ^ 64) (k : Nat) (hk : 12 ≤ k) : lodestarref01_Fix.f k (n : Int) w = some (fixed n w) := by
  obtain ⟨k, rfl⟩ : ∃ j, k = j + 1 := ⟨k - 1, by omega⟩
  have hbad : lodestarref01_Fix.j0 (k + 1) (n : Int) w true = some (⟨#[]⟩, 11) := by simp only [lodestarref01_Fix.j0]; rw [if_pos trivial]
  unfold lodestarref01_Fix.f fixed
  by_cases h1 : w < 1
  · rw [if_pos h1, if_pos (.inl h1), hbad]
  rw [if_neg h1]
  by_cases h2 : w > 8
  · rw [decide_eq_true h2, if_pos (.inr (.inl h2)), hbad]
  rw [decide_eq_false h2]
  obtain ⟨v, rfl⟩ := Int.eq_ofNat_of_zero_le (by omega : 0 ≤ w)
  simp only [lodestarref01_Fix.j0, Int.toNat_natCast]
  rw [if_neg (by simp)]
  have := ref_Fix_loop n v hn (by omega) v 0 (by omega) k (by omega)
  simp only [Nat.pow_zero, Nat.div_one, List.range_zero, List.map_nil] at this
  rw [digs_all]
  have e0 : ((0 : Nat) : Int) = 0 := rfl
  rw [e0] at this
  rw [this]
  by_cases h : n / 256 ^ v = 0
  · rw [if_pos h, if_neg (by omega)]
  · rw [if_neg h, if_pos (.inr (.inr h))]
/-! the number of bytes -/
def unf : Nat → Int → ByteArray → Int
  | 0, a, _ => a
  | d + 1, a, s => unf d ((a * 256 + bt s (d : Int)) % 18446744073709551616) s
theorem or_byte (a b : Int) (hb : 0 ≤ b ∧ b ≤ 255) : bits .or .u64 (IntKind.u64.wrap (a * 256)) (IntKind.u64.wrap b) = (a * 256 + b) % 18446744073709551616 := by
  have h1 : IntKind.u64.wrap (a * 256) = a * 256 % 18446744073709551616 := wu64 _
  have h2 : IntKind.u64.wrap b = b := by rw [wu64]; omega
  rw [h1, h2, bits_join .u64 64 (by decide) wraps_u64 8 _ _ (by omega) (by omega) (by omega) (by omega) (by omega) (by omega)]
  omega
theorem num_Unfix_loop (s : ByteArray) (hs : s.size ≤ 8) : ∀ (d : Nat), d ≤ s.size → ∀ (a : Int) (k : Nat), d < k → num_Unfix.l0 k s a ((d : Int) - 1) = some (unf d a s, 0) ∧ lodestarref01_Unfix.l0 k s a ((d : Int) - 1) = some (unf d a s, 0) := by
  intro d
  induction d with
  | zero =>
    intro _ a k hk
    obtain ⟨k, rfl⟩ : ∃ j, k = j + 1 := ⟨k - 1, by omega⟩
    simp only [num_Unfix.l0, lodestarref01_Unfix.l0]
    rw [if_neg (by omega), if_neg (by omega)]
    exact ⟨rfl, rfl⟩
  | succ d ih =>
    intro hd a k hk
    obtain ⟨k, rfl⟩ : ∃ j, k = j + 1 := ⟨k - 1, by omega⟩
    have e : ((d + 1 : Nat) : Int) - 1 = (d : Int) := by omega
    have hb := bt_range s (d : Int)
    have e2 : IntKind.u64.wrap (IntKind.u64.wrap (a * 256) + IntKind.u64.wrap (bt s (d : Int))) = (a * 256 + bt s (d : Int)) % 18446744073709551616 := by
      rw [wu64, wu64, wu64]; omega
    rw [e]
    simp only [num_Unfix.l0, lodestarref01_Unfix.l0]
    rw [if_pos (by omega), if_pos (by omega), if_pos (by omega), or_byte _ _ hb, if_pos (by omega), if_pos (by omega), if_pos (by omega), e2, w64 (n := (d : Int) - 1) (by omega) (by omega)]
    exact ih (by omega) _ k (by omega)
def unfixed (s : ByteArray) : Int × Int := if s.size < 1 ∨ 8 < s.size then (0, 11) else (unf s.size 0 s, 0)
theorem Unfix_some (s : ByteArray) (k : Nat) (hk : 12 ≤ k) : num_Unfix.f k s = some (unfixed s) ∧ lodestarref01_Unfix.f k s = some (unfixed s) := by
  obtain ⟨k, rfl⟩ : ∃ j, k = j + 1 := ⟨k - 1, by omega⟩
  unfold num_Unfix.f lodestarref01_Unfix.f unfixed
  by_cases h1 : (s.size : Int) < 1
  · rw [if_pos h1, if_pos h1, if_pos (.inl (by omega))]
    simp only [num_Unfix.j0, lodestarref01_Unfix.j0]
    rw [if_pos trivial]; exact ⟨rfl, rfl⟩
  rw [if_neg h1, if_neg h1]
  by_cases h2 : (s.size : Int) > 8
  · rw [decide_eq_true h2, if_pos (.inr (by omega))]
    simp only [num_Unfix.j0, lodestarref01_Unfix.j0]
    rw [if_pos trivial]; exact ⟨rfl, rfl⟩
  rw [decide_eq_false h2, if_neg (by omega)]
  simp only [num_Unfix.j0, lodestarref01_Unfix.j0]
  rw [if_neg (by simp), if_neg (by simp), w64 (n := (s.size : Int) - 1) (by omega) (by omega)]
  exact num_Unfix_loop s (by omega) s.size (Nat.le_refl _) 0 k (by omega)
/-! there and back -/
theorem bt_digs (n w i : Nat) (hi : i < w) : bt (strOfNums (digs n w w)) (i : Int) = dig n i := by
  have hl : i < (strOfNums (digs n w w)).size := by rw [strOfNums_size, digs_len]; exact hi
  unfold bt
  rw [dif_pos (by simpa using hl)]
  have hd : (digs n w w)[i]'(by rw [digs_len]; exact hi) = dig n i := by simp [digs, hi]
  have e : (strOfNums (digs n w w))[i]'hl = UInt8.ofNat (dig n i).toNat := by
    show (strOfNums (digs n w w)).data[i] = _
    simp [strOfNums, hd]
  simp only [Int.toNat_natCast]
  rw [e, UInt8.toNat_ofNat']
  unfold dig
  omega
theorem unf_digs (n w : Nat) (hn : n < 2 ^ 64) : ∀ d, d ≤ w → unf d ((n / 256 ^ d : Nat) : Int) (strOfNums (digs n w w)) = (n : Int) := by
  intro d
  induction d with
  | zero => intro _; simp [unf]
  | succ d ih =>
    intro hd
    have e : (((n / 256 ^ (d + 1) : Nat) : Int) * 256 + dig n d) % 18446744073709551616 = ((n / 256 ^ d : Nat) : Int) := by
      have hle : n / 256 ^ d ≤ n := Nat.div_le_self _ _
      rw [Nat.pow_succ, ← Nat.div_div_eq_div_mul]
      unfold dig
      generalize n / 256 ^ d = q at *
      clear ih
      omega
    simp only [unf]
    rw [bt_digs n w d (by omega), e]
    exact ih (by omega)
theorem NumBytes : lodestarlaw01_NumBytes.Pure := by
  intro n w s wn ww hs
  have bn := u64_bounds wn
  obtain ⟨n, rfl⟩ := Int.eq_ofNat_of_zero_le bn.1
  have hn : n < 2 ^ 64 := by omega
  refine ⟨65, ?_⟩
  have haw : lodestarlaw01_awake.f 64 = some true := awake_some
  unfold lodestarlaw01_NumBytes.f
  rw [num_Fix_some n w hn 65 (by omega), ref_Fix_some n w hn 65 (by omega), (Unfix_some s 65 (by omega)).1, (Unfix_some s 65 (by omega)).2]
  simp only [Option.bind_some, if_true]
  have hb : ((unfixed s).2 != (unfixed s).2) = false := by simp
  rw [hb]
  simp only [lodestarlaw01_NumBytes.j0]
  rw [if_neg (by simp), haw]
  simp only [Option.bind_some]
  by_cases h : w < 1 ∨ w > 8 ∨ n / 256 ^ w.toNat ≠ 0
  · have : fixed n w = (⟨#[]⟩, 11) := by unfold fixed; rw [if_pos h]
    rw [this, if_neg (by simp)]
  · have hf : fixed n w = (strOfNums (digs n w.toNat w.toNat), 0) := by unfold fixed; rw [if_neg h]
    rw [hf, if_pos (by simp)]
    have hw1 : ¬ w < 1 := fun e => h (.inl e)
    have hw2 : ¬ w > 8 := fun e => h (.inr (.inl e))
    have hz : n / 256 ^ w.toNat = 0 := by
      by_cases e : n / 256 ^ w.toNat = 0
      · exact e
      · exact absurd (.inr (.inr e)) h
    have hsz : (strOfNums (digs n w.toNat w.toNat)).size = w.toNat := by rw [strOfNums_size, digs_len]
    have hu : unfixed (strOfNums (digs n w.toNat w.toNat)) = ((n : Int), 0) := by
      unfold unfixed
      rw [hsz, if_neg (by omega)]
      have := unf_digs n w.toNat hn w.toNat (Nat.le_refl _)
      rw [hz] at this
      rw [← this]; rfl
    rw [(Unfix_some _ 64 (by omega)).1, hu]
    simp only [Option.bind_some]
    rw [if_pos trivial, if_pos trivial, if_pos (by rw [hsz]; omega)]
end Go.Proofs.Ytbckkllhobcgjaa.Pure
