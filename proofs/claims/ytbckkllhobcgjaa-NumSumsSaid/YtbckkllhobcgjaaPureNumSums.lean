/- lodestarlaw01.NumSums: the check sum and the hash of any text are those of the document; a text with one byte turned has another sum. For every text, int and byte. -/
import Derived.Test.YtbckkllhobcgjaaQSum
import Derived.Test.YtbckkllhobcgjaaQAwake
import Derived.OpenShut
import Derived.Test.YtbckkllhobcgjaaPx3
namespace Go.Proofs.Ytbckkllhobcgjaa.Pure
open Go.RowKit Go.Proofs.Ytbckkllhobcgjaa.P Go.Proofs.YtbckkllhobcgjaaW.PrintWords Go.Proofs.YtbckkllhobcgjaaW.PrintLast
open Go.Proofs.Ytbckkllhobcgjaa.Q
theorem bt_str (xs : List Int) (h : ∀ x ∈ xs, 0 ≤ x ∧ x ≤ 255) (i : Nat) (hi : i < xs.length) : bt (strOfNums xs) (i : Int) = xs.getD i 0 := by
  have hl : i < (strOfNums xs).size := by rw [strOfNums_size]; exact hi
  unfold bt
  rw [dif_pos (by simpa using hl)]
  have hx := h xs[i] (List.getElem_mem hi)
  have e : (strOfNums xs)[i]'hl = UInt8.ofNat (xs[i]).toNat := by
    show (strOfNums xs).data[i] = _
    simp [strOfNums]
  simp only [Int.toNat_natCast]
  rw [e, List.getD_eq_getElem?_getD, List.getElem?_eq_getElem hi, Option.getD_some, UInt8.toNat_ofNat']
  omega
theorem bytes_at (s : ByteArray) (i : Nat) : (bytesOf s).getD i 0 = bt s (i : Int) := by
  have := rd_bytesOf s (i : Int)
  unfold rd at this
  rwa [Int.toNat_natCast] at this
theorem bytes_in (s : ByteArray) : ∀ x ∈ bytesOf s, 0 ≤ x ∧ x ≤ 255 := by
  intro x hx
  obtain ⟨b, _, rfl⟩ := List.mem_map.1 hx
  have := b.toNat_lt
  omega
theorem xor_byte_ne (a b : Int) (ha : 0 ≤ a ∧ a ≤ 255) (hb : 0 ≤ b ∧ b ≤ 255) (h : b ≠ 0) : bits .xor .u8 a b ≠ a := by
  obtain ⟨m, rfl⟩ := Int.eq_ofNat_of_zero_le ha.1
  obtain ⟨n, rfl⟩ := Int.eq_ofNat_of_zero_le hb.1
  rw [xor_u8 m n (by omega) (by omega)]
  intro e
  have e2 : m ^^^ n = m ^^^ 0 := by rw [Nat.xor_zero]; exact_mod_cast e
  have := xor_right_inj e2
  omega
theorem turned_unlike (s : ByteArray) (hs : s.size ≤ 140737488351232) (p : Nat) (hp : p < s.size) (y : Int) (hy : 0 ≤ y ∧ y ≤ 255) (hne : y ≠ bt s (p : Int)) : ∃ t2, num_Sum.f (strOfNums ((bytesOf s).set p y)) = some t2 ∧ t2 ≠ ((4294967295 ^^^ crcFold s.size s : Nat) : Int) := by
  have hl : ((bytesOf s).set p y).length = s.size := by rw [List.length_set, bytesOf_length]
  have hsz : (strOfNums ((bytesOf s).set p y)).size = s.size := by rw [strOfNums_size, hl]
  have hin : ∀ x ∈ (bytesOf s).set p y, 0 ≤ x ∧ x ≤ 255 := by
    intro x hx
    rcases List.mem_or_eq_of_mem_set hx with h | rfl
    · exact bytes_in s x h
    · exact hy
  refine ⟨_, num_Sum_some _ (by rw [hsz]; exact hs), fun e => ?_⟩
  rw [hsz] at e
  have e2 : 4294967295 ^^^ crcFold s.size (strOfNums ((bytesOf s).set p y)) = 4294967295 ^^^ crcFold s.size s := by exact_mod_cast e
  have e3 := xor_right_inj e2
  have hb : ∀ i : Nat, i < s.size → bt (strOfNums ((bytesOf s).set p y)) (i : Int) = if p = i then y else bt s (i : Int) := by
    intro i hi
    rw [bt_str _ hin i (by rw [hl]; exact hi), List.getD_eq_getElem?_getD, List.getElem?_set]
    by_cases h : p = i
    · rw [if_pos h, if_pos h, if_pos (by rw [bytesOf_length]; omega)]; rfl
    · rw [if_neg h, if_neg h, ← List.getD_eq_getElem?_getD, bytes_at]
  refine crcFold_unlike (strOfNums ((bytesOf s).set p y)) s p ?_ ?_ (s.size - (p + 1)) ?_
  · rw [hb p hp, if_pos rfl]; exact hne
  · intro i hi
    by_cases h : i < s.size
    · rw [hb i h, if_neg (Ne.symm hi)]
    · unfold bt
      rw [dif_neg (by rw [hsz]; simpa using h), dif_neg (by simpa using h)]
  · rw [show p + 1 + (s.size - (p + 1)) = s.size from by omega]; exact e3
theorem NumSums : lodestarlaw01_NumSums.Pure := by
  intro s a c hs wa wc
  obtain ⟨h, h1, h2, h3⟩ := Hash_some s hs
  have bc := bounds_u8 wc
  refine ⟨10 * s.size + 64, _, h, num_Sum_some s hs, ref_Sum_some s hs _ (by omega), h1, h2 _ (by omega), ?_, h3, fun hp hc => ?_⟩
  · exact at_rounds (g := fun k => lodestarlaw01_awake.f k) (fun k => lodestarlaw01_awake.mono k) (by omega) awake_some
  · obtain ⟨i0, i1⟩ := lodestarlaw01_NumSums.place_in s a hp hs
    unfold lodestarlaw01_NumSums.turned
    generalize lodestarlaw01_NumSums.place s a = p at i0 i1
    obtain ⟨p, rfl⟩ := Int.eq_ofNat_of_zero_le i0
    rw [Int.toNat_natCast]
    exact turned_unlike s hs p (by omega) _ (bounds_u8 (wf_bits _ _ _ _)) (xor_byte_ne _ _ (bt_range s p) bc hc)
end Go.Proofs.Ytbckkllhobcgjaa.Pure
