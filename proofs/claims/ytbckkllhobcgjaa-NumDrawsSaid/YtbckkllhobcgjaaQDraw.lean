/- Draws: both texts come to one mix. -/
import Derived.Test.YtbckkllhobcgjaaQBits
import Derived.Test.YtbckkllhobcgjaaPx1
import Derived.Test.YtbckkllhobcgjaaPx2
import Derived.Test.YtbckkllhobcgjaaPx2
import Derived.Test.YtbckkllhobcgjaaPx2
namespace Go.Proofs.Ytbckkllhobcgjaa.P
open Go.RowKit Go.Proofs.YtbckkllhobcgjaaW.PrintWords Go.Proofs.YtbckkllhobcgjaaW.PrintLast
open Go.Proofs.Ytbckkllhobcgjaa.Q
def seedNext (a : Int) : Int := (a + 11400714819323198485) % 18446744073709551616
def seedDraw (a : Int) : Int := (mix (seedNext a).toNat : Int)
theorem seedNext_range (a : Int) : 0 ≤ seedNext a ∧ seedNext a ≤ 18446744073709551615 := by unfold seedNext; omega
theorem seedDraw_range (a : Int) : 0 ≤ seedDraw a ∧ seedDraw a ≤ 18446744073709551615 := by
  have := mix_lt (seedNext a).toNat
  unfold seedDraw; omega
theorem num_Draw_some (a : Int) : num_Draw.f a = some (seedDraw a, seedNext a) := by
  have hz := seedNext_range a
  have e : IntKind.u64.wrap (a + 11400714819323198485) = (((seedNext a).toNat : Nat) : Int) := by rw [wu64]; unfold seedNext at hz ⊢; omega
  have e2 : seedNext a = (((seedNext a).toNat : Nat) : Int) := by omega
  unfold num_Draw.f
  rw [e]
  have hlt : (seedNext a).toNat < 2 ^ 64 := by omega
  have s1 := mix_step (seedNext a).toNat 13787848793156543929 30 hlt
  simp only [show ((2 ^ 30 : Nat) : Int) = 1073741824 from rfl, show ((13787848793156543929 : Nat) : Int) = 13787848793156543929 from rfl] at s1
  rw [s1]
  have s2 := mix_step _ 10723151780598845931 27 (Nat.mod_lt (((seedNext a).toNat ^^^ (seedNext a).toNat / 2 ^ 30) * 13787848793156543929) (by decide : 0 < 2 ^ 64))
  simp only [show ((2 ^ 27 : Nat) : Int) = 134217728 from rfl, show ((10723151780598845931 : Nat) : Int) = 10723151780598845931 from rfl] at s2
  rw [s2]
  have s3 : ∀ z : Nat, z < 2 ^ 64 → bits .xor .u64 (z : Int) ((z : Int) / 2147483648) = ((z ^^^ z / 2 ^ 31 : Nat) : Int) := by
    intro z hz
    have e : ((z : Int) / 2147483648) = ((z / 2 ^ 31 : Nat) : Int) := by simp
    rw [e, xor_u64 _ _ hz (div_lt64 hz)]
  rw [s3 _ (Nat.mod_lt _ (by decide))]
  rw [← e2]
  rfl
theorem ref_Draw_some (a : Int) : lodestarref01_Draw.f a = some (seedDraw a, seedNext a) := by
  rw [← num_Draw_some a]
  have hw : ∀ n c : Int, 0 < c → IntKind.u64.wrap (Int.tdiv (IntKind.u64.wrap n) c) = IntKind.u64.wrap n / c := by
    intro n c hc
    have h0 : 0 ≤ IntKind.u64.wrap n ∧ IntKind.u64.wrap n < 18446744073709551616 := by rw [wu64]; omega
    rw [Int.tdiv_eq_ediv_of_nonneg h0.1]
    have h1 : 0 ≤ IntKind.u64.wrap n / c := Int.ediv_nonneg h0.1 (by omega)
    have h2 : IntKind.u64.wrap n / c ≤ IntKind.u64.wrap n := Int.ediv_le_self _ h0.1
    rw [wu64 (IntKind.u64.wrap n / c)]; omega
  unfold lodestarref01_Draw.f num_Draw.f
  simp only [hw _ _ (by decide : (0 : Int) < 1073741824), hw _ _ (by decide : (0 : Int) < 134217728), hw _ _ (by decide : (0 : Int) < 2147483648)]
def seedBelow (a n : Int) : Int := if n < 1 then 0 else seedDraw a % n
theorem num_Below_some (a n : Int) (hn : n ≤ 9223372036854775807) : num_Below.f a n = some (seedBelow a n, if n < 1 then a else seedNext a) ∧ lodestarref01_Below.f a n = some (seedBelow a n, if n < 1 then a else seedNext a) := by
  unfold num_Below.f lodestarref01_Below.f seedBelow
  by_cases h : n < 1
  · simp only [if_pos h]; exact ⟨trivial, trivial⟩
  · have e : IntKind.u64.wrap n = n := by rw [wu64]; omega
    have hd := seedDraw_range a
    have e2 : wrap64 (Int.tmod (seedDraw a) n) = seedDraw a % n := by
      rw [Int.tmod_eq_emod_of_nonneg hd.1]
      have h0 := Int.emod_nonneg (seedDraw a) (by omega : n ≠ 0)
      have h1 := Int.emod_lt_of_pos (seedDraw a) (by omega : 0 < n)
      exact w64 (by omega) (by omega)
    simp only [if_neg h, num_Draw_some, ref_Draw_some, Option.bind_some, e, if_neg (by omega : ¬ n = 0), e2]
    exact ⟨trivial, trivial⟩
theorem seedBelow_range (a n : Int) (h : 1 ≤ n) : 0 ≤ seedBelow a n ∧ seedBelow a n < n := by
  unfold seedBelow
  rw [if_neg (by omega)]
  exact ⟨Int.emod_nonneg _ (by omega), Int.emod_lt_of_pos _ (by omega)⟩
theorem seedDraw_inj (a b : Int) (ha : 0 ≤ a ∧ a ≤ 18446744073709551615) (hb : 0 ≤ b ∧ b ≤ 18446744073709551615) (h : seedDraw a = seedDraw b) : a = b := by
  have ra := seedNext_range a
  have rb := seedNext_range b
  have h1 : (seedNext a).toNat < 2 ^ 64 := by omega
  have h2 : (seedNext b).toNat < 2 ^ 64 := by omega
  have h3 : mix (seedNext a).toNat = mix (seedNext b).toNat := Int.ofNat.inj h
  have h4 := mix_inj h1 h2 h3
  clear h3 h
  have h5 : seedNext a = seedNext b := by omega
  unfold seedNext at h5
  omega
theorem seedNext_inj (a b : Int) (ha : 0 ≤ a ∧ a ≤ 18446744073709551615) (hb : 0 ≤ b ∧ b ≤ 18446744073709551615) (h : seedNext a = seedNext b) : a = b := by unfold seedNext at h; omega
/-- One call of each, told with names in the places of the numbers. -/
theorem draws_told (a n : Int) (hn : n ≤ 9223372036854775807) : ∃ x s y t : Int, num_Draw.f a = some (x, s) ∧ lodestarref01_Draw.f a = some (x, s) ∧ num_Below.f a n = some (y, t) ∧ lodestarref01_Below.f a n = some (y, t) ∧ (1 ≤ n → 0 ≤ y ∧ y < n) :=
  ⟨seedDraw a, seedNext a, seedBelow a n, _, num_Draw_some a, ref_Draw_some a, (num_Below_some a n hn).1, (num_Below_some a n hn).2, seedBelow_range a n⟩
end Go.Proofs.Ytbckkllhobcgjaa.P
