/- Exclusive or on numbers of a width, shifts, products modulo 2^64: what can be undone. Of no program. -/
import Derived.Test.YtbckkllhobcgjaaQMath
namespace Go.Proofs.Ytbckkllhobcgjaa.Q
open Go.RowKit
theorem xor_nat (k : IntKind) (j : Nat) (hj : j ≤ k.bits) (hk : ∀ n : Int, 0 ≤ n → n < 2 ^ j → k.wrap n = n) (a b : Nat) (ha : a < 2 ^ j) (hb : b < 2 ^ j) : bits .xor k a b = ((a ^^^ b : Nat) : Int) := by
  have hp : 2 ^ j ≤ 2 ^ k.bits := Nat.pow_le_pow_right (by decide) hj
  have ha' : a % 2 ^ k.bits = a := Nat.mod_eq_of_lt (Nat.lt_of_lt_of_le ha hp)
  have hb' : b % 2 ^ k.bits = b := Nat.mod_eq_of_lt (Nat.lt_of_lt_of_le hb hp)
  simp only [bits, BitVec.ofInt_natCast, BitVec.toNat_xor, BitVec.toNat_ofNat, ha', hb']
  exact hk _ (Int.natCast_nonneg _) (by have := Nat.xor_lt_two_pow ha hb; exact_mod_cast this)
theorem wraps_u64 (n : Int) (h₀ : 0 ≤ n) (h₁ : n < 2 ^ 64) : IntKind.u64.wrap n = n := by rw [wu64]; omega
theorem wraps_u32 (n : Int) (h₀ : 0 ≤ n) (h₁ : n < 2 ^ 32) : IntKind.u32.wrap n = n := by rw [IntKind.wrap_u32]; omega
theorem xor_u64 (a b : Nat) (ha : a < 2 ^ 64) (hb : b < 2 ^ 64) : bits .xor .u64 a b = ((a ^^^ b : Nat) : Int) := xor_nat .u64 64 (by decide) wraps_u64 a b ha hb
theorem xor_u32 (a b : Nat) (ha : a < 2 ^ 32) (hb : b < 2 ^ 32) : bits .xor .u32 a b = ((a ^^^ b : Nat) : Int) := xor_nat .u32 32 (by decide) wraps_u32 a b ha hb
theorem xor_u8 (a b : Nat) (ha : a < 2 ^ 8) (hb : b < 2 ^ 8) : bits .xor .u8 a b = ((a ^^^ b : Nat) : Int) := xor_nat .u8 8 (by decide) (fun n h0 h1 => by rw [IntKind.wrap_u8]; omega) a b ha hb
theorem or_u64 (a b : Nat) (ha : a < 2 ^ 64) (hb : b < 2 ^ 64) : bits .or .u64 a b = ((a ||| b : Nat) : Int) := (bits_nat .u64 64 (by decide) wraps_u64 a b ha hb).2
theorem xor_left_inj {a b c : Nat} (h : a ^^^ c = b ^^^ c) : a = b := by
  have : (a ^^^ c) ^^^ c = (b ^^^ c) ^^^ c := by rw [h]
  rwa [Nat.xor_assoc, Nat.xor_assoc, Nat.xor_self, Nat.xor_zero, Nat.xor_zero] at this
theorem xor_right_inj {a b c : Nat} (h : c ^^^ a = c ^^^ b) : a = b := by
  rw [Nat.xor_comm c a, Nat.xor_comm c b] at h
  exact xor_left_inj h
/-- x ^ (x >> s) can be undone. -/
theorem xs_inj {s x y : Nat} (hs : 0 < s) (hx : x < 2 ^ 64) (hy : y < 2 ^ 64) (h : x ^^^ (x / 2 ^ s) = y ^^^ (y / 2 ^ s)) : x = y := by
  have key : ∀ d i : Nat, 64 - i ≤ d → x.testBit i = y.testBit i := by
    intro d
    induction d with
    | zero =>
      intro i hi
      have : 2 ^ 64 ≤ 2 ^ i := Nat.pow_le_pow_right (by omega) (by omega)
      rw [Nat.testBit_lt_two_pow (by omega : x < 2 ^ i), Nat.testBit_lt_two_pow (by omega : y < 2 ^ i)]
    | succ d ih =>
      intro i hi
      have hb : (x ^^^ (x / 2 ^ s)).testBit i = (y ^^^ (y / 2 ^ s)).testBit i := by rw [h]
      rw [Nat.testBit_xor, Nat.testBit_xor, ← Nat.shiftRight_eq_div_pow, ← Nat.shiftRight_eq_div_pow, Nat.testBit_shiftRight, Nat.testBit_shiftRight, ih (s + i) (by omega)] at hb
      simpa using hb
  exact Nat.eq_of_testBit_eq fun i => key 64 i (by omega)
theorem mul_inj (c ci t M x y : Nat) (hc : c * ci = 1 + M * t) (hx : x < M) (hy : y < M) (h : x * c % M = y * c % M) : x = y := by
  have e : ∀ z, z < M → (z * c % M) * ci % M = z := by
    intro z hz
    rw [Nat.mod_mul_mod, Nat.mul_assoc, hc, Nat.mul_add, Nat.mul_one, Nat.mul_left_comm, Nat.add_mul_mod_self_left, Nat.mod_eq_of_lt hz]
  rw [← e x hx, ← e y hy, h]

/-! ### a draw -/
def mix (z : Nat) : Nat :=
  let z := (z ^^^ z / 2 ^ 30) * 13787848793156543929 % 2 ^ 64
  let z := (z ^^^ z / 2 ^ 27) * 10723151780598845931 % 2 ^ 64
  z ^^^ z / 2 ^ 31
theorem div_lt64 {z s : Nat} (h : z < 2 ^ 64) : z / 2 ^ s < 2 ^ 64 := Nat.lt_of_le_of_lt (Nat.div_le_self _ _) h
theorem mix_lt (z : Nat) : mix z < 2 ^ 64 := Nat.xor_lt_two_pow (Nat.mod_lt _ (by decide)) (div_lt64 (Nat.mod_lt _ (by decide)))
theorem mix_inj {x y : Nat} (hx : x < 2 ^ 64) (hy : y < 2 ^ 64) (h : mix x = mix y) : x = y := by
  unfold mix at h
  have h1 := xs_inj (s := 31) (by decide) (Nat.mod_lt _ (by decide)) (Nat.mod_lt _ (by decide)) h
  have h2 := mul_inj _ 3573116690164977347 2077064247507883091 _ _ _ (by decide) (Nat.xor_lt_two_pow (Nat.mod_lt _ (by decide)) (div_lt64 (Nat.mod_lt _ (by decide)))) (Nat.xor_lt_two_pow (Nat.mod_lt _ (by decide)) (div_lt64 (Nat.mod_lt _ (by decide)))) h1
  have h3 := xs_inj (s := 27) (by decide) (Nat.mod_lt _ (by decide)) (Nat.mod_lt _ (by decide)) h2
  have h4 := mul_inj _ 10871156337175269513 8125545580553827436 _ _ _ (by decide) (Nat.xor_lt_two_pow hx (div_lt64 hx)) (Nat.xor_lt_two_pow hy (div_lt64 hy)) h3
  exact xs_inj (s := 30) (by decide) hx hy h4
/-- One step of the mix, on whole numbers as Go has them. -/
theorem mix_step (z c : Nat) (s : Nat) (hz : z < 2 ^ 64) : IntKind.u64.wrap (bits .xor .u64 (z : Int) ((z : Int) / (2 ^ s : Nat)) * (c : Int)) = (((z ^^^ z / 2 ^ s) * c % 2 ^ 64 : Nat) : Int) := by
  have e : ((z : Int) / (2 ^ s : Nat)) = ((z / 2 ^ s : Nat) : Int) := by simp
  rw [e, xor_u64 _ _ hz (div_lt64 hz), wu64]
  simp
end Go.Proofs.Ytbckkllhobcgjaa.Q
