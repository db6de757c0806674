/- Sums over the first n places, and what holds of sums of squares. Of no program. -/
import Derived.Test.YtlnilonlaedafaaQMath
namespace Go.Proofs.Ytlnilonlaedafaa.Q
open Go.RowKit
def sumTo (f : Nat → Int) : Nat → Int
  | 0 => 0
  | n + 1 => sumTo f n + f n
theorem sumTo_congr {f g : Nat → Int} {n : Nat} (h : ∀ i, i < n → f i = g i) : sumTo f n = sumTo g n := by
  induction n with
  | zero => rfl
  | succ n ih => simp only [sumTo]; rw [ih (fun i hi => h i (by omega)), h n (by omega)]
theorem sumTo_add (f g : Nat → Int) (n : Nat) : sumTo (fun i => f i + g i) n = sumTo f n + sumTo g n := by
  induction n with
  | zero => rfl
  | succ n ih => simp only [sumTo]; rw [ih]; omega
theorem sumTo_mul (c : Int) (f : Nat → Int) (n : Nat) : sumTo (fun i => c * f i) n = c * sumTo f n := by
  induction n with
  | zero => simp [sumTo]
  | succ n ih => simp only [sumTo]; rw [ih, Int.mul_add]
theorem sumTo_nonneg {f : Nat → Int} {n : Nat} (h : ∀ i, i < n → 0 ≤ f i) : 0 ≤ sumTo f n := by
  induction n with
  | zero => exact Int.le_refl _
  | succ n ih => simp only [sumTo]; have := ih (fun i hi => h i (by omega)); have := h n (by omega); omega
theorem sumTo_range {f : Nat → Int} {n : Nat} {lo hi : Int} (h : ∀ i, i < n → lo ≤ f i ∧ f i ≤ hi) : n * lo ≤ sumTo f n ∧ sumTo f n ≤ n * hi := by
  induction n with
  | zero => simp [sumTo]
  | succ n ih =>
    simp only [sumTo]
    have h1 := ih (fun i hi => h i (by omega))
    have h2 := h n (by omega)
    have e1 : ((n + 1 : Nat) : Int) * lo = n * lo + lo := by rw [Int.natCast_add, Int.add_mul]; simp
    have e2 : ((n + 1 : Nat) : Int) * hi = n * hi + hi := by rw [Int.natCast_add, Int.add_mul]; simp
    omega
theorem sumTo_zero {f : Nat → Int} {n : Nat} (h0 : ∀ i, i < n → 0 ≤ f i) (h : sumTo f n = 0) : ∀ i, i < n → f i = 0 := by
  induction n with
  | zero => intro i hi; omega
  | succ n ih =>
    simp only [sumTo] at h
    have h1 := sumTo_nonneg (f := f) (n := n) (fun i hi => h0 i (by omega))
    have h2 := h0 n (by omega)
    intro i hi
    by_cases e : i = n
    · subst e; omega
    · exact ih (fun i hi => h0 i (by omega)) (by omega) i (by omega)
theorem sumTo_le {f g : Nat → Int} {n : Nat} (h : ∀ i, i < n → f i ≤ g i) : sumTo f n ≤ sumTo g n := by
  induction n with
  | zero => exact Int.le_refl _
  | succ n ih => simp only [sumTo]; have := ih (fun i hi => h i (by omega)); have := h n (by omega); omega
theorem sq_nonneg (x : Int) : 0 ≤ x * x := by
  rcases Int.le_total 0 x with h | h
  · exact Int.mul_nonneg h h
  · exact Int.mul_nonneg_of_nonpos_of_nonpos h h
theorem mul4 (a b c d : Int) : a * b * (c * d) = a * c * (b * d) := by rw [Int.mul_assoc, Int.mul_left_comm b, ← Int.mul_assoc]
/-- Of squares: if s^2 ≤ p*q, then 2*s ≤ p + q, p and q from 0 up. -/
theorem two_le_of_sq {s p q : Int} (hp : 0 ≤ p) (hq : 0 ≤ q) (h : s * s ≤ p * q) : 2 * s ≤ p + q := by
  rcases Int.lt_or_le s 0 with hs | hs
  · omega
  · refine Int.not_lt.1 fun hl => ?_
    have h1 : (p + q) * (p + q) < (2 * s) * (2 * s) := by
      have a1 : (p + q) * (p + q) ≤ (p + q) * (2 * s) := Int.mul_le_mul_of_nonneg_left (by omega) (by omega)
      have a2 : (p + q) * (2 * s) < (2 * s) * (2 * s) := Int.mul_lt_mul_of_pos_right hl (by omega)
      omega
    have h2 : (2 * s) * (2 * s) = 4 * (s * s) := by rw [mul4]; rfl
    have h3 : (p + q) * (p + q) = p * p + q * q + 2 * (p * q) := by
      rw [Int.add_mul, Int.mul_add, Int.mul_add, Int.mul_comm q p]; omega
    have h4 : 0 ≤ (p - q) * (p - q) := sq_nonneg _
    have h5 : (p - q) * (p - q) = p * p + q * q - 2 * (p * q) := by
      rw [Int.sub_mul, Int.mul_sub, Int.mul_sub, Int.mul_comm q p]; omega
    omega
/-- Cauchy and Schwarz. -/
theorem cauchy (x y : Nat → Int) (n : Nat) : sumTo (fun i => x i * y i) n * sumTo (fun i => x i * y i) n ≤ sumTo (fun i => x i * x i) n * sumTo (fun i => y i * y i) n := by
  induction n with
  | zero => simp [sumTo]
  | succ n ih =>
    simp only [sumTo]
    have hA : 0 ≤ sumTo (fun i => x i * x i) n := sumTo_nonneg (fun i _ => sq_nonneg _)
    have hB : 0 ≤ sumTo (fun i => y i * y i) n := sumTo_nonneg (fun i _ => sq_nonneg _)
    generalize sumTo (fun i => x i * y i) n = S at *
    generalize sumTo (fun i => x i * x i) n = A at *
    generalize sumTo (fun i => y i * y i) n = B at *
    generalize x n = u
    generalize y n = v
    have hu := sq_nonneg u
    have hv := sq_nonneg v
    have key : 2 * (S * (u * v)) ≤ A * (v * v) + B * (u * u) := by
      apply two_le_of_sq (Int.mul_nonneg hA hv) (Int.mul_nonneg hB hu)
      have e1 : S * (u * v) * (S * (u * v)) = S * S * (u * v * (u * v)) := mul4 _ _ _ _
      have e2 : A * (v * v) * (B * (u * u)) = A * B * (u * v * (u * v)) := by
        rw [mul4 A, mul4 u v u v, Int.mul_comm (v * v)]
      rw [e1, e2]
      exact Int.mul_le_mul_of_nonneg_right ih (sq_nonneg _)
    have e3 : (S + u * v) * (S + u * v) = S * S + 2 * (S * (u * v)) + u * v * (u * v) := by
      rw [Int.add_mul, Int.mul_add, Int.mul_add, Int.mul_comm (u * v) S]; omega
    have e4 : (A + u * u) * (B + v * v) = A * B + (A * (v * v) + B * (u * u)) + u * v * (u * v) := by
      rw [Int.add_mul, Int.mul_add, Int.mul_add, Int.mul_comm (u * u) B, mul4 u u v v]; omega
    rw [e3, e4]
    omega
/-- What lies below a product of squares lies below the product. -/
theorem lt_of_roots {s p q : Int} {a b : Int} (hp : 0 ≤ p) (hq : 0 ≤ q) (ha : 0 ≤ a) (hb : 0 ≤ b) (h : s * s ≤ p * q) (h1 : p < a * a) (h2 : q < b * b) : s < a * b := by
  refine Int.not_le.1 fun hl => ?_
  have h3 : a * b * (a * b) ≤ s * s := Int.mul_le_mul hl hl (Int.mul_nonneg ha hb) (by have := Int.mul_nonneg ha hb; omega)
  rw [mul4] at h3
  have h4 : p * q ≤ p * (b * b) := Int.mul_le_mul_of_nonneg_left (by omega) hp
  have h5 : p * (b * b) < a * a * (b * b) := Int.mul_lt_mul_of_pos_right h1 (by omega)
  omega
end Go.Proofs.Ytlnilonlaedafaa.Q
