/- lodestarlaw06.VectorTriangle: the way over a third vector is no shorter, up to the rounding of roots; a product is no greater than the roots' product. For every three lists of ints. -/
import Derived.Test.YtbckkllhobcgjaaQFit06
import Derived.Test.YtbckkllhobcgjaaQSure06
import Derived.Test.YtbckkllhobcgjaaPx47
namespace Go.Proofs.Ytbckkllhobcgjaa.Pure
open Go.RowKit Go.Proofs.Ytbckkllhobcgjaa.P Go.Proofs.YtbckkllhobcgjaaW.PrintWords Go.Proofs.YtbckkllhobcgjaaW.PrintLast Go.Proofs.YtbckkllhobcgjaaW.PrintMore
open Go.Proofs.Ytbckkllhobcgjaa.Q
theorem root_up (n : Int) (h0 : 0 ≤ n) (h : n ≤ 9223372036854775807) : 0 ≤ root n ∧ root n * root n ≤ n ∧ n < (root n + 1) * (root n + 1) := by
  rcases (root_spec n h).2.2 with ⟨h1, e⟩ | ⟨_, h2⟩
  · rw [e]; omega
  · exact h2
theorem root_l2 (a b : List Int) : 0 ≤ root (l2 a b) ∧ root (l2 a b) ≤ 524288 := by
  have h := l2_range a b
  have hr := root_up _ h.1 (by omega)
  refine ⟨hr.1, ?_⟩
  have := sq_lt hr.1 (b := 524289) (by omega) (by omega)
  omega
theorem triangle (a b c : List Int) (n : Nat) (la : a.length = n) (lb : b.length = n) (lc : c.length = n) (ha : mayB a = true) (hb : mayB b = true) (hc : mayB c = true) :
    root (l2 a c) ≤ root (l2 a b) + root (l2 b c) + 1 := by
  have r1 := l2_range a c
  have r2 := l2_range a b
  have r3 := l2_range b c
  have u1 := root_up _ r1.1 (by omega)
  have u2 := root_up _ r2.1 (by omega)
  have u3 := root_up _ r3.1 (by omega)
  have e1 := l2_of (a := a) (b := c) (by omega) ha hc
  have e2 := l2_of (a := a) (b := b) (by omega) ha hb
  have e3 := l2_of (a := b) (b := c) (by omega) hb hc
  rw [la] at e1 e2
  rw [lb] at e3
  have cs := cauchy (fun i => rd a (i : Int) - rd b (i : Int)) (fun i => rd b (i : Int) - rd c (i : Int)) n
  rw [← e2, ← e3] at cs
  have hs := lt_of_roots r2.1 r3.1 (a := root (l2 a b) + 1) (b := root (l2 b c) + 1) (by omega) (by omega) cs u2.2.2 u3.2.2
  have hsum : l2 a c = l2 a b + l2 b c + 2 * sumTo (fun i => (rd a (i : Int) - rd b (i : Int)) * (rd b (i : Int) - rd c (i : Int))) n := by
    rw [e1, e2, e3, ← sumTo_mul, ← sumTo_add, ← sumTo_add]
    apply sumTo_congr
    intro i _
    generalize rd a (i : Int) = x
    generalize rd b (i : Int) = y
    generalize rd c (i : Int) = z
    have e : x - z = (x - y) + (y - z) := by omega
    rw [e, Int.add_mul, Int.mul_add, Int.mul_add, Int.mul_comm (y - z) (x - y)]; omega
  have h4 : root (l2 a c) < root (l2 a b) + root (l2 b c) + 2 := by
    apply sq_lt u1.1 (by omega)
    have e : (root (l2 a b) + root (l2 b c) + 2) * (root (l2 a b) + root (l2 b c) + 2) = (root (l2 a b) + 1) * (root (l2 a b) + 1) + (root (l2 b c) + 1) * (root (l2 b c) + 1) + 2 * ((root (l2 a b) + 1) * (root (l2 b c) + 1)) := by
      have e0 : root (l2 a b) + root (l2 b c) + 2 = (root (l2 a b) + 1) + (root (l2 b c) + 1) := by omega
      rw [e0]
      generalize root (l2 a b) + 1 = p
      generalize root (l2 b c) + 1 = q
      rw [Int.add_mul, Int.mul_add, Int.mul_add, Int.mul_comm q p]; omega
    rw [e]
    omega
  omega
theorem dot_most (a b : List Int) (h : a.length = b.length) (ha : mayB a = true) (hb : mayB b = true) :
    dot a b < (root (dot a a) + 1) * (root (dot b b) + 1) ∧ -(dot a b) < (root (dot a a) + 1) * (root (dot b b) + 1) := by
  have e1 := dot_of h ha hb
  have e2 := dot_of (a := a) (b := a) rfl ha ha
  have e3 := dot_of (a := b) (b := b) rfl hb hb
  have p2 : 0 ≤ dot a a := by rw [e2]; exact sumTo_nonneg (fun i _ => sq_nonneg _)
  have p3 : 0 ≤ dot b b := by rw [e3]; exact sumTo_nonneg (fun i _ => sq_nonneg _)
  have u2 := root_up _ p2 (by have := dot_range a a; omega)
  have u3 := root_up _ p3 (by have := dot_range b b; omega)
  have cs := cauchy (fun i => rd a (i : Int)) (fun i => rd b (i : Int)) a.length
  rw [← e2, ← e1] at cs
  rw [h, ← e3] at cs
  refine ⟨lt_of_roots p2 p3 (by omega) (by omega) cs u2.2.2 u3.2.2, lt_of_roots p2 p3 (by omega) (by omega) ?_ u2.2.2 u3.2.2⟩
  rw [Int.neg_mul_neg]; exact cs
theorem VectorTriangle : lodestarlaw06_VectorTriangle.Pure := by
  intro l0 l1 l2_ _ h0 _ _ h1 _ _ h2 _
  obtain ⟨n, hn, n1, n2⟩ := width_in (mx (l0.length : Int) (mx (l1.length : Int) (l2_.length : Int))) (mx_nonneg _ _ (by omega) (mx_nonneg _ _ (by omega) (by omega)))
  refine ⟨400, ?_⟩
  unfold lodestarlaw06_VectorTriangle.f
  rw [hn, fit06_some l0 (by omega) n n2 400 (by omega), fit06_some l1 (by omega) n n2 400 (by omega), fit06_some l2_ (by omega) n n2 400 (by omega), sure06_at 400 (by omega)]
  simp only [Option.bind_some]
  have ma := fitV_may l0 n n1 n2
  have mb := fitV_may l1 n n1 n2
  have mc := fitV_may l2_ n n1 n2
  have la := fitV_len l0 n
  have lb := fitV_len l1 n
  have lc := fitV_len l2_ n
  generalize fitV l0 n = a at *
  generalize fitV l1 n = b at *
  generalize fitV l2_ n = c at *
  rw [vector_L2_some a c (by omega) (by omega) 400 (by omega) (by omega), vector_L2_some a b (by omega) (by omega) 400 (by omega) (by omega), vector_L2_some b c (by omega) (by omega) 400 (by omega) (by omega), vector_Dot_some a b (by omega) (by omega) 400 (by omega) (by omega), vector_Dot_some a a (by omega) (by omega) 400 (by omega) (by omega), vector_Dot_some b b (by omega) (by omega) 400 (by omega) (by omega)]
  simp only [Option.bind_some]
  have hl2 : ∀ x y, l2 x y ≤ 9223372036854775807 := fun x y => by have := l2_range x y; omega
  have hdot : ∀ x y, dot x y ≤ 9223372036854775807 := fun x y => by have := dot_range x y; omega
  rw [(root_spec _ (hl2 a c)).2.1 400 (by omega), (root_spec _ (hl2 a b)).2.1 400 (by omega), (root_spec _ (hl2 b c)).2.1 400 (by omega), (root_spec _ (hdot a a)).2.1 400 (by omega), (root_spec _ (hdot b b)).2.1 400 (by omega)]
  simp only [Option.bind_some]
  have t := triangle a b c n la lb lc ma mb mc
  have d := dot_most a b (by omega) ma mb
  have r1 := root_l2 a b
  have r2 := root_l2 b c
  have r3 := root_range _ (dot_range a a).2
  have r4 := root_range _ (dot_range b b).2
  have r5 := dot_range a b
  have hm : 0 ≤ (root (dot a a) + 1) * (root (dot b b) + 1) ∧ (root (dot a a) + 1) * (root (dot b b) + 1) ≤ 262145 * 262145 := ⟨Int.mul_nonneg (by omega) (by omega), Int.mul_le_mul (by omega) (by omega) (by omega) (by omega)⟩
  rw [w64 (n := root (l2 a b) + root (l2 b c)) (by omega) (by omega), w64 (n := root (l2 a b) + root (l2 b c) + 1) (by omega) (by omega), w64 (n := root (dot a a) + 1) (by omega) (by omega), w64 (n := root (dot b b) + 1) (by omega) (by omega), w64 (n := (root (dot a a) + 1) * (root (dot b b) + 1)) (by omega) (by omega), w64 (n := -dot a b) (by omega) (by omega)]
  rw [if_pos t, if_pos (by omega), if_pos (by omega)]
end Go.Proofs.Ytbckkllhobcgjaa.Pure
