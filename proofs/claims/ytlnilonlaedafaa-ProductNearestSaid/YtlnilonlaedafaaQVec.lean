/- Vectors: which may be, how far and how near two are: the program's text and the document's come to one. -/
import Derived.Test.YtlnilonlaedafaaQSumTo
import Derived.Test.YtlnilonlaedafaaPx1
import Derived.Test.YtlnilonlaedafaaPx1
import Derived.Test.YtlnilonlaedafaaPx2
import Derived.Test.YtlnilonlaedafaaPx12
namespace Go.Proofs.Ytlnilonlaedafaa.P
open Go.RowKit Go.Proofs.YtlnilonlaedafaaW.PrintWords Go.Proofs.YtlnilonlaedafaaW.PrintLast
open Go.Proofs.Ytlnilonlaedafaa.Q
/-- A component may be. -/
def okPart (x : Int) : Bool := decide (-32768 ≤ x) && decide (x ≤ 32767)
/-- A vector may be. -/
def mayB (l : List Int) : Bool := l.all okPart && decide (1 ≤ l.length) && decide (l.length ≤ 64)
theorem mayB_iff (l : List Int) : mayB l = true ↔ (∀ x ∈ l, -32768 ≤ x ∧ x ≤ 32767) ∧ 1 ≤ l.length ∧ l.length ≤ 64 := by
  simp [mayB, okPart, List.all_eq_true, and_assoc]
theorem rd_drop (l : List Int) (i : Nat) (h : i < l.length) : l.drop i = rd l (i : Int) :: l.drop (i + 1) := by
  rw [List.drop_eq_getElem_cons h]
  simp [rd, List.getD_eq_getElem?_getD, List.getElem?_eq_getElem h]
theorem rd_mem (l : List Int) (i : Nat) (h : i < l.length) : rd l (i : Int) ∈ l := by
  simp [rd, List.getD_eq_getElem?_getD, List.getElem?_eq_getElem h]
theorem okPart_false {x : Int} (h : x < -32768 ∨ x > 32767) : okPart x = false := by
  unfold okPart
  rcases h with h | h
  · rw [decide_eq_false (by omega)]; rfl
  · rw [decide_eq_false (by omega : ¬ x ≤ 32767), Bool.and_false]
theorem okPart_true {x : Int} (h1 : ¬ x < -32768) (h2 : ¬ x > 32767) : okPart x = true := by
  unfold okPart; rw [decide_eq_true (by omega), decide_eq_true (by omega)]; rfl
theorem may_loop (l : List Int) (hl : l.length ≤ 17592186044416) : ∀ (d i : Nat), i + d = l.length → ∀ k, d < k → vector_may.l0 k l l (l.length : Int) (i : Int) = some ((l.drop i).all okPart && decide (1 ≤ l.length) && decide (l.length ≤ 64)) := by
  intro d
  induction d with
  | zero =>
    intro i hi k hk
    obtain ⟨k, rfl⟩ : ∃ j, k = j + 1 := ⟨k - 1, by omega⟩
    have hd : l.drop i = [] := List.drop_eq_nil_iff.2 (by omega)
    simp only [vector_may.l0]
    rw [if_neg (by omega), hd]
    by_cases h1 : 1 ≤ l.length
    · rw [if_pos (by omega), decide_eq_true h1]
      by_cases h2 : l.length ≤ 64
      · rw [decide_eq_true h2, decide_eq_true (by omega : (l.length : Int) ≤ 64)]; rfl
      · rw [decide_eq_false h2, decide_eq_false (by omega : ¬ (l.length : Int) ≤ 64)]; rfl
    · rw [if_neg (by omega), decide_eq_false h1]; rfl
  | succ d ih =>
    intro i hi k hk
    obtain ⟨k, rfl⟩ : ∃ j, k = j + 1 := ⟨k - 1, by omega⟩
    have hlt : i < l.length := by omega
    simp only [vector_may.l0]
    rw [if_pos (by omega), if_pos (by omega), if_pos (by omega), rd_drop l i hlt, List.all_cons]
    by_cases h1 : rd l (i : Int) < -32768
    · rw [if_pos h1, okPart_false (.inl h1)]; simp
    · rw [if_neg h1]
      by_cases h2 : rd l (i : Int) > 32767
      · rw [if_pos h2, okPart_false (.inr h2)]; simp
      · rw [if_neg h2, okPart_true h1 h2, w64 (by omega) (by omega), Bool.true_and]
        exact ih (i + 1) (by omega) k (by omega)
theorem vector_may_some (l : List Int) (hl : l.length ≤ 17592186044416) (k : Nat) (hk : l.length < k) : vector_may.f k l = some (mayB l) := by
  unfold vector_may.f
  exact may_loop l hl l.length 0 (by omega) k (by omega)
def bothB (a b : List Int) : Bool := decide (a.length = b.length) && mayB a && mayB b
theorem bothB_iff (a b : List Int) : bothB a b = true ↔ a.length = b.length ∧ mayB a = true ∧ mayB b = true := by
  simp [bothB, and_assoc]
theorem vector_both_some (a b : List Int) (ha : a.length ≤ 17592186044416) (hb : b.length ≤ 17592186044416) (k : Nat) (hk : a.length < k) (hk2 : b.length < k) : vector_both.f k a b = some (bothB a b) := by
  unfold vector_both.f bothB
  by_cases h : (a.length : Int) = (b.length : Int)
  · rw [if_pos h, vector_may_some a ha k hk, vector_may_some b hb k hk2, decide_eq_true (by omega : a.length = b.length)]
    simp only [Option.bind_some]
    cases mayB a <;> simp
  · rw [if_neg h, decide_eq_false (by omega : ¬ a.length = b.length)]; simp
/-! ### the sums -/
def l2 (a b : List Int) : Int := if bothB a b = true then sumTo (fun i => (rd a (i : Int) - rd b (i : Int)) * (rd a (i : Int) - rd b (i : Int))) a.length else 0
def dot (a b : List Int) : Int := if bothB a b = true then sumTo (fun i => rd a (i : Int) * rd b (i : Int)) a.length else 0
theorem may_rd {l : List Int} (h : mayB l = true) (i : Nat) (hi : i < l.length) : -32768 ≤ rd l (i : Int) ∧ rd l (i : Int) ≤ 32767 := ((mayB_iff l).1 h).1 _ (rd_mem l i hi)
theorem sq_bound {x : Int} {m : Int} (h1 : -m ≤ x) (h2 : x ≤ m) (hm : 0 ≤ m) : 0 ≤ x * x ∧ x * x ≤ m * m := by
  refine ⟨sq_nonneg x, ?_⟩
  rcases Int.le_total 0 x with h | h
  · exact Int.mul_le_mul h2 h2 h hm
  · have : -x * -x ≤ m * m := Int.mul_le_mul (by omega) (by omega) (by omega) hm
    rwa [Int.neg_mul_neg] at this
theorem prod_bound {x y : Int} (hx : -32768 ≤ x ∧ x ≤ 32767) (hy : -32768 ≤ y ∧ y ≤ 32767) : -1073741824 ≤ x * y ∧ x * y ≤ 1073741824 := by
  have h1 := sq_bound (x := x + y) (m := 65536) (by omega) (by omega) (by omega)
  have h2 := sq_bound (x := x - y) (m := 65536) (by omega) (by omega) (by omega)
  have e1 : (x + y) * (x + y) = x * x + y * y + 2 * (x * y) := by rw [Int.add_mul, Int.mul_add, Int.mul_add, Int.mul_comm y x]; omega
  have e2 : (x - y) * (x - y) = x * x + y * y - 2 * (x * y) := by rw [Int.sub_mul, Int.mul_sub, Int.mul_sub, Int.mul_comm y x]; omega
  have h3 := sq_nonneg x
  have h4 := sq_nonneg y
  have h5 := sq_bound (x := x) (m := 32768) (by omega) (by omega) (by omega)
  have h6 := sq_bound (x := y) (m := 32768) (by omega) (by omega) (by omega)
  omega
theorem l2_acc (a b : List Int) (h : bothB a b = true) : ∀ n, n ≤ a.length → vector_L2.acc n a b = sumTo (fun i => (rd a (i : Int) - rd b (i : Int)) * (rd a (i : Int) - rd b (i : Int))) n ∧ 0 ≤ vector_L2.acc n a b ∧ vector_L2.acc n a b ≤ n * 4294967296 := by
  obtain ⟨hl, ha, hb⟩ := (bothB_iff a b).1 h
  intro n
  induction n with
  | zero => intro _; exact ⟨rfl, Int.le_refl _, by simp [vector_L2.acc]⟩
  | succ n ih =>
    intro hn
    obtain ⟨e, h0, h1⟩ := ih (by omega)
    have ra := may_rd ha n (by omega)
    have rb := may_rd hb n (by omega)
    have hsq := sq_bound (x := rd a (n : Int) - rd b (n : Int)) (m := 65536) (by omega) (by omega) (by omega)
    have hlen := ((mayB_iff a).1 ha).2.2
    simp only [vector_L2.acc, sumTo]
    rw [w64 (n := rd a (n : Int) - rd b (n : Int)) (by omega) (by omega), w64 (n := (rd a (n : Int) - rd b (n : Int)) * (rd a (n : Int) - rd b (n : Int))) (by omega) (by omega), w64 (by omega) (by omega), e]
    rw [e] at h0 h1
    exact ⟨rfl, by omega, by omega⟩
theorem dot_acc (a b : List Int) (h : bothB a b = true) : ∀ n, n ≤ a.length → vector_Dot.acc n a b = sumTo (fun i => rd a (i : Int) * rd b (i : Int)) n ∧ -(n * 1073741824 : Int) ≤ vector_Dot.acc n a b ∧ vector_Dot.acc n a b ≤ n * 1073741824 := by
  obtain ⟨hl, ha, hb⟩ := (bothB_iff a b).1 h
  intro n
  induction n with
  | zero => intro _; exact ⟨rfl, by simp [vector_Dot.acc], by simp [vector_Dot.acc]⟩
  | succ n ih =>
    intro hn
    obtain ⟨e, h0, h1⟩ := ih (by omega)
    have hp := prod_bound (may_rd ha n (by omega)) (may_rd hb n (by omega))
    have hlen := ((mayB_iff a).1 ha).2.2
    simp only [vector_Dot.acc, sumTo]
    rw [w64 (n := rd a (n : Int) * rd b (n : Int)) (by omega) (by omega), w64 (by omega) (by omega), e]
    rw [e] at h0 h1
    exact ⟨rfl, by omega, by omega⟩
theorem l2_range (a b : List Int) : 0 ≤ l2 a b ∧ l2 a b ≤ 274877906944 := by
  unfold l2
  by_cases h : bothB a b = true
  · rw [if_pos h]
    have := l2_acc a b h a.length (Nat.le_refl _)
    have hlen := ((mayB_iff a).1 ((bothB_iff a b).1 h).2.1).2.2
    omega
  · rw [if_neg h]; omega
theorem dot_range (a b : List Int) : -68719476736 ≤ dot a b ∧ dot a b ≤ 68719476736 := by
  unfold dot
  by_cases h : bothB a b = true
  · rw [if_pos h]
    have := dot_acc a b h a.length (Nat.le_refl _)
    have hlen := ((mayB_iff a).1 ((bothB_iff a b).1 h).2.1).2.2
    omega
  · rw [if_neg h]; omega
theorem vector_L2_some (a b : List Int) (ha : a.length ≤ 17592186044416) (hb : b.length ≤ 17592186044416) (k : Nat) (hk : a.length < k) (hk2 : b.length < k) : vector_L2.f k a b = some (l2 a b) := by
  unfold vector_L2.f
  rw [vector_both_some a b ha hb k hk hk2]
  simp only [Option.bind_some]
  unfold l2
  by_cases h : bothB a b = true
  · rw [if_pos h, if_pos h, (l2_acc a b h a.length (Nat.le_refl _)).1]
  · rw [if_neg h, if_neg h]
theorem vector_Dot_some (a b : List Int) (ha : a.length ≤ 17592186044416) (hb : b.length ≤ 17592186044416) (k : Nat) (hk : a.length < k) (hk2 : b.length < k) : vector_Dot.f k a b = some (dot a b) := by
  unfold vector_Dot.f
  rw [vector_both_some a b ha hb k hk hk2]
  simp only [Option.bind_some]
  unfold dot
  by_cases h : bothB a b = true
  · rw [if_pos h, if_pos h, (dot_acc a b h a.length (Nat.le_refl _)).1]
  · rw [if_neg h, if_neg h]
theorem bothB_comm (a b : List Int) : bothB a b = bothB b a := by
  rw [Bool.eq_iff_iff, bothB_iff, bothB_iff]
  exact ⟨fun ⟨h1, h2, h3⟩ => ⟨h1.symm, h3, h2⟩, fun ⟨h1, h2, h3⟩ => ⟨h1.symm, h3, h2⟩⟩
theorem l2_comm (a b : List Int) : l2 a b = l2 b a := by
  unfold l2
  rw [bothB_comm b a]
  by_cases h : bothB a b = true
  · rw [if_pos h, if_pos h, ← ((bothB_iff a b).1 h).1]
    apply sumTo_congr
    intro i _
    rw [← Int.neg_mul_neg]
    congr 1 <;> omega
  · rw [if_neg h, if_neg h]
theorem dot_comm (a b : List Int) : dot a b = dot b a := by
  unfold dot
  rw [bothB_comm b a]
  by_cases h : bothB a b = true
  · rw [if_pos h, if_pos h, ← ((bothB_iff a b).1 h).1]
    apply sumTo_congr
    intro i _
    rw [Int.mul_comm]
  · rw [if_neg h, if_neg h]
end Go.Proofs.Ytlnilonlaedafaa.P
