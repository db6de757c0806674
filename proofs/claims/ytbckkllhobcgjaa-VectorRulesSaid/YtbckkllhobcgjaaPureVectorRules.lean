/- lodestarlaw06.VectorRules: distances and products are the same the other way round, and hold together as squares do; a move changes no distance. For every two lists of ints and every int. -/
import Derived.Test.YtbckkllhobcgjaaQFit06
import Derived.Test.YtbckkllhobcgjaaQSure06
import Derived.Test.YtbckkllhobcgjaaQVecRef
import Derived.Test.YtbckkllhobcgjaaPx46
namespace Go.Proofs.Ytbckkllhobcgjaa.Pure
open Go.RowKit Go.Proofs.Ytbckkllhobcgjaa.P Go.Proofs.YtbckkllhobcgjaaW.PrintWords Go.Proofs.YtbckkllhobcgjaaW.PrintLast Go.Proofs.YtbckkllhobcgjaaW.PrintMore
open Go.Proofs.Ytbckkllhobcgjaa.Q
theorem l2_zero_iff (a b : List Int) (h : a.length = b.length) (ha : mayB a = true) (hb : mayB b = true) : l2 a b = 0 ↔ a = b := by
  rw [l2_of h ha hb]
  constructor
  · intro hs
    have hz := sumTo_zero (fun i _ => sq_nonneg _) hs
    apply List.ext_getElem h
    intro i h1 h2
    have := hz i h1
    have e1 : rd a (i : Int) = a[i] := by simp [rd, List.getD_eq_getElem?_getD, List.getElem?_eq_getElem h1]
    have e2 : rd b (i : Int) = b[i] := by simp [rd, List.getD_eq_getElem?_getD, List.getElem?_eq_getElem h2]
    rw [e1, e2] at this
    rcases Int.mul_eq_zero.1 this with h | h <;> omega
  · rintro rfl
    have : ∀ i, i < a.length → (rd a (i : Int) - rd a (i : Int)) * (rd a (i : Int) - rd a (i : Int)) = 0 := fun i _ => by rw [Int.sub_self]; rfl
    rw [sumTo_congr (g := fun _ => 0) this]
    clear this h ha hb
    generalize a.length = n
    induction n with
    | zero => rfl
    | succ n ih => simp only [sumTo]; rw [ih]; rfl
theorem squares (a b : List Int) (h : a.length = b.length) (ha : mayB a = true) (hb : mayB b = true) : dot a a + dot b b = l2 a b + 2 * dot a b := by
  rw [l2_of h ha hb, dot_of h ha hb, dot_of rfl ha ha, dot_of rfl hb hb, ← h, ← sumTo_mul, ← sumTo_add, ← sumTo_add]
  apply sumTo_congr
  intro i _
  generalize rd a (i : Int) = x
  generalize rd b (i : Int) = y
  rw [Int.sub_mul, Int.mul_sub, Int.mul_sub, Int.mul_comm y x]; omega
/-! the loops that clamp, and that move -/
def clampTo (l : List Int) (i : Nat) : List Int := (List.range l.length).map fun j => if j < i then mx (-32000) (mn (rd l (j : Int)) 32000) else rd l (j : Int)
def moveTo (m : Int) (l : List Int) (i : Nat) : List Int := (List.range l.length).map fun j => if j < i then rd l (j : Int) + m else rd l (j : Int)
theorem setTo (F : Nat → Int) (l : List Int) (i : Nat) (_ : i < l.length) : ((List.range l.length).map fun j => if j < i then F j else rd l (j : Int)).set i (F i) = (List.range l.length).map fun j => if j < i + 1 then F j else rd l (j : Int) := by
  apply List.ext_getElem (by simp)
  intro j h1 h2
  simp only [List.length_set, List.length_map, List.length_range] at h1
  rw [List.getElem_set]
  by_cases e : i = j
  · subst e; simp
  · have e1 : (j < i + 1) = (j < i) := by simp; omega
    simp [e, e1]
theorem rdTo (F : Nat → Int) (l : List Int) (i : Nat) (hi : i < l.length) : rd ((List.range l.length).map fun j => if j < i then F j else rd l (j : Int)) (i : Int) = rd l (i : Int) := by
  simp [rd, List.getD_eq_getElem?_getD, hi]
theorem to0 (F : Nat → Int) (l : List Int) : ((List.range l.length).map fun j => if j < 0 then F j else rd l (j : Int)) = l := by
  apply List.ext_getElem (by simp)
  intro j h1 h2
  simp [rd, List.getD_eq_getElem?_getD, List.getElem?_eq_getElem h2]
theorem rules_tail (m : Int) (n : Nat) (a c d x y : List Int) (k : Nat) (hk : 150 < k) (hn : n ≤ 64) (lc : c.length = n) (ld : d.length = n) (lx : x.length = n) (ly : y.length = n) (la : a.length = n)
    (hL : l2 c d = l2 x y) (hcos : dot a a = 0 ∨ 1048576 ≤ cosOf a a) : lodestarlaw06_VectorRules.l1 k m (n : Int) a c d x y (n : Int) = some true := by
  obtain ⟨k, rfl⟩ : ∃ j, k = j + 1 := ⟨k - 1, by omega⟩
  simp only [lodestarlaw06_VectorRules.l1]
  rw [if_neg (by omega), vector_L2_some c d (by omega) (by omega) k (by omega) (by omega), vector_L2_some x y (by omega) (by omega) k (by omega) (by omega), vector_Dot_some a a (by omega) (by omega) k (by omega) (by omega), vector_Cos_some a a (by omega) (by omega) k (by omega) (by omega) (by omega), sure06_at k (by omega)]
  simp only [Option.bind_some]
  rw [if_pos hL]
  by_cases h : dot a a = 0
  · rw [if_pos h]
  · rw [if_neg h, if_pos (by omega)]
theorem rules_moves (m : Int) (hm : -100 ≤ m ∧ m ≤ 100) (n : Nat) (hn : n ≤ 64) (a c d : List Int) (lc : c.length = n) (ld : d.length = n) (la : a.length = n) (rc : ∀ i : Nat, -32000 ≤ rd c (i : Int) ∧ rd c (i : Int) ≤ 32000) (rdd : ∀ i : Nat, -32000 ≤ rd d (i : Int) ∧ rd d (i : Int) ≤ 32000)
    (hL : l2 c d = l2 (moveTo m c n) (moveTo m d n)) (hcos : dot a a = 0 ∨ 1048576 ≤ cosOf a a) : ∀ (e i : Nat), i + e = n → ∀ k, 160 + e < k → lodestarlaw06_VectorRules.l1 k m (n : Int) a c d (moveTo m c i) (moveTo m d i) (i : Int) = some true := by
  intro e
  induction e with
  | zero =>
    intro i hi k hk
    obtain rfl : i = n := by omega
    exact rules_tail m i a c d _ _ k (by omega) hn lc ld (by simp [moveTo, lc]) (by simp [moveTo, ld]) la hL hcos
  | succ e ih =>
    intro i hi k hk
    obtain ⟨k, rfl⟩ : ∃ j, k = j + 1 := ⟨k - 1, by omega⟩
    have h1 := rc i
    have h2 := rdd i
    have x1 := setTo (fun j => rd c (j : Int) + m) c i (by omega)
    have x2 := setTo (fun j => rd d (j : Int) + m) d i (by omega)
    have y1 := rdTo (fun j => rd c (j : Int) + m) c i (by omega)
    have y2 := rdTo (fun j => rd d (j : Int) + m) d i (by omega)
    simp only [lodestarlaw06_VectorRules.l1]
    rw [if_pos (by omega), if_pos (by omega), if_pos (by simp [moveTo]; omega), if_pos (by simp [moveTo]; omega)]
    have := ih (i + 1) (by omega) k (by omega)
    unfold moveTo at this ⊢
    rw [y1, y2, w64 (n := rd c (i : Int) + m) (by omega) (by omega), w64 (n := rd d (i : Int) + m) (by omega) (by omega), Int.toNat_natCast, x1, x2, w64 (n := (i : Int) + 1) (by omega) (by omega)]
    exact this
theorem rules_clamps (m : Int) (hm : -100 ≤ m ∧ m ≤ 100) (n : Nat) (hn : n ≤ 64) (a b : List Int) (la : a.length = n) (lb : b.length = n)
    (hL : l2 (clampTo a n) (clampTo b n) = l2 (moveTo m (clampTo a n) n) (moveTo m (clampTo b n) n)) (hcos : dot a a = 0 ∨ 1048576 ≤ cosOf a a) : ∀ (e i : Nat), i + e = n → ∀ k, 300 + e < k → lodestarlaw06_VectorRules.l0 k m (n : Int) a (clampTo a i) (clampTo b i) (i : Int) = some true := by
  intro e
  induction e with
  | zero =>
    intro i hi k hk
    obtain ⟨k, rfl⟩ : ∃ j, k = j + 1 := ⟨k - 1, by omega⟩
    obtain rfl : i = n := by omega
    simp only [lodestarlaw06_VectorRules.l0]
    have lc : (clampTo a i).length = i := by simp [clampTo, la]
    have ld : (clampTo b i).length = i := by simp [clampTo, lb]
    rw [if_neg (by omega), twin06_some _ (by omega), twin06_some _ (by omega)]
    simp only [Option.bind_some]
    have hr : ∀ l : List Int, l.length = i → ∀ j : Nat, -32000 ≤ rd (clampTo l i) (j : Int) ∧ rd (clampTo l i) (j : Int) ≤ 32000 := by
      intro l ll j
      by_cases hj : j < i
      · have : rd (clampTo l i) (j : Int) = mx (-32000) (mn (rd l (j : Int)) 32000) := by simp [rd, clampTo, List.getD_eq_getElem?_getD, ll, hj]
        rw [this]
        unfold mx mn
        repeat' split
        all_goals omega
      · have : rd (clampTo l i) (j : Int) = 0 := by simp [rd, clampTo, List.getD_eq_getElem?_getD, ll, hj]
        rw [this]; omega
    have := rules_moves m hm i hn a (clampTo a i) (clampTo b i) lc ld la (hr a la) (hr b lb) hL hcos i 0 (by omega) k (by omega)
    unfold moveTo at this
    rw [to0, to0] at this
    exact this
  | succ e ih =>
    intro i hi k hk
    obtain ⟨k, rfl⟩ : ∃ j, k = j + 1 := ⟨k - 1, by omega⟩
    have x1 := setTo (fun j => mx (-32000) (mn (rd a (j : Int)) 32000)) a i (by omega)
    have x2 := setTo (fun j => mx (-32000) (mn (rd b (j : Int)) 32000)) b i (by omega)
    have y1 := rdTo (fun j => mx (-32000) (mn (rd a (j : Int)) 32000)) a i (by omega)
    have y2 := rdTo (fun j => mx (-32000) (mn (rd b (j : Int)) 32000)) b i (by omega)
    simp only [lodestarlaw06_VectorRules.l0]
    rw [if_pos (by omega), if_pos (by omega), if_pos (by simp [clampTo]; omega), if_pos (by simp [clampTo]; omega)]
    have := ih (i + 1) (by omega) k (by omega)
    unfold clampTo at this ⊢
    rw [y1, y2, Int.toNat_natCast, x1, x2, w64 (n := (i : Int) + 1) (by omega) (by omega)]
    exact this
theorem moved_same (m : Int) (hm : -100 ≤ m ∧ m ≤ 100) (n : Nat) (n1 : 1 ≤ n) (n2 : n ≤ 64) (a b : List Int) (la : a.length = n) (lb : b.length = n) : l2 (clampTo a n) (clampTo b n) = l2 (moveTo m (clampTo a n) n) (moveTo m (clampTo b n) n) := by
  have rc : ∀ l : List Int, l.length = n → (clampTo l n).length = n ∧ ∀ j : Nat, j < n → -32000 ≤ rd (clampTo l n) (j : Int) ∧ rd (clampTo l n) (j : Int) ≤ 32000 := by
    intro l ll
    refine ⟨by simp [clampTo, ll], fun j hj => ?_⟩
    have : rd (clampTo l n) (j : Int) = mx (-32000) (mn (rd l (j : Int)) 32000) := by simp [rd, clampTo, List.getD_eq_getElem?_getD, ll, hj]
    rw [this]
    unfold mx mn
    repeat' split
    all_goals omega
  have mvd : ∀ c : List Int, c.length = n → ∀ j : Nat, j < n → rd (moveTo m c n) (j : Int) = rd c (j : Int) + m := by
    intro c lc j hj
    simp [rd, moveTo, List.getD_eq_getElem?_getD, lc, hj]
  have may : ∀ c : List Int, c.length = n → (∀ j : Nat, j < n → -32768 ≤ rd c (j : Int) ∧ rd c (j : Int) ≤ 32767) → mayB c = true := by
    intro c lc h
    rw [mayB_iff, lc]
    refine ⟨fun x hx => ?_, n1, n2⟩
    obtain ⟨i, hi, rfl⟩ := List.mem_iff_getElem.1 hx
    have := h i (by omega)
    have e : rd c (i : Int) = c[i] := by simp [rd, List.getD_eq_getElem?_getD, List.getElem?_eq_getElem hi]
    rwa [e] at this
  obtain ⟨lca, ra⟩ := rc a la
  obtain ⟨lcb, rb⟩ := rc b lb
  have lma : (moveTo m (clampTo a n) n).length = n := by simp [moveTo, lca]
  have lmb : (moveTo m (clampTo b n) n).length = n := by simp [moveTo, lcb]
  rw [l2_of (by omega) (may _ lca (fun j hj => by have := ra j hj; omega)) (may _ lcb (fun j hj => by have := rb j hj; omega))]
  rw [l2_of (by omega) (may _ lma (fun j hj => by rw [mvd _ lca j hj]; have := ra j hj; omega)) (may _ lmb (fun j hj => by rw [mvd _ lcb j hj]; have := rb j hj; omega))]
  rw [lca, lma]
  apply sumTo_congr
  intro i hi
  rw [mvd _ lca i hi, mvd _ lcb i hi]
  congr 1 <;> omega
theorem cos_self (a : List Int) (ha : mayB a = true) : dot a a = 0 ∨ 1048576 ≤ cosOf a a := by
  have e := dot_of (a := a) (b := a) rfl ha ha
  have p : 0 ≤ dot a a := by rw [e]; exact sumTo_nonneg (fun i _ => sq_nonneg _)
  have hr := dot_range a a
  by_cases h : dot a a = 0
  · exact .inl h
  · right
    have hs := (root_spec (dot a a) (by omega)).2.2
    have hz := root_zero (dot a a) (by omega)
    have hr2 := root_range (dot a a) hr.2
    rcases hs with ⟨h1, _⟩ | ⟨h1, h2⟩
    · omega
    · have hp : 0 < root (dot a a) * root (dot a a) := Int.mul_pos (by omega) (by omega)
      unfold cosOf
      rw [if_neg (by omega)]
      have hf := fdiv_pos (a := dot a a * 1048576) hp
      have hq := h2.2.1
      generalize (dot a a * 1048576).fdiv (root (dot a a) * root (dot a a)) = q at *
      generalize root (dot a a) * root (dot a a) = s at *
      refine Int.not_lt.1 fun hl => ?_
      have : (q + 1) * s ≤ 1048576 * s := Int.mul_le_mul_of_nonneg_right (by omega) (by omega)
      rw [Int.add_mul] at this
      omega
theorem VectorRules : lodestarlaw06_VectorRules.Pure := by
  intro l0 l1 move _ h0 _ _ h1 _ wm
  obtain ⟨n, hn, n1, n2⟩ := width_in (mx (l0.length : Int) (l1.length : Int)) (mx_nonneg _ _ (by omega) (by omega))
  refine ⟨700, ?_⟩
  unfold lodestarlaw06_VectorRules.f
  rw [hn, fit06_some l0 (by omega) n n2 700 (by omega), fit06_some l1 (by omega) n n2 700 (by omega)]
  simp only [Option.bind_some]
  have ma := fitV_may l0 n n1 n2
  have mb := fitV_may l1 n n1 n2
  have la := fitV_len l0 n
  have lb := fitV_len l1 n
  generalize fitV l0 n = a at *
  generalize fitV l1 n = b at *
  rw [vector_L2_some a b (by omega) (by omega) 700 (by omega) (by omega), vector_L2_some b a (by omega) (by omega) 700 (by omega) (by omega), vector_Dot_some a b (by omega) (by omega) 700 (by omega) (by omega), vector_Dot_some b a (by omega) (by omega) 700 (by omega) (by omega), vector_Cos_some a b (by omega) (by omega) 700 (by omega) (by omega) (by omega), vector_Cos_some b a (by omega) (by omega) 700 (by omega) (by omega) (by omega), ref_Same_some a b (by omega) 700 (by omega)]
  simp only [Option.bind_some]
  rw [if_pos (l2_comm a b), if_pos (dot_comm a b), if_pos (cosOf_comm a b)]
  have e1 : ((l2 a b == 0) != decide (a = b)) = false := by
    have := l2_zero_iff a b (by omega) ma mb
    by_cases e : a = b
    · rw [decide_eq_true e, beq_iff_eq.2 (this.2 e)]; rfl
    · rw [decide_eq_false e, beq_eq_false_iff_ne.2 (fun h => e (this.1 h))]; rfl
  rw [e1, if_neg (by simp), decide_eq_false (by have := l2_range a b; omega : ¬ l2 a b < 0)]
  have hj : ∀ m, -100 ≤ m ∧ m ≤ 100 → lodestarlaw06_VectorRules.l0 699 m (n : Int) a a b 0 = some true := by
    intro m hm
    have := rules_clamps m hm n n2 a b la lb (moved_same m hm n n1 n2 a b la lb) (cos_self a ma) n 0 (by omega) 699 (by omega)
    unfold clampTo at this
    rw [to0, to0] at this
    exact this
  rw [show (700 : Nat) = 699 + 1 from rfl]
  simp only [lodestarlaw06_VectorRules.j0]
  rw [if_neg (by simp), vector_Dot_some a a (by omega) (by omega) 699 (by omega) (by omega), vector_Dot_some b b (by omega) (by omega) 699 (by omega) (by omega), vector_L2_some a b (by omega) (by omega) 699 (by omega) (by omega), vector_Dot_some a b (by omega) (by omega) 699 (by omega) (by omega)]
  simp only [Option.bind_some]
  rw [twin06_some a (by omega), twin06_some b (by omega)]
  simp only [Option.bind_some]
  have hs := squares a b (by omega) ma mb
  have d1 := dot_range a b
  rw [w64 (n := 2 * dot a b) (by omega) (by omega), if_pos (by rw [hs])]
  exact hj _ (by unfold mx mn; repeat' split <;> omega)
end Go.Proofs.Ytbckkllhobcgjaa.Pure
