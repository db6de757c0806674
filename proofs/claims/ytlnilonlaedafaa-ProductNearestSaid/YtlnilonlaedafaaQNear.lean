/- The nearest of some centroids: the program's answer and the document's. -/
import Derived.Test.YtlnilonlaedafaaQWide
import Derived.Test.YtlnilonlaedafaaQVecRef
import Derived.Test.YtlnilonlaedafaaPx2
import Derived.Test.YtlnilonlaedafaaPx6
namespace Go.Proofs.Ytlnilonlaedafaa.P
open Go.RowKit Go.Proofs.YtlnilonlaedafaaW.PrintWords Go.Proofs.YtlnilonlaedafaaW.PrintLast
open Go.Proofs.Ytlnilonlaedafaa.Q
/-- Of the first j centroids: how far the nearest is, and which it is. -/
def nearTo (x : List Int) (cs : List (List Int)) : Nat → Int × Int
  | 0 => (0, -1)
  | j + 1 => if (nearTo x cs j).2 < 0 then (l2 x (rd_L1 cs (j : Int)), (j : Int)) else if l2 x (rd_L1 cs (j : Int)) < (nearTo x cs j).1 then (l2 x (rd_L1 cs (j : Int)), (j : Int)) else nearTo x cs j
def near (x : List Int) (cs : List (List Int)) : Int := (nearTo x cs cs.length).2
theorem l2_ev (a b : List Int) (ha : a.length ≤ 17592186044416) (hb : b.length ≤ 17592186044416) : Ev (fun k => vector_L2.f k a b) (l2 a b) :=
  ⟨a.length + b.length + 1, fun k hk => vector_L2_some a b ha hb k (by omega) (by omega)⟩
theorem dot_ev (a b : List Int) (ha : a.length ≤ 17592186044416) (hb : b.length ≤ 17592186044416) : Ev (fun k => vector_Dot.f k a b) (dot a b) :=
  ⟨a.length + b.length + 1, fun k hk => vector_Dot_some a b ha hb k (by omega) (by omega)⟩
theorem refL2_ev (a b : List Int) (ha : a.length ≤ 17592186044416) (hb : b.length ≤ 17592186044416) : Ev (fun k => lodestarref06_L2.f k a b) (l2 a b) :=
  ⟨2 * a.length + b.length + 2, fun k hk => ref_L2_some a b ha hb k (by omega)⟩
theorem refDot_ev (a b : List Int) (ha : a.length ≤ 17592186044416) (hb : b.length ≤ 17592186044416) : Ev (fun k => lodestarref06_Dot.f k a b) (dot a b) :=
  ⟨2 * a.length + b.length + 2, fun k hk => ref_Dot_some a b ha hb k (by omega)⟩
theorem same_ev (a b : List Int) (ha : a.length ≤ 17592186044416) : Ev (fun k => lodestarref06_Same.f k a b) (decide (a = b)) :=
  ⟨a.length + 1, fun k hk => ref_Same_some a b ha k (by omega)⟩
theorem near_loop (x : List Int) (cs : List (List Int)) (hx : x.length ≤ 17592186044416) (hn : cs.length ≤ 17592186044416) (hc : ∀ c ∈ cs, c.length ≤ 17592186044416) : ∀ (d j : Nat), j + d = cs.length → Ev (fun k => means_Nearest.l0 k x (nearTo x cs j).1 (nearTo x cs j).2 cs (cs.length : Int) (j : Int)) (near x cs) := by
  intro d
  induction d with
  | zero =>
    intro j hj
    obtain rfl : j = cs.length := by omega
    apply Ev.step
    · intro k; rw [means_Nearest.l0, if_neg (by omega)]
    · exact Ev.now _
  | succ d ih =>
    intro j hj
    have hi := ih (j + 1) (by omega)
    obtain ⟨t, ht⟩ : ∃ t, t = l2 x (rd_L1 cs (j : Int)) := ⟨_, rfl⟩
    have hL := l2_ev x (rd_L1 cs (j : Int)) hx (hc _ (L1_mem cs j (by omega)))
    rw [← ht] at hL
    obtain ⟨s, hs⟩ : ∃ s, s = nearTo x cs j := ⟨_, rfl⟩
    have hstep : nearTo x cs (j + 1) = if s.2 < 0 then (t, (j : Int)) else if t < s.1 then (t, (j : Int)) else s := by rw [nearTo, ← ht, ← hs]
    rw [hstep] at hi
    rw [← hs]
    apply Ev.step
    · intro k; rw [means_Nearest.l0, if_pos (by omega), if_pos (by omega), if_pos (by omega), w64 (n := (j : Int) + 1) (by omega) (by omega)]
    · refine Ev.bind hL ?_
      by_cases h1 : s.2 < 0
      · rw [if_pos h1] at hi
        exact Ev.congr (fun k => if_pos h1) hi
      · rw [if_neg h1] at hi
        by_cases h2 : t < s.1
        · rw [if_pos h2] at hi
          exact Ev.congr (fun k => (if_neg h1).trans (if_pos h2)) hi
        · rw [if_neg h2] at hi
          exact Ev.congr (fun k => (if_neg h1).trans (if_neg h2)) hi
theorem near_ev (x : List Int) (cs : List (List Int)) (hx : x.length ≤ 17592186044416) (hn : cs.length ≤ 17592186044416) (hc : ∀ c ∈ cs, c.length ≤ 17592186044416) : Ev (fun k => means_Nearest.f k x cs) (near x cs) :=
  near_loop x cs hx hn hc cs.length 0 (by omega)
theorem ref_near_loop (x : List Int) (cs : List (List Int)) (hx : x.length ≤ 17592186044416) (hn : cs.length ≤ 17592186044416) (hc : ∀ c ∈ cs, c.length ≤ 17592186044416) : ∀ (d j : Nat), j + d = cs.length → Ev (fun k => lodestarref18_Nearest.l0 k x cs (nearTo x cs j).2 (nearTo x cs j).1 (j : Int)) (near x cs) := by
  intro d
  induction d with
  | zero =>
    intro j hj
    obtain rfl : j = cs.length := by omega
    apply Ev.step
    · intro k; rw [lodestarref18_Nearest.l0, if_neg (by omega)]
    · exact Ev.now _
  | succ d ih =>
    intro j hj
    have hi := ih (j + 1) (by omega)
    obtain ⟨t, ht⟩ : ∃ t, t = l2 x (rd_L1 cs (j : Int)) := ⟨_, rfl⟩
    have hL := refL2_ev x (rd_L1 cs (j : Int)) hx (hc _ (L1_mem cs j (by omega)))
    rw [← ht] at hL
    obtain ⟨s, hs⟩ : ∃ s, s = nearTo x cs j := ⟨_, rfl⟩
    have hstep : nearTo x cs (j + 1) = if s.2 < 0 then (t, (j : Int)) else if t < s.1 then (t, (j : Int)) else s := by rw [nearTo, ← ht, ← hs]
    rw [hstep] at hi
    rw [← hs]
    apply Ev.step
    · intro k; rw [lodestarref18_Nearest.l0, if_pos (by omega), if_pos (by omega), w64 (n := (j : Int) + 1) (by omega) (by omega)]
    · refine Ev.bind hL ?_
      by_cases h1 : s.2 < 0
      · rw [if_pos h1] at hi
        exact Ev.congr (fun k => if_pos h1) hi
      · rw [if_neg h1] at hi
        by_cases h2 : t < s.1
        · rw [if_pos h2] at hi
          exact Ev.congr (fun k => (if_neg h1).trans (if_pos h2)) hi
        · rw [if_neg h2] at hi
          exact Ev.congr (fun k => (if_neg h1).trans (if_neg h2)) hi
theorem ref_near_ev (x : List Int) (cs : List (List Int)) (hx : x.length ≤ 17592186044416) (hn : cs.length ≤ 17592186044416) (hc : ∀ c ∈ cs, c.length ≤ 17592186044416) : Ev (fun k => lodestarref18_Nearest.f k x cs) (near x cs) :=
  ref_near_loop x cs hx hn hc cs.length 0 (by omega)
/-- It is one of them, and none is nearer. -/
theorem nearTo_least (x : List Int) (cs : List (List Int)) : ∀ j, 1 ≤ j → (0 ≤ (nearTo x cs j).2 ∧ (nearTo x cs j).2 < j) ∧ (nearTo x cs j).1 = l2 x (rd_L1 cs (nearTo x cs j).2) ∧ ∀ i : Nat, i < j → (nearTo x cs j).1 ≤ l2 x (rd_L1 cs (i : Int)) := by
  intro j
  induction j with
  | zero => intro h; omega
  | succ j ih =>
    intro _
    by_cases hj : j = 0
    · subst hj
      rw [nearTo, if_pos (by simp [nearTo])]
      refine ⟨⟨by simp, by simp⟩, rfl, fun i hi => ?_⟩
      obtain rfl : i = 0 := by omega
      exact Int.le_refl _
    · obtain ⟨⟨b1, b2⟩, b3, b4⟩ := ih (by omega)
      rw [nearTo, if_neg (by omega)]
      by_cases h : l2 x (rd_L1 cs (j : Int)) < (nearTo x cs j).1
      · rw [if_pos h]
        refine ⟨⟨by simp, by simp; omega⟩, rfl, fun i hi => ?_⟩
        by_cases e : i = j
        · subst e; exact Int.le_refl _
        · exact Int.le_trans (Int.le_of_lt h) (b4 i (by omega))
      · rw [if_neg h]
        refine ⟨⟨b1, by omega⟩, b3, fun i hi => ?_⟩
        by_cases e : i = j
        · subst e; omega
        · exact b4 i (by omega)
theorem near_range (x : List Int) (cs : List (List Int)) (h : 1 ≤ cs.length) : 0 ≤ near x cs ∧ near x cs < cs.length := (nearTo_least x cs cs.length h).1
theorem near_least (x : List Int) (cs : List (List Int)) (h : 1 ≤ cs.length) (i : Nat) (hi : i < cs.length) : l2 x (rd_L1 cs (near x cs)) ≤ l2 x (rd_L1 cs (i : Int)) := by
  obtain ⟨_, b3, b4⟩ := nearTo_least x cs cs.length h
  rw [show near x cs = (nearTo x cs cs.length).2 from rfl, ← b3]
  exact b4 i hi
end Go.Proofs.Ytlnilonlaedafaa.P
