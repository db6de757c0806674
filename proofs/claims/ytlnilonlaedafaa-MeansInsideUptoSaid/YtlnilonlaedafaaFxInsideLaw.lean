/- The plain law of MeansInside: a mean lies between the least and the greatest. -/
import Derived.Test.YtlnilonlaedafaaFxFit
namespace Go.Proofs.Ytlnilonlaedafaa.Fx
open Go Go.RowKit
set_option linter.unusedSimpArgs false
set_option linter.unusedVariables false
/-- The least (p true) or the greatest of a group's k-th components; of none: the base's. -/
def ext1 (p : Bool) (x y : Int) : Int := if p then min x y else max x y
def extC (p : Bool) (base : List Int) (g : List (List Int)) (k : Nat) : Int :=
  match g with
  | [] => base.getD k 0
  | v :: t => t.foldl (fun m u => ext1 p m (u.getD k 0)) (v.getD k 0)
theorem extC_snoc (p : Bool) (base : List Int) (g : List (List Int)) (v : List Int) (k : Nat) : extC p base (g ++ [v]) k = if g = [] then v.getD k 0 else ext1 p (extC p base g k) (v.getD k 0) := by
  cases g with
  | nil => rfl
  | cons u t => simp [extC, List.foldl_append]
def extV (p : Bool) (base : List Int) (g : List (List Int)) (d : Nat) : List Int := (List.range d).map (extC p base g)
theorem extV_len (p : Bool) (base : List Int) (g : List (List Int)) (d : Nat) : (extV p base g d).length = d := by simp [extV]
theorem extV_nil (p : Bool) (base : List Int) {d : Nat} (h : base.length = d) : extV p base [] d = base := by
  subst h
  apply List.ext_getElem (by simp [extV])
  intro i h1 h2
  simp [extV, extC, h2]
/-- The first j components behind one more row. -/
def extJ (p : Bool) (base : List Int) (g : List (List Int)) (v : List Int) (d j : Nat) : List Int := (List.range d).map fun k => if k < j then extC p base (g ++ [v]) k else extC p base g k
theorem extJ_len (p : Bool) (base : List Int) (g : List (List Int)) (v : List Int) (d j : Nat) : (extJ p base g v d j).length = d := by simp [extJ]
theorem extJ_zero (p : Bool) (base : List Int) (g : List (List Int)) (v : List Int) (d : Nat) : extJ p base g v d 0 = extV p base g d := by simp [extJ, extV]
theorem extJ_all (p : Bool) (base : List Int) (g : List (List Int)) (v : List Int) (d : Nat) : extJ p base g v d d = extV p base (g ++ [v]) d := by
  unfold extJ extV
  apply List.map_congr_left
  intro k hk
  rw [if_pos (List.mem_range.1 hk)]
theorem extJ_get (p : Bool) (base : List Int) (g : List (List Int)) (v : List Int) {d j : Nat} (h : j < d) : (extJ p base g v d j)[j]? = some (extC p base g j) := by simp [extJ, h]
theorem extJ_set (p : Bool) (base : List Int) (g : List (List Int)) (v : List Int) {d j : Nat} (h : j < d) : (extJ p base g v d j).set j (extC p base (g ++ [v]) j) = extJ p base g v d (j + 1) := by
  apply List.ext_getElem (by simp [extJ])
  intro i h1 h2
  simp only [extJ, List.getElem_set, List.getElem_map, List.getElem_range]
  by_cases e : j = i
  · subst e; simp
  · rw [if_neg e]
    by_cases e2 : i < j
    · rw [if_pos e2, if_pos (by omega)]
    · rw [if_neg e2, if_neg (by omega)]
theorem extJ_keep (p : Bool) (base : List Int) (g : List (List Int)) (v : List Int) {d j : Nat} (h : j < d) (he : extC p base (g ++ [v]) j = extC p base g j) : extJ p base g v d (j + 1) = extJ p base g v d j := by
  rw [← extJ_set p base g v h, he]
  apply List.ext_getElem (by simp)
  intro i h1 h2
  rw [List.getElem_set]
  split
  · rename_i e; subst e; simp [extJ]
  · rfl
theorem ext_fold_le (p : Bool) (k : Nat) : ∀ (t : List (List Int)) (m : Int), (if p then t.foldl (fun m u => ext1 p m (u.getD k 0)) m ≤ m else m ≤ t.foldl (fun m u => ext1 p m (u.getD k 0)) m) ∧ ∀ u ∈ t, (if p then t.foldl (fun m u => ext1 p m (u.getD k 0)) m ≤ u.getD k 0 else u.getD k 0 ≤ t.foldl (fun m u => ext1 p m (u.getD k 0)) m)
  | [], m => by cases p <;> simp
  | v :: t, m => by
    obtain ⟨h1, h2⟩ := ext_fold_le p k t (ext1 p m (v.getD k 0))
    rw [List.foldl_cons]
    cases p
    · simp only [Bool.false_eq_true, if_false, ext1] at *
      refine ⟨by omega, fun u hu => ?_⟩
      rcases List.mem_cons.1 hu with rfl | hu
      · omega
      · exact h2 u hu
    · simp only [if_true, ext1] at *
      refine ⟨by omega, fun u hu => ?_⟩
      rcases List.mem_cons.1 hu with rfl | hu
      · omega
      · exact h2 u hu
theorem extC_bound (p : Bool) (base : List Int) {g : List (List Int)} (k : Nat) : ∀ u ∈ g, (if p then extC p base g k ≤ u.getD k 0 else u.getD k 0 ≤ extC p base g k) := by
  intro u hu
  cases g with
  | nil => cases hu
  | cons v t =>
    obtain ⟨h1, h2⟩ := ext_fold_le p k t (v.getD k 0)
    rcases List.mem_cons.1 hu with rfl | hu
    · exact h1
    · exact h2 u hu
theorem sum_between (k : Nat) (lo hi : Int) : ∀ g : List (List Int), (∀ u ∈ g, lo ≤ u.getD k 0 ∧ u.getD k 0 ≤ hi) → lo * (g.length : Int) ≤ sumAt g k ∧ sumAt g k ≤ hi * (g.length : Int)
  | [], _ => by simp [sumAt]
  | v :: t, h => by
    obtain ⟨h1, h2⟩ := sum_between k lo hi t fun u hu => h u (by simp [hu])
    obtain ⟨h3, h4⟩ := h v (by simp)
    have e : sumAt (v :: t) k = v.getD k 0 + sumAt t k := by simp [sumAt]
    rw [e, List.length_cons]
    have e1 : lo * ((t.length + 1 : Nat) : Int) = lo * (t.length : Int) + lo := by rw [Int.natCast_add, Int.mul_add]; simp
    have e2 : hi * ((t.length + 1 : Nat) : Int) = hi * (t.length : Int) + hi := by rw [Int.natCast_add, Int.mul_add]; simp
    omega
/-- What a step makes of a centroid lies between the least and the greatest of its rows. -/
theorem step_between {l c : List (List Int)} {i d k : Nat} (hi : i < c.length) (hd : (c.getD i []).length = d) (hk : k < d) :
    extC true (c.getD i []) (groupOf c i l) k ≤ (stepRow l c i).getD k 0 ∧ (stepRow l c i).getD k 0 ≤ extC false (c.getD i []) (groupOf c i l) k := by
  unfold stepRow
  split
  · rename_i h
    rw [h]; exact ⟨Int.le_refl _, Int.le_refl _⟩
  · rename_i h
    have hlo := extC_bound true (c.getD i []) (g := groupOf c i l) k
    have hhi := extC_bound false (c.getD i []) (g := groupOf c i l) k
    simp only [if_true] at hlo
    simp only [Bool.false_eq_true, if_false] at hhi
    generalize extC true (c.getD i []) (groupOf c i l) k = lo at *
    generalize extC false (c.getD i []) (groupOf c i l) k = hi' at *
    have hs := sum_between k lo hi' (groupOf c i l) fun u hu => ⟨hlo u hu, hhi u hu⟩
    have hn : 0 < ((groupOf c i l).length : Int) := by have := List.length_pos_iff.2 h; omega
    have e : (((sums (c.getD i []).length (groupOf c i l)).map (· / ((groupOf c i l).length : Int))).getD k 0) = sumAt (groupOf c i l) k / ((groupOf c i l).length : Int) := by
      rw [hd]; simp [sums, hk]
    rw [e]
    exact ⟨Int.le_ediv_of_mul_le hn hs.1, Int.ediv_le_of_le_mul hn hs.2⟩
theorem group_take {l c : List (List Int)} {i r : Nat} (h : r < l.length) : groupOf c i (l.take (r + 1)) = if at' l[r] c = i then groupOf c i (l.take r) ++ [l[r]] else groupOf c i (l.take r) := by
  rw [List.take_succ_eq_append_getElem h, group_snoc]
end Go.Proofs.Ytlnilonlaedafaa.Fx
