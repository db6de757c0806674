-- Written by hp.py, a program of this seat, which calls the kit's printer; contracts proved by hand stand among the printed ones. Lean checks it.
import Derived.Test.YtbckkllhobcgjaaPx0
import Derived.Test.YtbckkllhobcgjaaPx23
import Derived.Test.YtbckkllhobcgjaaPx27
import Derived.Test.YtbckkllhobcgjaaPx32
import Derived.Test.YtbckkllhobcgjaaPx33
import Derived.Test.YtbckkllhobcgjaaPx34
import Derived.Test.YtbckkllhobcgjaaPx36
import Derived.Test.YtbckkllhobcgjaaPx45
namespace Go.Proofs.Ytbckkllhobcgjaa.P
open Go.RowKit Go.Proofs.YtbckkllhobcgjaaW.PrintWords Go.Proofs.YtbckkllhobcgjaaW.PrintLast Go.Proofs.YtbckkllhobcgjaaW.PrintMore
attribute [local go_sem] max2_int min2_int max_two min_two max_three min_three max_four min_four   -- for this text's walks alone
set_option linter.unusedVariables false
set_option linter.unusedSimpArgs false

/-! ### lodestarlaw06_VectorRules: function 11 -/
mutual
def lodestarlaw06_VectorRules.j0 : Nat → Int → Int → List Int → List Int → Bool → Option (Bool)
  | 0, _, _, _, _, _ => none
  | k + 1, x2, x7, x8, x9, x69 => if x69 = true then (some false) else ((vector_Dot.f k x8 x8).bind fun t300 => ((vector_Dot.f k x9 x9).bind fun t301 => ((vector_L2.f k x8 x9).bind fun t302 => ((vector_Dot.f k x8 x9).bind fun t303 => (if (wrap64 (t300 + t301)) = (wrap64 (t302 + (wrap64 (2 * t303)))) then ((lodestarlaw06_twin.f x8).bind fun t304 => ((lodestarlaw06_twin.f x9).bind fun t307 => (lodestarlaw06_VectorRules.l0 k (mx (-100) (mn x2 100)) x7 x8 t304 t307 0))) else (some false))))))
def lodestarlaw06_VectorRules.l0 : Nat → Int → Int → List Int → List Int → List Int → Int → Option (Bool)
  | 0, _, _, _, _, _, _ => none
  | k + 1, x2, x7, x8, x10, x11, x12 => if x12 < x7 then (if 0 ≤ x12 then (if x12 < (x10.length : Int) then (if x12 < (x11.length : Int) then (lodestarlaw06_VectorRules.l0 k x2 x7 x8 (x10.set (x12 : Int).toNat (mx (-32000) (mn (rd x10 x12) 32000))) (x11.set (x12 : Int).toNat (mx (-32000) (mn (rd x11 x12) 32000))) (wrap64 (x12 + 1))) else (none)) else (none)) else (none)) else ((lodestarlaw06_twin.f x10).bind fun t314 => ((lodestarlaw06_twin.f x11).bind fun t317 => (lodestarlaw06_VectorRules.l1 k x2 x7 x8 x10 x11 t314 t317 0)))
def lodestarlaw06_VectorRules.l1 : Nat → Int → Int → List Int → List Int → List Int → List Int → List Int → Int → Option (Bool)
  | 0, _, _, _, _, _, _, _, _ => none
  | k + 1, x2, x7, x8, x10, x11, x13, x14, x15 => if x15 < x7 then (if 0 ≤ x15 then (if x15 < (x13.length : Int) then (if x15 < (x14.length : Int) then (lodestarlaw06_VectorRules.l1 k x2 x7 x8 x10 x11 (x13.set (x15 : Int).toNat (wrap64 ((rd x13 x15) + x2))) (x14.set (x15 : Int).toNat (wrap64 ((rd x14 x15) + x2))) (wrap64 (x15 + 1))) else (none)) else (none)) else (none)) else ((vector_L2.f k x10 x11).bind fun t324 => ((vector_L2.f k x13 x14).bind fun t325 => (if t324 = t325 then ((vector_Dot.f k x8 x8).bind fun t326 => (if t326 = 0 then ((lodestarlaw06_sure.f k).bind fun t327 => (some t327)) else ((vector_Cos.f k x8 x8).bind fun t328 => (if t328 ≥ 1048576 then ((lodestarlaw06_sure.f k).bind fun t329 => (some t329)) else (some false))))) else (some false))))
end
def lodestarlaw06_VectorRules.f (k : Nat) (l0 : List Int) (l1 : List Int) (a2 : Int) : Option (Bool) := (lodestarlaw06_fit.f k l0 (mx 1 (mn (mx (l0.length : Int) (l1.length : Int)) 64))).bind fun t285 => ((lodestarlaw06_fit.f k l1 (mx 1 (mn (mx (l0.length : Int) (l1.length : Int)) 64))).bind fun t288 => ((vector_L2.f k t285 t288).bind fun t291 => ((vector_L2.f k t288 t285).bind fun t292 => (if t291 = t292 then ((vector_Dot.f k t285 t288).bind fun t293 => ((vector_Dot.f k t288 t285).bind fun t294 => (if t293 = t294 then ((vector_Cos.f k t285 t288).bind fun t295 => ((vector_Cos.f k t288 t285).bind fun t296 => (if t295 = t296 then ((vector_L2.f k t285 t288).bind fun t297 => ((lodestarref06_Same.f k t285 t288).bind fun t298 => (if ((t297 == 0) != t298) = true then (lodestarlaw06_VectorRules.j0 k a2 (mx 1 (mn (mx (l0.length : Int) (l1.length : Int)) 64)) t285 t288 true) else ((vector_L2.f k t285 t288).bind fun t299 => (lodestarlaw06_VectorRules.j0 k a2 (mx 1 (mn (mx (l0.length : Int) (l1.length : Int)) 64)) t285 t288 (decide (t299 < 0))))))) else (lodestarlaw06_VectorRules.j0 k a2 (mx 1 (mn (mx (l0.length : Int) (l1.length : Int)) 64)) t285 t288 true)))) else (lodestarlaw06_VectorRules.j0 k a2 (mx 1 (mn (mx (l0.length : Int) (l1.length : Int)) 64)) t285 t288 true)))) else (lodestarlaw06_VectorRules.j0 k a2 (mx 1 (mn (mx (l0.length : Int) (l1.length : Int)) 64)) t285 t288 true)))))
theorem lodestarlaw06_VectorRules.mono_l : ∀ k, (∀ y0 y1 y2 y3 y4, LeO (lodestarlaw06_VectorRules.j0 k y0 y1 y2 y3 y4) (lodestarlaw06_VectorRules.j0 (k + 1) y0 y1 y2 y3 y4)) ∧ (∀ y0 y1 y2 y3 y4 y5, LeO (lodestarlaw06_VectorRules.l0 k y0 y1 y2 y3 y4 y5) (lodestarlaw06_VectorRules.l0 (k + 1) y0 y1 y2 y3 y4 y5)) ∧ (∀ y0 y1 y2 y3 y4 y5 y6 y7, LeO (lodestarlaw06_VectorRules.l1 k y0 y1 y2 y3 y4 y5 y6 y7) (lodestarlaw06_VectorRules.l1 (k + 1) y0 y1 y2 y3 y4 y5 y6 y7))
  | 0 => ⟨fun _ _ _ _ _ r h => by simp [lodestarlaw06_VectorRules.j0] at h, fun _ _ _ _ _ _ r h => by simp [lodestarlaw06_VectorRules.l0] at h, fun _ _ _ _ _ _ _ _ r h => by simp [lodestarlaw06_VectorRules.l1] at h⟩
  | k + 1 => by
    obtain ⟨ih0, ih1, ih2⟩ := lodestarlaw06_VectorRules.mono_l k
    refine ⟨?_, ?_, ?_⟩
    · intro y0 y1 y2 y3 y4
      unfold lodestarlaw06_VectorRules.j0
      repeat' first
      | (with_reducible exact ih0 _ _ _ _ _)
      | (with_reducible exact ih1 _ _ _ _ _ _)
      | (with_reducible exact ih2 _ _ _ _ _ _ _ _)
      | (with_reducible exact lodestarlaw06_fit.mono _ _ _)
      | (with_reducible exact lodestarlaw06_sure.mono _)
      | (with_reducible exact lodestarref06_Same.mono _ _ _)
      | (with_reducible exact vector_Cos.mono _ _ _)
      | (with_reducible exact vector_Dot.mono _ _ _)
      | (with_reducible exact vector_L2.mono _ _ _)
      | (with_reducible exact LeO.refl _)
      | (with_reducible exact LeO.none _)
      | (with_reducible refine LeO.ite ?_ ?_)
      | (with_reducible refine LeO.bind ?_ (fun _ => ?_))
      | exact ih0 _ _ _ _ _
      | exact ih1 _ _ _ _ _ _
      | exact ih2 _ _ _ _ _ _ _ _
      | exact lodestarlaw06_fit.mono _ _ _
      | exact lodestarlaw06_sure.mono _
      | exact lodestarref06_Same.mono _ _ _
      | exact vector_Cos.mono _ _ _
      | exact vector_Dot.mono _ _ _
      | exact vector_L2.mono _ _ _
      | exact LeO.none _
      | refine LeO.ite ?_ ?_
      | refine LeO.bind ?_ (fun _ => ?_)
    · intro y0 y1 y2 y3 y4 y5
      unfold lodestarlaw06_VectorRules.l0
      repeat' first
      | (with_reducible exact ih0 _ _ _ _ _)
      | (with_reducible exact ih1 _ _ _ _ _ _)
      | (with_reducible exact ih2 _ _ _ _ _ _ _ _)
      | (with_reducible exact lodestarlaw06_fit.mono _ _ _)
      | (with_reducible exact lodestarlaw06_sure.mono _)
      | (with_reducible exact lodestarref06_Same.mono _ _ _)
      | (with_reducible exact vector_Cos.mono _ _ _)
      | (with_reducible exact vector_Dot.mono _ _ _)
      | (with_reducible exact vector_L2.mono _ _ _)
      | (with_reducible exact LeO.refl _)
      | (with_reducible exact LeO.none _)
      | (with_reducible refine LeO.ite ?_ ?_)
      | (with_reducible refine LeO.bind ?_ (fun _ => ?_))
      | exact ih0 _ _ _ _ _
      | exact ih1 _ _ _ _ _ _
      | exact ih2 _ _ _ _ _ _ _ _
      | exact lodestarlaw06_fit.mono _ _ _
      | exact lodestarlaw06_sure.mono _
      | exact lodestarref06_Same.mono _ _ _
      | exact vector_Cos.mono _ _ _
      | exact vector_Dot.mono _ _ _
      | exact vector_L2.mono _ _ _
      | exact LeO.none _
      | refine LeO.ite ?_ ?_
      | refine LeO.bind ?_ (fun _ => ?_)
    · intro y0 y1 y2 y3 y4 y5 y6 y7
      unfold lodestarlaw06_VectorRules.l1
      repeat' first
      | (with_reducible exact ih0 _ _ _ _ _)
      | (with_reducible exact ih1 _ _ _ _ _ _)
      | (with_reducible exact ih2 _ _ _ _ _ _ _ _)
      | (with_reducible exact lodestarlaw06_fit.mono _ _ _)
      | (with_reducible exact lodestarlaw06_sure.mono _)
      | (with_reducible exact lodestarref06_Same.mono _ _ _)
      | (with_reducible exact vector_Cos.mono _ _ _)
      | (with_reducible exact vector_Dot.mono _ _ _)
      | (with_reducible exact vector_L2.mono _ _ _)
      | (with_reducible exact LeO.refl _)
      | (with_reducible exact LeO.none _)
      | (with_reducible refine LeO.ite ?_ ?_)
      | (with_reducible refine LeO.bind ?_ (fun _ => ?_))
      | exact ih0 _ _ _ _ _
      | exact ih1 _ _ _ _ _ _
      | exact ih2 _ _ _ _ _ _ _ _
      | exact lodestarlaw06_fit.mono _ _ _
      | exact lodestarlaw06_sure.mono _
      | exact lodestarref06_Same.mono _ _ _
      | exact vector_Cos.mono _ _ _
      | exact vector_Dot.mono _ _ _
      | exact vector_L2.mono _ _ _
      | exact LeO.none _
      | refine LeO.ite ?_ ?_
      | refine LeO.bind ?_ (fun _ => ?_)
theorem lodestarlaw06_VectorRules.mono : ∀ a0 a1 a2 k, LeO (lodestarlaw06_VectorRules.f k a0 a1 a2) (lodestarlaw06_VectorRules.f (k + 1) a0 a1 a2) := by
  intro a0 a1 a2 k
  obtain ⟨ih0, ih1, ih2⟩ := lodestarlaw06_VectorRules.mono_l k
  unfold lodestarlaw06_VectorRules.f
  repeat' first
      | (with_reducible exact ih0 _ _ _ _ _)
      | (with_reducible exact ih1 _ _ _ _ _ _)
      | (with_reducible exact ih2 _ _ _ _ _ _ _ _)
      | (with_reducible exact lodestarlaw06_fit.mono _ _ _)
      | (with_reducible exact lodestarlaw06_sure.mono _)
      | (with_reducible exact lodestarref06_Same.mono _ _ _)
      | (with_reducible exact vector_Cos.mono _ _ _)
      | (with_reducible exact vector_Dot.mono _ _ _)
      | (with_reducible exact vector_L2.mono _ _ _)
      | (with_reducible exact LeO.refl _)
      | (with_reducible exact LeO.none _)
      | (with_reducible refine LeO.ite ?_ ?_)
      | (with_reducible refine LeO.bind ?_ (fun _ => ?_))
      | exact ih0 _ _ _ _ _
      | exact ih1 _ _ _ _ _ _
      | exact ih2 _ _ _ _ _ _ _ _
      | exact lodestarlaw06_fit.mono _ _ _
      | exact lodestarlaw06_sure.mono _
      | exact lodestarref06_Same.mono _ _ _
      | exact vector_Cos.mono _ _ _
      | exact vector_Dot.mono _ _ _
      | exact vector_L2.mono _ _ _
      | exact LeO.none _
      | refine LeO.ite ?_ ?_
      | refine LeO.bind ?_ (fun _ => ?_)
set_option maxHeartbeats 8000000 in
set_option maxRecDepth 100000 in
theorem lodestarlaw06_VectorRules.calls (k : Nat) (A0 : Option Addr) (c0 : Nat) (l0 : List Int) (A1 : Option Addr) (c1 : Nat) (l1 : List Int) (a2 : Int) (r : Bool) (w : World) (hr0 : Kd.C (Kd.int .i64) w A0 l0.length l0) (hc0 : l0.length ≤ c0) (hr1 : Kd.C (Kd.int .i64) w A1 l1.length l1) (hc1 : l1.length ≤ c1) (h : lodestarlaw06_VectorRules.f k l0 l1 a2 = some r) :
    Calls Try.prog 11 #[.slice A0 l0.length c0, .slice A1 l1.length c1, .int .i64 a2] w fun e w' => e = .returned (.bool r) ∧ Below w.heap.size w w' := by
  have HR0 := Aside0.mk hr0
  have HC0 := Aside0.mk hc0
  clear hr0 hc0
  have HR1 := Aside0.mk hr1
  have HC1 := Aside0.mk hc1
  clear hr1 hc1
  have HB := Aside0.mk (Below.refl w.heap.size w)
  have H : ((lodestarlaw06_fit.f k l0 (mx 1 (mn (mx (l0.length : Int) (l1.length : Int)) 64))).bind fun t285 => ((lodestarlaw06_fit.f k l1 (mx 1 (mn (mx (l0.length : Int) (l1.length : Int)) 64))).bind fun t288 => ((vector_L2.f k t285 t288).bind fun t291 => ((vector_L2.f k t288 t285).bind fun t292 => (if t291 = t292 then ((vector_Dot.f k t285 t288).bind fun t293 => ((vector_Dot.f k t288 t285).bind fun t294 => (if t293 = t294 then ((vector_Cos.f k t285 t288).bind fun t295 => ((vector_Cos.f k t288 t285).bind fun t296 => (if t295 = t296 then ((vector_L2.f k t285 t288).bind fun t297 => ((lodestarref06_Same.f k t285 t288).bind fun t298 => (if ((t297 == 0) != t298) = true then (lodestarlaw06_VectorRules.j0 k a2 (mx 1 (mn (mx (l0.length : Int) (l1.length : Int)) 64)) t285 t288 true) else ((vector_L2.f k t285 t288).bind fun t299 => (lodestarlaw06_VectorRules.j0 k a2 (mx 1 (mn (mx (l0.length : Int) (l1.length : Int)) 64)) t285 t288 (decide (t299 < 0))))))) else (lodestarlaw06_VectorRules.j0 k a2 (mx 1 (mn (mx (l0.length : Int) (l1.length : Int)) 64)) t285 t288 true)))) else (lodestarlaw06_VectorRules.j0 k a2 (mx 1 (mn (mx (l0.length : Int) (l1.length : Int)) 64)) t285 t288 true)))) else (lodestarlaw06_VectorRules.j0 k a2 (mx 1 (mn (mx (l0.length : Int) (l1.length : Int)) 64)) t285 t288 true)))))) = some r := h
  clear h
  obtain ⟨ji4, hji4⟩ : ∃ j_ : Int, (mx (l0.length : Int) (l1.length : Int)) = j_ := ⟨_, rfl⟩
  replace H : ((lodestarlaw06_fit.f k l0 (mx 1 (mn (ji4) 64))).bind fun t285 => ((lodestarlaw06_fit.f k l1 (mx 1 (mn (ji4) 64))).bind fun t288 => ((vector_L2.f k t285 t288).bind fun t291 => ((vector_L2.f k t288 t285).bind fun t292 => (if t291 = t292 then ((vector_Dot.f k t285 t288).bind fun t293 => ((vector_Dot.f k t288 t285).bind fun t294 => (if t293 = t294 then ((vector_Cos.f k t285 t288).bind fun t295 => ((vector_Cos.f k t288 t285).bind fun t296 => (if t295 = t296 then ((vector_L2.f k t285 t288).bind fun t297 => ((lodestarref06_Same.f k t285 t288).bind fun t298 => (if ((t297 == 0) != t298) = true then (lodestarlaw06_VectorRules.j0 k a2 (mx 1 (mn (ji4) 64)) t285 t288 true) else ((vector_L2.f k t285 t288).bind fun t299 => (lodestarlaw06_VectorRules.j0 k a2 (mx 1 (mn (ji4) 64)) t285 t288 (decide (t299 < 0))))))) else (lodestarlaw06_VectorRules.j0 k a2 (mx 1 (mn (ji4) 64)) t285 t288 true)))) else (lodestarlaw06_VectorRules.j0 k a2 (mx 1 (mn (ji4) 64)) t285 t288 true)))) else (lodestarlaw06_VectorRules.j0 k a2 (mx 1 (mn (ji4) 64)) t285 t288 true)))))) = some r := by first | (rw [hji4] at H; exact H) | (simp only [hji4] at H ⊢; exact H)
  (try (have hji4l : 0 ≤ ji4 := by (rw [← hji4]; unfold mx; (repeat' split) <;> omega)))
  (try (have hji4m : 0 ≤ ji4 := by omega))
  have hji4_ : (if (l0.length : Int) < (l1.length : Int) then (l1.length : Int) else (l0.length : Int)) = ji4 := hji4
  have hji4_n : (if l0.length < l1.length then (l1.length : Int) else (l0.length : Int)) = ji4 := by first | simpa using hji4_ | (rw [← hji4_]; by_cases hq_ : l0.length < l1.length <;> simp [hq_])
  obtain ⟨ji5, hji5⟩ : ∃ j_ : Int, (mn (ji4) 64) = j_ := ⟨_, rfl⟩
  replace H : ((lodestarlaw06_fit.f k l0 (mx 1 (ji5))).bind fun t285 => ((lodestarlaw06_fit.f k l1 (mx 1 (ji5))).bind fun t288 => ((vector_L2.f k t285 t288).bind fun t291 => ((vector_L2.f k t288 t285).bind fun t292 => (if t291 = t292 then ((vector_Dot.f k t285 t288).bind fun t293 => ((vector_Dot.f k t288 t285).bind fun t294 => (if t293 = t294 then ((vector_Cos.f k t285 t288).bind fun t295 => ((vector_Cos.f k t288 t285).bind fun t296 => (if t295 = t296 then ((vector_L2.f k t285 t288).bind fun t297 => ((lodestarref06_Same.f k t285 t288).bind fun t298 => (if ((t297 == 0) != t298) = true then (lodestarlaw06_VectorRules.j0 k a2 (mx 1 (ji5)) t285 t288 true) else ((vector_L2.f k t285 t288).bind fun t299 => (lodestarlaw06_VectorRules.j0 k a2 (mx 1 (ji5)) t285 t288 (decide (t299 < 0))))))) else (lodestarlaw06_VectorRules.j0 k a2 (mx 1 (ji5)) t285 t288 true)))) else (lodestarlaw06_VectorRules.j0 k a2 (mx 1 (ji5)) t285 t288 true)))) else (lodestarlaw06_VectorRules.j0 k a2 (mx 1 (ji5)) t285 t288 true)))))) = some r := by first | (rw [hji5] at H; exact H) | (simp only [hji5] at H ⊢; exact H)
  have hji5_ : (if 64 < (ji4) then 64 else (ji4)) = ji5 := hji5
  obtain ⟨ji6, hji6⟩ : ∃ j_ : Int, (mx 1 (ji5)) = j_ := ⟨_, rfl⟩
  replace H : ((lodestarlaw06_fit.f k l0 (ji6)).bind fun t285 => ((lodestarlaw06_fit.f k l1 (ji6)).bind fun t288 => ((vector_L2.f k t285 t288).bind fun t291 => ((vector_L2.f k t288 t285).bind fun t292 => (if t291 = t292 then ((vector_Dot.f k t285 t288).bind fun t293 => ((vector_Dot.f k t288 t285).bind fun t294 => (if t293 = t294 then ((vector_Cos.f k t285 t288).bind fun t295 => ((vector_Cos.f k t288 t285).bind fun t296 => (if t295 = t296 then ((vector_L2.f k t285 t288).bind fun t297 => ((lodestarref06_Same.f k t285 t288).bind fun t298 => (if ((t297 == 0) != t298) = true then (lodestarlaw06_VectorRules.j0 k a2 ji6 t285 t288 true) else ((vector_L2.f k t285 t288).bind fun t299 => (lodestarlaw06_VectorRules.j0 k a2 ji6 t285 t288 (decide (t299 < 0))))))) else (lodestarlaw06_VectorRules.j0 k a2 ji6 t285 t288 true)))) else (lodestarlaw06_VectorRules.j0 k a2 ji6 t285 t288 true)))) else (lodestarlaw06_VectorRules.j0 k a2 ji6 t285 t288 true)))))) = some r := by first | (rw [hji6] at H; exact H) | (simp only [hji6] at H ⊢; exact H)
  have hji6_ : (if 1 < (ji5) then (ji5) else 1) = ji6 := hji6
  replace H := Option.bind_eq_some_iff.mp H
  obtain ⟨t285, A70, H⟩ := H
  replace H : ((lodestarlaw06_fit.f k l1 (ji6)).bind fun t288 => ((vector_L2.f k t285 t288).bind fun t291 => ((vector_L2.f k t288 t285).bind fun t292 => (if t291 = t292 then ((vector_Dot.f k t285 t288).bind fun t293 => ((vector_Dot.f k t288 t285).bind fun t294 => (if t293 = t294 then ((vector_Cos.f k t285 t288).bind fun t295 => ((vector_Cos.f k t288 t285).bind fun t296 => (if t295 = t296 then ((vector_L2.f k t285 t288).bind fun t297 => ((lodestarref06_Same.f k t285 t288).bind fun t298 => (if ((t297 == 0) != t298) = true then (lodestarlaw06_VectorRules.j0 k a2 ji6 t285 t288 true) else ((vector_L2.f k t285 t288).bind fun t299 => (lodestarlaw06_VectorRules.j0 k a2 ji6 t285 t288 (decide (t299 < 0))))))) else (lodestarlaw06_VectorRules.j0 k a2 ji6 t285 t288 true)))) else (lodestarlaw06_VectorRules.j0 k a2 ji6 t285 t288 true)))) else (lodestarlaw06_VectorRules.j0 k a2 ji6 t285 t288 true))))) = some r := H
  have A7 := Aside0.mk A70
  clear A70
  replace H := Option.bind_eq_some_iff.mp H
  obtain ⟨t288, A80, H⟩ := H
  replace H : ((vector_L2.f k t285 t288).bind fun t291 => ((vector_L2.f k t288 t285).bind fun t292 => (if t291 = t292 then ((vector_Dot.f k t285 t288).bind fun t293 => ((vector_Dot.f k t288 t285).bind fun t294 => (if t293 = t294 then ((vector_Cos.f k t285 t288).bind fun t295 => ((vector_Cos.f k t288 t285).bind fun t296 => (if t295 = t296 then ((vector_L2.f k t285 t288).bind fun t297 => ((lodestarref06_Same.f k t285 t288).bind fun t298 => (if ((t297 == 0) != t298) = true then (lodestarlaw06_VectorRules.j0 k a2 ji6 t285 t288 true) else ((vector_L2.f k t285 t288).bind fun t299 => (lodestarlaw06_VectorRules.j0 k a2 ji6 t285 t288 (decide (t299 < 0))))))) else (lodestarlaw06_VectorRules.j0 k a2 ji6 t285 t288 true)))) else (lodestarlaw06_VectorRules.j0 k a2 ji6 t285 t288 true)))) else (lodestarlaw06_VectorRules.j0 k a2 ji6 t285 t288 true)))) = some r := H
  have A8 := Aside0.mk A80
  clear A80
  have HC9 := Aside0.mk H
  clear H
  go_enter Try.func11, Try.ntmps11
  go_upto_region 3 with (first | ((with_reducible refine gate_callee (f := 43) rfl ?_); refine goesL_ (some 25) rfl rfl Try.func43 (by kernel_rfl) rfl #[.slice A0 l0.length c0, .int .i64 ji6] rfl (by (try simp only [List.map_toArray, List.map_cons, List.map_nil]); first | done | (simp only [hji6]; rfl) | rfl | (simp only [List.length_drop, List.length_take]; rfl)) ?_; (with_reducible refine (lodestarlaw06_fit.calls k _ _ l0 ji6 t285 _ ?side1 ?side2 A7.out).mono ?_); (case side1 => repeat (first | exact HR0.out | (with_reducible refine Kd.C_alloc ?_ _) | (with_reducible refine Kd.C_drewN ?_ _) | (with_reducible refine Kd.C_drew ?_))); (case side2 => exact HC0.out); rintro e w10 ⟨v286, rfl, ho0, hb⟩; refine ⟨_, rfl, ?_⟩; have n0_ := Aside0.mk (Kd.R_lower ho0 (below_size (by repeat (first | (with_reducible first | exact HB.out | apply below_alloc | apply pw_below_drewN | apply below_drew1) | exact HB.out)))); have n1_ := Aside0.mk (below_step (by repeat (first | (with_reducible first | exact HB.out | apply below_alloc | apply pw_below_drewN | apply below_drew1) | exact HB.out)) hb); clear HB; have HO287 := n0_; have HB := n1_; clear n0_ n1_; (try clear hb); (try clear hb2); (try clear hk); (try clear hi); (try clear ho0)) | ((with_reducible refine gate_callee (f := 43) rfl ?_); refine goesL_ (some 28) rfl rfl Try.func43 (by kernel_rfl) rfl #[.slice A1 l1.length c1, .int .i64 ji6] rfl (by (try simp only [List.map_toArray, List.map_cons, List.map_nil]); first | done | (simp only [hji6]; rfl) | rfl | (simp only [List.length_drop, List.length_take]; rfl)) ?_; (with_reducible refine (lodestarlaw06_fit.calls k _ _ l1 ji6 t288 _ ?side1 ?side2 A8.out).mono ?_); (case side1 => repeat (first | exact (Kd.C_below HR1.out HB.out) | (with_reducible refine Kd.C_alloc ?_ _) | (with_reducible refine Kd.C_drewN ?_ _) | (with_reducible refine Kd.C_drew ?_))); (case side2 => exact HC1.out); rintro e w11 ⟨v289, rfl, ho0, hb⟩; refine ⟨_, rfl, ?_⟩; have n0_ := Aside0.mk (Kd.R_elder' (by (with_reducible repeat (first | apply Kd.R_alloc | apply Kd.R_drewN | apply Kd.R_drew)); exact HO287.out) (Kd.R_base ho0) hb); have n1_ := Aside0.mk (Kd.R_lower (Kd.R_new' ho0 (Kd.R_lt (by (with_reducible repeat (first | apply Kd.R_alloc | apply Kd.R_drewN | apply Kd.R_drew)); exact HO287.out))) (below_size (by repeat (first | (with_reducible first | exact HB.out | apply below_alloc | apply pw_below_drewN | apply below_drew1) | exact HB.out)))); have n2_ := Aside0.mk (below_step (by repeat (first | (with_reducible first | exact HB.out | apply below_alloc | apply pw_below_drewN | apply below_drew1) | exact HB.out)) hb); clear HO287; clear HB; have HO287 := n0_; have HO290 := n1_; have HB := n2_; clear n0_ n1_ n2_; (try clear hb); (try clear hb2); (try clear hk); (try clear hi); (try clear ho0)))
  (try simp only [Act.put, List.setIfInBounds_toArray, List.set_cons_zero, List.set_cons_succ])
  go_cut [69] (fun v69 wc => ∃ (kq : Nat) (x69_8 : Bool), v69 = .bool x69_8 ∧ Aside0 (lodestarlaw06_VectorRules.j0 kq a2 ji6 t285 t288 x69_8 = some r) ∧ Aside0 (kq ≤ k) ∧ Aside0 (Kd.R (Kd.int .i64) 3 wc w.heap.size (fun k_ => some k_ ≠ (v289 : Value).ownBlock) v286 t285) ∧ Aside0 (Kd.R (Kd.int .i64) 3 wc w.heap.size (fun k_ => some k_ ≠ (v286 : Value).ownBlock) v289 t288) ∧ Aside0 (Below w.heap.size w wc))
  case first =>
    have H := HC9.out
    clear HC9
    replace H := Option.bind_eq_some_iff.mp H
    obtain ⟨t291, A120, H⟩ := H
    replace H : ((vector_L2.f k t288 t285).bind fun t292 => (if t291 = t292 then ((vector_Dot.f k t285 t288).bind fun t293 => ((vector_Dot.f k t288 t285).bind fun t294 => (if t293 = t294 then ((vector_Cos.f k t285 t288).bind fun t295 => ((vector_Cos.f k t288 t285).bind fun t296 => (if t295 = t296 then ((vector_L2.f k t285 t288).bind fun t297 => ((lodestarref06_Same.f k t285 t288).bind fun t298 => (if ((t297 == 0) != t298) = true then (lodestarlaw06_VectorRules.j0 k a2 ji6 t285 t288 true) else ((vector_L2.f k t285 t288).bind fun t299 => (lodestarlaw06_VectorRules.j0 k a2 ji6 t285 t288 (decide (t299 < 0))))))) else (lodestarlaw06_VectorRules.j0 k a2 ji6 t285 t288 true)))) else (lodestarlaw06_VectorRules.j0 k a2 ji6 t285 t288 true)))) else (lodestarlaw06_VectorRules.j0 k a2 ji6 t285 t288 true))) = some r := H
    have A12 := Aside0.mk A120
    clear A120
    replace H := Option.bind_eq_some_iff.mp H
    obtain ⟨t292, A130, H⟩ := H
    replace H : (if t291 = t292 then ((vector_Dot.f k t285 t288).bind fun t293 => ((vector_Dot.f k t288 t285).bind fun t294 => (if t293 = t294 then ((vector_Cos.f k t285 t288).bind fun t295 => ((vector_Cos.f k t288 t285).bind fun t296 => (if t295 = t296 then ((vector_L2.f k t285 t288).bind fun t297 => ((lodestarref06_Same.f k t285 t288).bind fun t298 => (if ((t297 == 0) != t298) = true then (lodestarlaw06_VectorRules.j0 k a2 ji6 t285 t288 true) else ((vector_L2.f k t285 t288).bind fun t299 => (lodestarlaw06_VectorRules.j0 k a2 ji6 t285 t288 (decide (t299 < 0))))))) else (lodestarlaw06_VectorRules.j0 k a2 ji6 t285 t288 true)))) else (lodestarlaw06_VectorRules.j0 k a2 ji6 t285 t288 true)))) else (lodestarlaw06_VectorRules.j0 k a2 ji6 t285 t288 true)) = some r := H
    have A13 := Aside0.mk A130
    clear A130
    by_cases c14 : t291 = t292
    · rw [if_pos c14] at H
      have c14b0 : (t291 == t292) = true := beq_iff_eq.mpr c14
      have c14b1 : (t291 != t292) = false := bne_eq_false_iff_eq.mpr c14
      clear c14
      (first | rw [c14b0] | (simp only [i64_w, i32_w]; rw [c14b0]) | skip)
      replace H := Option.bind_eq_some_iff.mp H
      obtain ⟨t293, A150, H⟩ := H
      replace H : ((vector_Dot.f k t288 t285).bind fun t294 => (if t293 = t294 then ((vector_Cos.f k t285 t288).bind fun t295 => ((vector_Cos.f k t288 t285).bind fun t296 => (if t295 = t296 then ((vector_L2.f k t285 t288).bind fun t297 => ((lodestarref06_Same.f k t285 t288).bind fun t298 => (if ((t297 == 0) != t298) = true then (lodestarlaw06_VectorRules.j0 k a2 ji6 t285 t288 true) else ((vector_L2.f k t285 t288).bind fun t299 => (lodestarlaw06_VectorRules.j0 k a2 ji6 t285 t288 (decide (t299 < 0))))))) else (lodestarlaw06_VectorRules.j0 k a2 ji6 t285 t288 true)))) else (lodestarlaw06_VectorRules.j0 k a2 ji6 t285 t288 true))) = some r := H
      have A15 := Aside0.mk A150
      clear A150
      replace H := Option.bind_eq_some_iff.mp H
      obtain ⟨t294, A160, H⟩ := H
      replace H : (if t293 = t294 then ((vector_Cos.f k t285 t288).bind fun t295 => ((vector_Cos.f k t288 t285).bind fun t296 => (if t295 = t296 then ((vector_L2.f k t285 t288).bind fun t297 => ((lodestarref06_Same.f k t285 t288).bind fun t298 => (if ((t297 == 0) != t298) = true then (lodestarlaw06_VectorRules.j0 k a2 ji6 t285 t288 true) else ((vector_L2.f k t285 t288).bind fun t299 => (lodestarlaw06_VectorRules.j0 k a2 ji6 t285 t288 (decide (t299 < 0))))))) else (lodestarlaw06_VectorRules.j0 k a2 ji6 t285 t288 true)))) else (lodestarlaw06_VectorRules.j0 k a2 ji6 t285 t288 true)) = some r := H
      have A16 := Aside0.mk A160
      clear A160
      by_cases c17 : t293 = t294
      · rw [if_pos c17] at H
        have c17b0 : (t293 == t294) = true := beq_iff_eq.mpr c17
        have c17b1 : (t293 != t294) = false := bne_eq_false_iff_eq.mpr c17
        clear c17
        replace H := Option.bind_eq_some_iff.mp H
        obtain ⟨t295, A180, H⟩ := H
        replace H : ((vector_Cos.f k t288 t285).bind fun t296 => (if t295 = t296 then ((vector_L2.f k t285 t288).bind fun t297 => ((lodestarref06_Same.f k t285 t288).bind fun t298 => (if ((t297 == 0) != t298) = true then (lodestarlaw06_VectorRules.j0 k a2 ji6 t285 t288 true) else ((vector_L2.f k t285 t288).bind fun t299 => (lodestarlaw06_VectorRules.j0 k a2 ji6 t285 t288 (decide (t299 < 0))))))) else (lodestarlaw06_VectorRules.j0 k a2 ji6 t285 t288 true))) = some r := H
        have A18 := Aside0.mk A180
        clear A180
        replace H := Option.bind_eq_some_iff.mp H
        obtain ⟨t296, A190, H⟩ := H
        replace H : (if t295 = t296 then ((vector_L2.f k t285 t288).bind fun t297 => ((lodestarref06_Same.f k t285 t288).bind fun t298 => (if ((t297 == 0) != t298) = true then (lodestarlaw06_VectorRules.j0 k a2 ji6 t285 t288 true) else ((vector_L2.f k t285 t288).bind fun t299 => (lodestarlaw06_VectorRules.j0 k a2 ji6 t285 t288 (decide (t299 < 0))))))) else (lodestarlaw06_VectorRules.j0 k a2 ji6 t285 t288 true)) = some r := H
        have A19 := Aside0.mk A190
        clear A190
        by_cases c20 : t295 = t296
        · rw [if_pos c20] at H
          have c20b0 : (t295 == t296) = true := beq_iff_eq.mpr c20
          have c20b1 : (t295 != t296) = false := bne_eq_false_iff_eq.mpr c20
          clear c20
          replace H := Option.bind_eq_some_iff.mp H
          obtain ⟨t297, A210, H⟩ := H
          replace H : ((lodestarref06_Same.f k t285 t288).bind fun t298 => (if ((t297 == 0) != t298) = true then (lodestarlaw06_VectorRules.j0 k a2 ji6 t285 t288 true) else ((vector_L2.f k t285 t288).bind fun t299 => (lodestarlaw06_VectorRules.j0 k a2 ji6 t285 t288 (decide (t299 < 0)))))) = some r := H
          have A21 := Aside0.mk A210
          have q_ : t291 = t297 := Option.some.inj (A12.out.symm.trans A21.out)
          subst q_
          clear A210
          replace H := Option.bind_eq_some_iff.mp H
          obtain ⟨t298, A220, H⟩ := H
          replace H : (if ((t291 == 0) != t298) = true then (lodestarlaw06_VectorRules.j0 k a2 ji6 t285 t288 true) else ((vector_L2.f k t285 t288).bind fun t299 => (lodestarlaw06_VectorRules.j0 k a2 ji6 t285 t288 (decide (t299 < 0))))) = some r := H
          have A22 := Aside0.mk A220
          clear A220
          by_cases c23 : ((t291 == 0) != t298) = true
          · rw [if_pos c23] at H
            have c23b0 : ((t291 == 0) != t298) = true := c23
            (try (have c23b1 : decide ((t291 == 0) = t298) = false := by simpa using c23))
            (try (have c23b2 : ((t291 == 0) == t298) = false := by simpa using c23))
            (try (have c23b3 : ¬ ((t291 == 0) = t298) := by simpa using c23))
            clear c23
            have H' := Aside0.mk H
            clear H
            obtain ⟨Ao24, co24, eo24⟩ := Kd.R_slice HO287.out
            subst eo24
            obtain ⟨Ao25, co25, eo25⟩ := Kd.R_slice HO290.out
            subst eo25
            go_wp2_with (first | ((with_reducible refine gate_callee (f := 37) rfl ?_); refine goesL_ (some 31) rfl rfl Try.func37 (by kernel_rfl) rfl #[.slice Ao24 t285.length co24, .slice Ao25 t288.length co25] rfl (by (try simp only [List.map_toArray, List.map_cons, List.map_nil]); first | done | rfl | (simp only [List.length_drop, List.length_take]; rfl)) ?_; (with_reducible refine (vector_L2.calls k _ _ t285 _ _ t288 t291 _ ?side1 ?side2 ?side3 ?side4 A12.out).mono ?_); (case side1 => repeat (first | exact (Kd.R_reads' HO287.out).2.2 | (with_reducible refine Kd.C_alloc ?_ _) | (with_reducible refine Kd.C_drewN ?_ _) | (with_reducible refine Kd.C_drew ?_))); (case side2 => exact (Kd.R_reads' HO287.out).2.1); (case side3 => repeat (first | exact (Kd.R_reads' HO290.out).2.2 | (with_reducible refine Kd.C_alloc ?_ _) | (with_reducible refine Kd.C_drewN ?_ _) | (with_reducible refine Kd.C_drew ?_))); (case side4 => exact (Kd.R_reads' HO290.out).2.1); rintro e w' ⟨rfl, ⟨nd, rfl⟩⟩; refine ⟨_, rfl, ?_⟩) | ((with_reducible refine gate_callee (f := 37) rfl ?_); refine goesL_ (some 34) rfl rfl Try.func37 (by kernel_rfl) rfl #[.slice Ao25 t288.length co25, .slice Ao24 t285.length co24] rfl (by (try simp only [List.map_toArray, List.map_cons, List.map_nil]); first | done | rfl | (simp only [List.length_drop, List.length_take]; rfl)) ?_; (with_reducible refine (vector_L2.calls k _ _ t288 _ _ t285 t292 _ ?side1 ?side2 ?side3 ?side4 A13.out).mono ?_); (case side1 => repeat (first | exact (Kd.R_reads' HO290.out).2.2 | (with_reducible refine Kd.C_alloc ?_ _) | (with_reducible refine Kd.C_drewN ?_ _) | (with_reducible refine Kd.C_drew ?_))); (case side2 => exact (Kd.R_reads' HO290.out).2.1); (case side3 => repeat (first | exact (Kd.R_reads' HO287.out).2.2 | (with_reducible refine Kd.C_alloc ?_ _) | (with_reducible refine Kd.C_drewN ?_ _) | (with_reducible refine Kd.C_drew ?_))); (case side4 => exact (Kd.R_reads' HO287.out).2.1); rintro e w' ⟨rfl, ⟨nd, rfl⟩⟩; refine ⟨_, rfl, ?_⟩) | (go_at_call 39; (with_reducible refine (vector_Dot.calls k _ _ t285 _ _ t288 t293 _ ?side1 ?side2 ?side3 ?side4 A15.out).mono ?_); (case side1 => repeat (first | exact (Kd.R_reads' HO287.out).2.2 | (with_reducible refine Kd.C_alloc ?_ _) | (with_reducible refine Kd.C_drewN ?_ _) | (with_reducible refine Kd.C_drew ?_))); (case side2 => exact (Kd.R_reads' HO287.out).2.1); (case side3 => repeat (first | exact (Kd.R_reads' HO290.out).2.2 | (with_reducible refine Kd.C_alloc ?_ _) | (with_reducible refine Kd.C_drewN ?_ _) | (with_reducible refine Kd.C_drew ?_))); (case side4 => exact (Kd.R_reads' HO290.out).2.1); rintro e w' ⟨rfl, ⟨nd, rfl⟩⟩) | (go_at_call 39; (with_reducible refine (vector_Dot.calls k _ _ t288 _ _ t285 t294 _ ?side1 ?side2 ?side3 ?side4 A16.out).mono ?_); (case side1 => repeat (first | exact (Kd.R_reads' HO290.out).2.2 | (with_reducible refine Kd.C_alloc ?_ _) | (with_reducible refine Kd.C_drewN ?_ _) | (with_reducible refine Kd.C_drew ?_))); (case side2 => exact (Kd.R_reads' HO290.out).2.1); (case side3 => repeat (first | exact (Kd.R_reads' HO287.out).2.2 | (with_reducible refine Kd.C_alloc ?_ _) | (with_reducible refine Kd.C_drewN ?_ _) | (with_reducible refine Kd.C_drew ?_))); (case side4 => exact (Kd.R_reads' HO287.out).2.1); rintro e w' ⟨rfl, ⟨nd, rfl⟩⟩) | (go_at_call 41; (with_reducible refine (vector_Cos.calls k _ _ t285 _ _ t288 t295 _ ?side1 ?side2 ?side3 ?side4 A18.out).mono ?_); (case side1 => repeat (first | exact (Kd.R_reads' HO287.out).2.2 | (with_reducible refine Kd.C_alloc ?_ _) | (with_reducible refine Kd.C_drewN ?_ _) | (with_reducible refine Kd.C_drew ?_))); (case side2 => exact (Kd.R_reads' HO287.out).2.1); (case side3 => repeat (first | exact (Kd.R_reads' HO290.out).2.2 | (with_reducible refine Kd.C_alloc ?_ _) | (with_reducible refine Kd.C_drewN ?_ _) | (with_reducible refine Kd.C_drew ?_))); (case side4 => exact (Kd.R_reads' HO290.out).2.1); rintro e w' ⟨rfl, ⟨nd, rfl⟩⟩) | (go_at_call 41; (with_reducible refine (vector_Cos.calls k _ _ t288 _ _ t285 t296 _ ?side1 ?side2 ?side3 ?side4 A19.out).mono ?_); (case side1 => repeat (first | exact (Kd.R_reads' HO290.out).2.2 | (with_reducible refine Kd.C_alloc ?_ _) | (with_reducible refine Kd.C_drewN ?_ _) | (with_reducible refine Kd.C_drew ?_))); (case side2 => exact (Kd.R_reads' HO290.out).2.1); (case side3 => repeat (first | exact (Kd.R_reads' HO287.out).2.2 | (with_reducible refine Kd.C_alloc ?_ _) | (with_reducible refine Kd.C_drewN ?_ _) | (with_reducible refine Kd.C_drew ?_))); (case side4 => exact (Kd.R_reads' HO287.out).2.1); rintro e w' ⟨rfl, ⟨nd, rfl⟩⟩) | (go_at_call 37; (with_reducible refine (vector_L2.calls k _ _ t285 _ _ t288 t291 _ ?side1 ?side2 ?side3 ?side4 A21.out).mono ?_); (case side1 => repeat (first | exact (Kd.R_reads' HO287.out).2.2 | (with_reducible refine Kd.C_alloc ?_ _) | (with_reducible refine Kd.C_drewN ?_ _) | (with_reducible refine Kd.C_drew ?_))); (case side2 => exact (Kd.R_reads' HO287.out).2.1); (case side3 => repeat (first | exact (Kd.R_reads' HO290.out).2.2 | (with_reducible refine Kd.C_alloc ?_ _) | (with_reducible refine Kd.C_drewN ?_ _) | (with_reducible refine Kd.C_drew ?_))); (case side4 => exact (Kd.R_reads' HO290.out).2.1); rintro e w' ⟨rfl, ⟨nd, rfl⟩⟩) | (go_at_call 33; (with_reducible refine (lodestarref06_Same.calls k _ _ t285 _ _ t288 t298 _ ?side1 ?side2 ?side3 ?side4 A22.out).mono ?_); (case side1 => repeat (first | exact (Kd.R_reads' HO287.out).2.2 | (with_reducible refine Kd.C_alloc ?_ _) | (with_reducible refine Kd.C_drewN ?_ _) | (with_reducible refine Kd.C_drew ?_))); (case side2 => exact (Kd.R_reads' HO287.out).2.1); (case side3 => repeat (first | exact (Kd.R_reads' HO290.out).2.2 | (with_reducible refine Kd.C_alloc ?_ _) | (with_reducible refine Kd.C_drewN ?_ _) | (with_reducible refine Kd.C_drew ?_))); (case side4 => exact (Kd.R_reads' HO290.out).2.1); rintro e w' ⟨rfl, ⟨nd, rfl⟩⟩))
            go_meet
            case rel => exact ⟨_, (true), (by first | rfl | (simp; done) | (simp [*]; done)), H', ⟨by first | omega | exact Nat.le_refl _⟩, ⟨by (with_reducible repeat (first | apply Kd.R_alloc | apply Kd.R_drewN | apply Kd.R_drew)); exact Kd.R_mono HO287.out (fun _ hk => hk.2)⟩, ⟨by (with_reducible repeat (first | apply Kd.R_alloc | apply Kd.R_drewN | apply Kd.R_drew)); exact Kd.R_mono HO290.out (fun _ hk => hk.2)⟩, ⟨by repeat (first | (with_reducible first | exact HB.out | apply below_alloc | apply pw_below_drewN | apply below_drew1) | exact HB.out)⟩⟩
          · rw [if_neg c23] at H
            have c23b0 : ((t291 == 0) != t298) = false := by simpa using c23
            (try (have c23b1 : decide ((t291 == 0) = t298) = true := by simpa using c23))
            (try (have c23b2 : ((t291 == 0) == t298) = true := by simpa using c23))
            clear c23
            replace H := Option.bind_eq_some_iff.mp H
            obtain ⟨t299, A260, H⟩ := H
            replace H : (lodestarlaw06_VectorRules.j0 k a2 ji6 t285 t288 (decide (t299 < 0))) = some r := H
            have A26 := Aside0.mk A260
            have q_ : t291 = t299 := Option.some.inj (A12.out.symm.trans A26.out)
            subst q_
            clear A260
            have H' := Aside0.mk H
            clear H
            obtain ⟨Ao27, co27, eo27⟩ := Kd.R_slice HO287.out
            subst eo27
            obtain ⟨Ao28, co28, eo28⟩ := Kd.R_slice HO290.out
            subst eo28
            go_wp2_with (first | ((with_reducible refine gate_callee (f := 37) rfl ?_); refine goesL_ (some 31) rfl rfl Try.func37 (by kernel_rfl) rfl #[.slice Ao27 t285.length co27, .slice Ao28 t288.length co28] rfl (by (try simp only [List.map_toArray, List.map_cons, List.map_nil]); first | done | rfl | (simp only [List.length_drop, List.length_take]; rfl)) ?_; (with_reducible refine (vector_L2.calls k _ _ t285 _ _ t288 t291 _ ?side1 ?side2 ?side3 ?side4 A12.out).mono ?_); (case side1 => repeat (first | exact (Kd.R_reads' HO287.out).2.2 | (with_reducible refine Kd.C_alloc ?_ _) | (with_reducible refine Kd.C_drewN ?_ _) | (with_reducible refine Kd.C_drew ?_))); (case side2 => exact (Kd.R_reads' HO287.out).2.1); (case side3 => repeat (first | exact (Kd.R_reads' HO290.out).2.2 | (with_reducible refine Kd.C_alloc ?_ _) | (with_reducible refine Kd.C_drewN ?_ _) | (with_reducible refine Kd.C_drew ?_))); (case side4 => exact (Kd.R_reads' HO290.out).2.1); rintro e w' ⟨rfl, ⟨nd, rfl⟩⟩; refine ⟨_, rfl, ?_⟩) | ((with_reducible refine gate_callee (f := 37) rfl ?_); refine goesL_ (some 34) rfl rfl Try.func37 (by kernel_rfl) rfl #[.slice Ao28 t288.length co28, .slice Ao27 t285.length co27] rfl (by (try simp only [List.map_toArray, List.map_cons, List.map_nil]); first | done | rfl | (simp only [List.length_drop, List.length_take]; rfl)) ?_; (with_reducible refine (vector_L2.calls k _ _ t288 _ _ t285 t292 _ ?side1 ?side2 ?side3 ?side4 A13.out).mono ?_); (case side1 => repeat (first | exact (Kd.R_reads' HO290.out).2.2 | (with_reducible refine Kd.C_alloc ?_ _) | (with_reducible refine Kd.C_drewN ?_ _) | (with_reducible refine Kd.C_drew ?_))); (case side2 => exact (Kd.R_reads' HO290.out).2.1); (case side3 => repeat (first | exact (Kd.R_reads' HO287.out).2.2 | (with_reducible refine Kd.C_alloc ?_ _) | (with_reducible refine Kd.C_drewN ?_ _) | (with_reducible refine Kd.C_drew ?_))); (case side4 => exact (Kd.R_reads' HO287.out).2.1); rintro e w' ⟨rfl, ⟨nd, rfl⟩⟩; refine ⟨_, rfl, ?_⟩) | (go_at_call 39; (with_reducible refine (vector_Dot.calls k _ _ t285 _ _ t288 t293 _ ?side1 ?side2 ?side3 ?side4 A15.out).mono ?_); (case side1 => repeat (first | exact (Kd.R_reads' HO287.out).2.2 | (with_reducible refine Kd.C_alloc ?_ _) | (with_reducible refine Kd.C_drewN ?_ _) | (with_reducible refine Kd.C_drew ?_))); (case side2 => exact (Kd.R_reads' HO287.out).2.1); (case side3 => repeat (first | exact (Kd.R_reads' HO290.out).2.2 | (with_reducible refine Kd.C_alloc ?_ _) | (with_reducible refine Kd.C_drewN ?_ _) | (with_reducible refine Kd.C_drew ?_))); (case side4 => exact (Kd.R_reads' HO290.out).2.1); rintro e w' ⟨rfl, ⟨nd, rfl⟩⟩) | (go_at_call 39; (with_reducible refine (vector_Dot.calls k _ _ t288 _ _ t285 t294 _ ?side1 ?side2 ?side3 ?side4 A16.out).mono ?_); (case side1 => repeat (first | exact (Kd.R_reads' HO290.out).2.2 | (with_reducible refine Kd.C_alloc ?_ _) | (with_reducible refine Kd.C_drewN ?_ _) | (with_reducible refine Kd.C_drew ?_))); (case side2 => exact (Kd.R_reads' HO290.out).2.1); (case side3 => repeat (first | exact (Kd.R_reads' HO287.out).2.2 | (with_reducible refine Kd.C_alloc ?_ _) | (with_reducible refine Kd.C_drewN ?_ _) | (with_reducible refine Kd.C_drew ?_))); (case side4 => exact (Kd.R_reads' HO287.out).2.1); rintro e w' ⟨rfl, ⟨nd, rfl⟩⟩) | (go_at_call 41; (with_reducible refine (vector_Cos.calls k _ _ t285 _ _ t288 t295 _ ?side1 ?side2 ?side3 ?side4 A18.out).mono ?_); (case side1 => repeat (first | exact (Kd.R_reads' HO287.out).2.2 | (with_reducible refine Kd.C_alloc ?_ _) | (with_reducible refine Kd.C_drewN ?_ _) | (with_reducible refine Kd.C_drew ?_))); (case side2 => exact (Kd.R_reads' HO287.out).2.1); (case side3 => repeat (first | exact (Kd.R_reads' HO290.out).2.2 | (with_reducible refine Kd.C_alloc ?_ _) | (with_reducible refine Kd.C_drewN ?_ _) | (with_reducible refine Kd.C_drew ?_))); (case side4 => exact (Kd.R_reads' HO290.out).2.1); rintro e w' ⟨rfl, ⟨nd, rfl⟩⟩) | (go_at_call 41; (with_reducible refine (vector_Cos.calls k _ _ t288 _ _ t285 t296 _ ?side1 ?side2 ?side3 ?side4 A19.out).mono ?_); (case side1 => repeat (first | exact (Kd.R_reads' HO290.out).2.2 | (with_reducible refine Kd.C_alloc ?_ _) | (with_reducible refine Kd.C_drewN ?_ _) | (with_reducible refine Kd.C_drew ?_))); (case side2 => exact (Kd.R_reads' HO290.out).2.1); (case side3 => repeat (first | exact (Kd.R_reads' HO287.out).2.2 | (with_reducible refine Kd.C_alloc ?_ _) | (with_reducible refine Kd.C_drewN ?_ _) | (with_reducible refine Kd.C_drew ?_))); (case side4 => exact (Kd.R_reads' HO287.out).2.1); rintro e w' ⟨rfl, ⟨nd, rfl⟩⟩) | (go_at_call 37; (with_reducible refine (vector_L2.calls k _ _ t285 _ _ t288 t291 _ ?side1 ?side2 ?side3 ?side4 A21.out).mono ?_); (case side1 => repeat (first | exact (Kd.R_reads' HO287.out).2.2 | (with_reducible refine Kd.C_alloc ?_ _) | (with_reducible refine Kd.C_drewN ?_ _) | (with_reducible refine Kd.C_drew ?_))); (case side2 => exact (Kd.R_reads' HO287.out).2.1); (case side3 => repeat (first | exact (Kd.R_reads' HO290.out).2.2 | (with_reducible refine Kd.C_alloc ?_ _) | (with_reducible refine Kd.C_drewN ?_ _) | (with_reducible refine Kd.C_drew ?_))); (case side4 => exact (Kd.R_reads' HO290.out).2.1); rintro e w' ⟨rfl, ⟨nd, rfl⟩⟩) | (go_at_call 33; (with_reducible refine (lodestarref06_Same.calls k _ _ t285 _ _ t288 t298 _ ?side1 ?side2 ?side3 ?side4 A22.out).mono ?_); (case side1 => repeat (first | exact (Kd.R_reads' HO287.out).2.2 | (with_reducible refine Kd.C_alloc ?_ _) | (with_reducible refine Kd.C_drewN ?_ _) | (with_reducible refine Kd.C_drew ?_))); (case side2 => exact (Kd.R_reads' HO287.out).2.1); (case side3 => repeat (first | exact (Kd.R_reads' HO290.out).2.2 | (with_reducible refine Kd.C_alloc ?_ _) | (with_reducible refine Kd.C_drewN ?_ _) | (with_reducible refine Kd.C_drew ?_))); (case side4 => exact (Kd.R_reads' HO290.out).2.1); rintro e w' ⟨rfl, ⟨nd, rfl⟩⟩) | (go_at_call 37; (with_reducible refine (vector_L2.calls k _ _ t285 _ _ t288 t291 _ ?side1 ?side2 ?side3 ?side4 A26.out).mono ?_); (case side1 => repeat (first | exact (Kd.R_reads' HO287.out).2.2 | (with_reducible refine Kd.C_alloc ?_ _) | (with_reducible refine Kd.C_drewN ?_ _) | (with_reducible refine Kd.C_drew ?_))); (case side2 => exact (Kd.R_reads' HO287.out).2.1); (case side3 => repeat (first | exact (Kd.R_reads' HO290.out).2.2 | (with_reducible refine Kd.C_alloc ?_ _) | (with_reducible refine Kd.C_drewN ?_ _) | (with_reducible refine Kd.C_drew ?_))); (case side4 => exact (Kd.R_reads' HO290.out).2.1); rintro e w' ⟨rfl, ⟨nd, rfl⟩⟩))
            go_meet
            case rel => exact ⟨_, (decide (t291 < 0)), (by first | rfl | (simp; done) | (simp [*]; done)), H', ⟨by first | omega | exact Nat.le_refl _⟩, ⟨by (with_reducible repeat (first | apply Kd.R_alloc | apply Kd.R_drewN | apply Kd.R_drew)); exact Kd.R_mono HO287.out (fun _ hk => hk.2)⟩, ⟨by (with_reducible repeat (first | apply Kd.R_alloc | apply Kd.R_drewN | apply Kd.R_drew)); exact Kd.R_mono HO290.out (fun _ hk => hk.2)⟩, ⟨by repeat (first | (with_reducible first | exact HB.out | apply below_alloc | apply pw_below_drewN | apply below_drew1) | exact HB.out)⟩⟩
        · rw [if_neg c20] at H
          have c20b0 : (t295 == t296) = false := beq_eq_false_iff_ne.mpr c20
          have c20b1 : (t295 != t296) = true := bne_iff_ne.mpr c20
          have H' := Aside0.mk H
          clear H
          obtain ⟨Ao29, co29, eo29⟩ := Kd.R_slice HO287.out
          subst eo29
          obtain ⟨Ao30, co30, eo30⟩ := Kd.R_slice HO290.out
          subst eo30
          go_wp2_with (first | ((with_reducible refine gate_callee (f := 37) rfl ?_); refine goesL_ (some 31) rfl rfl Try.func37 (by kernel_rfl) rfl #[.slice Ao29 t285.length co29, .slice Ao30 t288.length co30] rfl (by (try simp only [List.map_toArray, List.map_cons, List.map_nil]); first | done | rfl | (simp only [List.length_drop, List.length_take]; rfl)) ?_; (with_reducible refine (vector_L2.calls k _ _ t285 _ _ t288 t291 _ ?side1 ?side2 ?side3 ?side4 A12.out).mono ?_); (case side1 => repeat (first | exact (Kd.R_reads' HO287.out).2.2 | (with_reducible refine Kd.C_alloc ?_ _) | (with_reducible refine Kd.C_drewN ?_ _) | (with_reducible refine Kd.C_drew ?_))); (case side2 => exact (Kd.R_reads' HO287.out).2.1); (case side3 => repeat (first | exact (Kd.R_reads' HO290.out).2.2 | (with_reducible refine Kd.C_alloc ?_ _) | (with_reducible refine Kd.C_drewN ?_ _) | (with_reducible refine Kd.C_drew ?_))); (case side4 => exact (Kd.R_reads' HO290.out).2.1); rintro e w' ⟨rfl, ⟨nd, rfl⟩⟩; refine ⟨_, rfl, ?_⟩) | ((with_reducible refine gate_callee (f := 37) rfl ?_); refine goesL_ (some 34) rfl rfl Try.func37 (by kernel_rfl) rfl #[.slice Ao30 t288.length co30, .slice Ao29 t285.length co29] rfl (by (try simp only [List.map_toArray, List.map_cons, List.map_nil]); first | done | rfl | (simp only [List.length_drop, List.length_take]; rfl)) ?_; (with_reducible refine (vector_L2.calls k _ _ t288 _ _ t285 t292 _ ?side1 ?side2 ?side3 ?side4 A13.out).mono ?_); (case side1 => repeat (first | exact (Kd.R_reads' HO290.out).2.2 | (with_reducible refine Kd.C_alloc ?_ _) | (with_reducible refine Kd.C_drewN ?_ _) | (with_reducible refine Kd.C_drew ?_))); (case side2 => exact (Kd.R_reads' HO290.out).2.1); (case side3 => repeat (first | exact (Kd.R_reads' HO287.out).2.2 | (with_reducible refine Kd.C_alloc ?_ _) | (with_reducible refine Kd.C_drewN ?_ _) | (with_reducible refine Kd.C_drew ?_))); (case side4 => exact (Kd.R_reads' HO287.out).2.1); rintro e w' ⟨rfl, ⟨nd, rfl⟩⟩; refine ⟨_, rfl, ?_⟩) | (go_at_call 39; (with_reducible refine (vector_Dot.calls k _ _ t285 _ _ t288 t293 _ ?side1 ?side2 ?side3 ?side4 A15.out).mono ?_); (case side1 => repeat (first | exact (Kd.R_reads' HO287.out).2.2 | (with_reducible refine Kd.C_alloc ?_ _) | (with_reducible refine Kd.C_drewN ?_ _) | (with_reducible refine Kd.C_drew ?_))); (case side2 => exact (Kd.R_reads' HO287.out).2.1); (case side3 => repeat (first | exact (Kd.R_reads' HO290.out).2.2 | (with_reducible refine Kd.C_alloc ?_ _) | (with_reducible refine Kd.C_drewN ?_ _) | (with_reducible refine Kd.C_drew ?_))); (case side4 => exact (Kd.R_reads' HO290.out).2.1); rintro e w' ⟨rfl, ⟨nd, rfl⟩⟩) | (go_at_call 39; (with_reducible refine (vector_Dot.calls k _ _ t288 _ _ t285 t294 _ ?side1 ?side2 ?side3 ?side4 A16.out).mono ?_); (case side1 => repeat (first | exact (Kd.R_reads' HO290.out).2.2 | (with_reducible refine Kd.C_alloc ?_ _) | (with_reducible refine Kd.C_drewN ?_ _) | (with_reducible refine Kd.C_drew ?_))); (case side2 => exact (Kd.R_reads' HO290.out).2.1); (case side3 => repeat (first | exact (Kd.R_reads' HO287.out).2.2 | (with_reducible refine Kd.C_alloc ?_ _) | (with_reducible refine Kd.C_drewN ?_ _) | (with_reducible refine Kd.C_drew ?_))); (case side4 => exact (Kd.R_reads' HO287.out).2.1); rintro e w' ⟨rfl, ⟨nd, rfl⟩⟩) | (go_at_call 41; (with_reducible refine (vector_Cos.calls k _ _ t285 _ _ t288 t295 _ ?side1 ?side2 ?side3 ?side4 A18.out).mono ?_); (case side1 => repeat (first | exact (Kd.R_reads' HO287.out).2.2 | (with_reducible refine Kd.C_alloc ?_ _) | (with_reducible refine Kd.C_drewN ?_ _) | (with_reducible refine Kd.C_drew ?_))); (case side2 => exact (Kd.R_reads' HO287.out).2.1); (case side3 => repeat (first | exact (Kd.R_reads' HO290.out).2.2 | (with_reducible refine Kd.C_alloc ?_ _) | (with_reducible refine Kd.C_drewN ?_ _) | (with_reducible refine Kd.C_drew ?_))); (case side4 => exact (Kd.R_reads' HO290.out).2.1); rintro e w' ⟨rfl, ⟨nd, rfl⟩⟩) | (go_at_call 41; (with_reducible refine (vector_Cos.calls k _ _ t288 _ _ t285 t296 _ ?side1 ?side2 ?side3 ?side4 A19.out).mono ?_); (case side1 => repeat (first | exact (Kd.R_reads' HO290.out).2.2 | (with_reducible refine Kd.C_alloc ?_ _) | (with_reducible refine Kd.C_drewN ?_ _) | (with_reducible refine Kd.C_drew ?_))); (case side2 => exact (Kd.R_reads' HO290.out).2.1); (case side3 => repeat (first | exact (Kd.R_reads' HO287.out).2.2 | (with_reducible refine Kd.C_alloc ?_ _) | (with_reducible refine Kd.C_drewN ?_ _) | (with_reducible refine Kd.C_drew ?_))); (case side4 => exact (Kd.R_reads' HO287.out).2.1); rintro e w' ⟨rfl, ⟨nd, rfl⟩⟩))
          go_meet
          case rel => exact ⟨_, (true), (by first | rfl | (simp; done) | (simp [*]; done)), H', ⟨by first | omega | exact Nat.le_refl _⟩, ⟨by (with_reducible repeat (first | apply Kd.R_alloc | apply Kd.R_drewN | apply Kd.R_drew)); exact Kd.R_mono HO287.out (fun _ hk => hk.2)⟩, ⟨by (with_reducible repeat (first | apply Kd.R_alloc | apply Kd.R_drewN | apply Kd.R_drew)); exact Kd.R_mono HO290.out (fun _ hk => hk.2)⟩, ⟨by repeat (first | (with_reducible first | exact HB.out | apply below_alloc | apply pw_below_drewN | apply below_drew1) | exact HB.out)⟩⟩
      · rw [if_neg c17] at H
        have c17b0 : (t293 == t294) = false := beq_eq_false_iff_ne.mpr c17
        have c17b1 : (t293 != t294) = true := bne_iff_ne.mpr c17
        have H' := Aside0.mk H
        clear H
        obtain ⟨Ao31, co31, eo31⟩ := Kd.R_slice HO287.out
        subst eo31
        obtain ⟨Ao32, co32, eo32⟩ := Kd.R_slice HO290.out
        subst eo32
        go_wp2_with (first | ((with_reducible refine gate_callee (f := 37) rfl ?_); refine goesL_ (some 31) rfl rfl Try.func37 (by kernel_rfl) rfl #[.slice Ao31 t285.length co31, .slice Ao32 t288.length co32] rfl (by (try simp only [List.map_toArray, List.map_cons, List.map_nil]); first | done | rfl | (simp only [List.length_drop, List.length_take]; rfl)) ?_; (with_reducible refine (vector_L2.calls k _ _ t285 _ _ t288 t291 _ ?side1 ?side2 ?side3 ?side4 A12.out).mono ?_); (case side1 => repeat (first | exact (Kd.R_reads' HO287.out).2.2 | (with_reducible refine Kd.C_alloc ?_ _) | (with_reducible refine Kd.C_drewN ?_ _) | (with_reducible refine Kd.C_drew ?_))); (case side2 => exact (Kd.R_reads' HO287.out).2.1); (case side3 => repeat (first | exact (Kd.R_reads' HO290.out).2.2 | (with_reducible refine Kd.C_alloc ?_ _) | (with_reducible refine Kd.C_drewN ?_ _) | (with_reducible refine Kd.C_drew ?_))); (case side4 => exact (Kd.R_reads' HO290.out).2.1); rintro e w' ⟨rfl, ⟨nd, rfl⟩⟩; refine ⟨_, rfl, ?_⟩) | ((with_reducible refine gate_callee (f := 37) rfl ?_); refine goesL_ (some 34) rfl rfl Try.func37 (by kernel_rfl) rfl #[.slice Ao32 t288.length co32, .slice Ao31 t285.length co31] rfl (by (try simp only [List.map_toArray, List.map_cons, List.map_nil]); first | done | rfl | (simp only [List.length_drop, List.length_take]; rfl)) ?_; (with_reducible refine (vector_L2.calls k _ _ t288 _ _ t285 t292 _ ?side1 ?side2 ?side3 ?side4 A13.out).mono ?_); (case side1 => repeat (first | exact (Kd.R_reads' HO290.out).2.2 | (with_reducible refine Kd.C_alloc ?_ _) | (with_reducible refine Kd.C_drewN ?_ _) | (with_reducible refine Kd.C_drew ?_))); (case side2 => exact (Kd.R_reads' HO290.out).2.1); (case side3 => repeat (first | exact (Kd.R_reads' HO287.out).2.2 | (with_reducible refine Kd.C_alloc ?_ _) | (with_reducible refine Kd.C_drewN ?_ _) | (with_reducible refine Kd.C_drew ?_))); (case side4 => exact (Kd.R_reads' HO287.out).2.1); rintro e w' ⟨rfl, ⟨nd, rfl⟩⟩; refine ⟨_, rfl, ?_⟩) | (go_at_call 39; (with_reducible refine (vector_Dot.calls k _ _ t285 _ _ t288 t293 _ ?side1 ?side2 ?side3 ?side4 A15.out).mono ?_); (case side1 => repeat (first | exact (Kd.R_reads' HO287.out).2.2 | (with_reducible refine Kd.C_alloc ?_ _) | (with_reducible refine Kd.C_drewN ?_ _) | (with_reducible refine Kd.C_drew ?_))); (case side2 => exact (Kd.R_reads' HO287.out).2.1); (case side3 => repeat (first | exact (Kd.R_reads' HO290.out).2.2 | (with_reducible refine Kd.C_alloc ?_ _) | (with_reducible refine Kd.C_drewN ?_ _) | (with_reducible refine Kd.C_drew ?_))); (case side4 => exact (Kd.R_reads' HO290.out).2.1); rintro e w' ⟨rfl, ⟨nd, rfl⟩⟩) | (go_at_call 39; (with_reducible refine (vector_Dot.calls k _ _ t288 _ _ t285 t294 _ ?side1 ?side2 ?side3 ?side4 A16.out).mono ?_); (case side1 => repeat (first | exact (Kd.R_reads' HO290.out).2.2 | (with_reducible refine Kd.C_alloc ?_ _) | (with_reducible refine Kd.C_drewN ?_ _) | (with_reducible refine Kd.C_drew ?_))); (case side2 => exact (Kd.R_reads' HO290.out).2.1); (case side3 => repeat (first | exact (Kd.R_reads' HO287.out).2.2 | (with_reducible refine Kd.C_alloc ?_ _) | (with_reducible refine Kd.C_drewN ?_ _) | (with_reducible refine Kd.C_drew ?_))); (case side4 => exact (Kd.R_reads' HO287.out).2.1); rintro e w' ⟨rfl, ⟨nd, rfl⟩⟩))
        go_meet
        case rel => exact ⟨_, (true), (by first | rfl | (simp; done) | (simp [*]; done)), H', ⟨by first | omega | exact Nat.le_refl _⟩, ⟨by (with_reducible repeat (first | apply Kd.R_alloc | apply Kd.R_drewN | apply Kd.R_drew)); exact Kd.R_mono HO287.out (fun _ hk => hk.2)⟩, ⟨by (with_reducible repeat (first | apply Kd.R_alloc | apply Kd.R_drewN | apply Kd.R_drew)); exact Kd.R_mono HO290.out (fun _ hk => hk.2)⟩, ⟨by repeat (first | (with_reducible first | exact HB.out | apply below_alloc | apply pw_below_drewN | apply below_drew1) | exact HB.out)⟩⟩
    · rw [if_neg c14] at H
      have c14b0 : (t291 == t292) = false := beq_eq_false_iff_ne.mpr c14
      have c14b1 : (t291 != t292) = true := bne_iff_ne.mpr c14
      (first | rw [c14b0] | (simp only [i64_w, i32_w]; rw [c14b0]) | skip)
      have H' := Aside0.mk H
      clear H
      obtain ⟨Ao33, co33, eo33⟩ := Kd.R_slice HO287.out
      subst eo33
      obtain ⟨Ao34, co34, eo34⟩ := Kd.R_slice HO290.out
      subst eo34
      go_wp2_with (first | ((with_reducible refine gate_callee (f := 37) rfl ?_); refine goesL_ (some 31) rfl rfl Try.func37 (by kernel_rfl) rfl #[.slice Ao33 t285.length co33, .slice Ao34 t288.length co34] rfl (by (try simp only [List.map_toArray, List.map_cons, List.map_nil]); first | done | rfl | (simp only [List.length_drop, List.length_take]; rfl)) ?_; (with_reducible refine (vector_L2.calls k _ _ t285 _ _ t288 t291 _ ?side1 ?side2 ?side3 ?side4 A12.out).mono ?_); (case side1 => repeat (first | exact (Kd.R_reads' HO287.out).2.2 | (with_reducible refine Kd.C_alloc ?_ _) | (with_reducible refine Kd.C_drewN ?_ _) | (with_reducible refine Kd.C_drew ?_))); (case side2 => exact (Kd.R_reads' HO287.out).2.1); (case side3 => repeat (first | exact (Kd.R_reads' HO290.out).2.2 | (with_reducible refine Kd.C_alloc ?_ _) | (with_reducible refine Kd.C_drewN ?_ _) | (with_reducible refine Kd.C_drew ?_))); (case side4 => exact (Kd.R_reads' HO290.out).2.1); rintro e w' ⟨rfl, ⟨nd, rfl⟩⟩; refine ⟨_, rfl, ?_⟩) | ((with_reducible refine gate_callee (f := 37) rfl ?_); refine goesL_ (some 34) rfl rfl Try.func37 (by kernel_rfl) rfl #[.slice Ao34 t288.length co34, .slice Ao33 t285.length co33] rfl (by (try simp only [List.map_toArray, List.map_cons, List.map_nil]); first | done | rfl | (simp only [List.length_drop, List.length_take]; rfl)) ?_; (with_reducible refine (vector_L2.calls k _ _ t288 _ _ t285 t292 _ ?side1 ?side2 ?side3 ?side4 A13.out).mono ?_); (case side1 => repeat (first | exact (Kd.R_reads' HO290.out).2.2 | (with_reducible refine Kd.C_alloc ?_ _) | (with_reducible refine Kd.C_drewN ?_ _) | (with_reducible refine Kd.C_drew ?_))); (case side2 => exact (Kd.R_reads' HO290.out).2.1); (case side3 => repeat (first | exact (Kd.R_reads' HO287.out).2.2 | (with_reducible refine Kd.C_alloc ?_ _) | (with_reducible refine Kd.C_drewN ?_ _) | (with_reducible refine Kd.C_drew ?_))); (case side4 => exact (Kd.R_reads' HO287.out).2.1); rintro e w' ⟨rfl, ⟨nd, rfl⟩⟩; refine ⟨_, rfl, ?_⟩))
      go_meet
      case rel => exact ⟨_, (true), (by first | rfl | (simp; done) | (simp [*]; done)), H', ⟨by first | omega | exact Nat.le_refl _⟩, ⟨by (with_reducible repeat (first | apply Kd.R_alloc | apply Kd.R_drewN | apply Kd.R_drew)); exact Kd.R_mono HO287.out (fun _ hk => hk.2)⟩, ⟨by (with_reducible repeat (first | apply Kd.R_alloc | apply Kd.R_drewN | apply Kd.R_drew)); exact Kd.R_mono HO290.out (fun _ hk => hk.2)⟩, ⟨by repeat (first | (with_reducible first | exact HB.out | apply below_alloc | apply pw_below_drewN | apply below_drew1) | exact HB.out)⟩⟩
  case rest =>
    clear HC9
    try clear c1
    try clear c2
    try clear p2
    try clear c3
    try clear c4
    try clear c11
    try clear c14
    try clear c14b0
    try clear c14b1
    try clear c17
    try clear c17b0
    try clear c17b1
    try clear c20
    try clear c20b0
    try clear c20b1
    try clear c23
    try clear c23b0
    try clear c23b1
    try clear c23b2
    obtain ⟨kq, x69_8, rfl, HA, HJ8, HO_8, HO_9, HB⟩ := hcut
    cases kq with
    | zero => exact absurd HA.out (by simp [lodestarlaw06_VectorRules.j0])
    | succ kj8 =>
      have H := HA.out
      clear HA
      simp only [lodestarlaw06_VectorRules.j0] at H
      by_cases c35 : x69_8 = true
      · subst c35
        have H1 : (some false) = some r := by rw [if_pos rfl] at H; exact H
        clear H
        have H := H1
        clear H1
        obtain rfl := Option.some.inj H
        go_wp2
        go_ret
        exact ⟨by first | rfl | (simp [errW_none, errW_some] <;> rfl) | (simp only [← hji4, ← hji5, ← hji6]; first | rfl | (simp [errW_none, errW_some] <;> rfl)) | (simp [*, errW_none, errW_some] <;> rfl), by repeat (first | (with_reducible first | exact HB.out | apply below_alloc | apply pw_below_drewN | apply below_drew1) | exact HB.out)⟩
      · replace c35 := Bool.eq_false_iff.mpr c35
        subst c35
        have H1 : ((vector_Dot.f kj8 t285 t285).bind fun t300 => ((vector_Dot.f kj8 t288 t288).bind fun t301 => ((vector_L2.f kj8 t285 t288).bind fun t302 => ((vector_Dot.f kj8 t285 t288).bind fun t303 => (if (wrap64 (t300 + t301)) = (wrap64 (t302 + (wrap64 (2 * t303)))) then ((lodestarlaw06_twin.f t285).bind fun t304 => ((lodestarlaw06_twin.f t288).bind fun t307 => (lodestarlaw06_VectorRules.l0 kj8 (mx (-100) (mn a2 100)) ji6 t285 t304 t307 0))) else (some false)))))) = some r := by rw [if_neg (show ¬ (false = true) by decide)] at H; exact H
        clear H
        have H := H1
        clear H1
        replace H := Option.bind_eq_some_iff.mp H
        obtain ⟨t300, A360, H⟩ := H
        replace H : ((vector_Dot.f kj8 t288 t288).bind fun t301 => ((vector_L2.f kj8 t285 t288).bind fun t302 => ((vector_Dot.f kj8 t285 t288).bind fun t303 => (if (wrap64 (t300 + t301)) = (wrap64 (t302 + (wrap64 (2 * t303)))) then ((lodestarlaw06_twin.f t285).bind fun t304 => ((lodestarlaw06_twin.f t288).bind fun t307 => (lodestarlaw06_VectorRules.l0 kj8 (mx (-100) (mn a2 100)) ji6 t285 t304 t307 0))) else (some false))))) = some r := H
        have A36 := Aside0.mk A360
        clear A360
        replace H := Option.bind_eq_some_iff.mp H
        obtain ⟨t301, A370, H⟩ := H
        replace H : ((vector_L2.f kj8 t285 t288).bind fun t302 => ((vector_Dot.f kj8 t285 t288).bind fun t303 => (if (wrap64 (t300 + t301)) = (wrap64 (t302 + (wrap64 (2 * t303)))) then ((lodestarlaw06_twin.f t285).bind fun t304 => ((lodestarlaw06_twin.f t288).bind fun t307 => (lodestarlaw06_VectorRules.l0 kj8 (mx (-100) (mn a2 100)) ji6 t285 t304 t307 0))) else (some false)))) = some r := H
        have A37 := Aside0.mk A370
        clear A370
        replace H := Option.bind_eq_some_iff.mp H
        obtain ⟨t302, A380, H⟩ := H
        replace H : ((vector_Dot.f kj8 t285 t288).bind fun t303 => (if (wrap64 (t300 + t301)) = (wrap64 (t302 + (wrap64 (2 * t303)))) then ((lodestarlaw06_twin.f t285).bind fun t304 => ((lodestarlaw06_twin.f t288).bind fun t307 => (lodestarlaw06_VectorRules.l0 kj8 (mx (-100) (mn a2 100)) ji6 t285 t304 t307 0))) else (some false))) = some r := H
        have A38 := Aside0.mk A380
        clear A380
        replace H := Option.bind_eq_some_iff.mp H
        obtain ⟨t303, A390, H⟩ := H
        replace H : (if (wrap64 (t300 + t301)) = (wrap64 (t302 + (wrap64 (2 * t303)))) then ((lodestarlaw06_twin.f t285).bind fun t304 => ((lodestarlaw06_twin.f t288).bind fun t307 => (lodestarlaw06_VectorRules.l0 kj8 (mx (-100) (mn a2 100)) ji6 t285 t304 t307 0))) else (some false)) = some r := H
        have A39 := Aside0.mk A390
        clear A390
        by_cases c40 : (wrap64 (t300 + t301)) = (wrap64 (t302 + (wrap64 (2 * t303))))
        · rw [if_pos c40] at H
          have c40b0 : ((wrap64 (t300 + t301)) == (wrap64 (t302 + (wrap64 (2 * t303))))) = true := beq_iff_eq.mpr c40
          have c40b1 : ((wrap64 (t300 + t301)) != (wrap64 (t302 + (wrap64 (2 * t303))))) = false := bne_eq_false_iff_eq.mpr c40
          clear c40
          obtain ⟨ji41, hji41⟩ : ∃ j_ : Int, (mn a2 100) = j_ := ⟨_, rfl⟩
          replace H : ((lodestarlaw06_twin.f t285).bind fun t304 => ((lodestarlaw06_twin.f t288).bind fun t307 => (lodestarlaw06_VectorRules.l0 kj8 (mx (-100) (ji41)) ji6 t285 t304 t307 0))) = some r := by first | (rw [hji41] at H; exact H) | (simp only [hji41] at H ⊢; exact H)
          (try rw [hji41] at A36)
          (try rw [hji41] at A37)
          (try rw [hji41] at A38)
          (try rw [hji41] at A39)
          have hji41_ : (if 100 < a2 then 100 else a2) = ji41 := hji41
          obtain ⟨ji42, hji42⟩ : ∃ j_ : Int, (mx (-100) (ji41)) = j_ := ⟨_, rfl⟩
          replace H : ((lodestarlaw06_twin.f t285).bind fun t304 => ((lodestarlaw06_twin.f t288).bind fun t307 => (lodestarlaw06_VectorRules.l0 kj8 ji42 ji6 t285 t304 t307 0))) = some r := by first | (rw [hji42] at H; exact H) | (simp only [hji42] at H ⊢; exact H)
          (try rw [hji42] at A36)
          (try rw [hji42] at A37)
          (try rw [hji42] at A38)
          (try rw [hji42] at A39)
          have hji42_ : (if (-100) < (ji41) then (ji41) else (-100)) = ji42 := hji42
          replace H := Option.bind_eq_some_iff.mp H
          obtain ⟨t304, A430, H⟩ := H
          replace H : ((lodestarlaw06_twin.f t288).bind fun t307 => (lodestarlaw06_VectorRules.l0 kj8 ji42 ji6 t285 t304 t307 0)) = some r := H
          have A43 := Aside0.mk A430
          clear A430
          replace H := Option.bind_eq_some_iff.mp H
          obtain ⟨t307, A440, H⟩ := H
          replace H : (lodestarlaw06_VectorRules.l0 kj8 ji42 ji6 t285 t304 t307 0) = some r := H
          have A44 := Aside0.mk A440
          clear A440
          have H' := Aside0.mk H
          clear H
          obtain ⟨Ao45, co45, eo45⟩ := Kd.R_slice HO_8.out
          subst eo45
          go_wp2_with (first | ((with_reducible refine gate_callee (f := 39) rfl ?_); refine goesL_ (some 72) rfl rfl Try.func39 (by kernel_rfl) rfl #[.slice Ao45 t285.length co45, .slice Ao45 t285.length co45] rfl (by (try simp only [List.map_toArray, List.map_cons, List.map_nil]); first | done | rfl | (simp only [List.length_drop, List.length_take]; rfl)) ?_; (with_reducible refine (vector_Dot.calls kj8 _ _ t285 _ _ t285 t300 _ ?side1 ?side2 ?side3 ?side4 A36.out).mono ?_); (case side1 => repeat (first | exact (Kd.R_reads' HO_8.out).2.2 | (with_reducible refine Kd.C_alloc ?_ _) | (with_reducible refine Kd.C_drewN ?_ _) | (with_reducible refine Kd.C_drew ?_))); (case side2 => exact (Kd.R_reads' HO_8.out).2.1); (case side3 => repeat (first | exact (Kd.R_reads' HO_8.out).2.2 | (with_reducible refine Kd.C_alloc ?_ _) | (with_reducible refine Kd.C_drewN ?_ _) | (with_reducible refine Kd.C_drew ?_))); (case side4 => exact (Kd.R_reads' HO_8.out).2.1); rintro e w' ⟨rfl, ⟨nd, rfl⟩⟩; refine ⟨_, rfl, ?_⟩; obtain ⟨Ao46, co46, eo46⟩ := Kd.R_slice HO_9.out; subst eo46) | ((with_reducible refine gate_callee (f := 39) rfl ?_); refine goesL_ (some 75) rfl rfl Try.func39 (by kernel_rfl) rfl #[.slice Ao46 t288.length co46, .slice Ao46 t288.length co46] rfl (by (try simp only [List.map_toArray, List.map_cons, List.map_nil]); first | done | rfl | (simp only [List.length_drop, List.length_take]; rfl)) ?_; (with_reducible refine (vector_Dot.calls kj8 _ _ t288 _ _ t288 t301 _ ?side1 ?side2 ?side3 ?side4 A37.out).mono ?_); (case side1 => repeat (first | exact (Kd.R_reads' HO_9.out).2.2 | (with_reducible refine Kd.C_alloc ?_ _) | (with_reducible refine Kd.C_drewN ?_ _) | (with_reducible refine Kd.C_drew ?_))); (case side2 => exact (Kd.R_reads' HO_9.out).2.1); (case side3 => repeat (first | exact (Kd.R_reads' HO_9.out).2.2 | (with_reducible refine Kd.C_alloc ?_ _) | (with_reducible refine Kd.C_drewN ?_ _) | (with_reducible refine Kd.C_drew ?_))); (case side4 => exact (Kd.R_reads' HO_9.out).2.1); rintro e w' ⟨rfl, ⟨nd, rfl⟩⟩; refine ⟨_, rfl, ?_⟩) | ((with_reducible refine gate_callee (f := 37) rfl ?_); refine goesL_ (some 79) rfl rfl Try.func37 (by kernel_rfl) rfl #[.slice Ao45 t285.length co45, .slice Ao46 t288.length co46] rfl (by (try simp only [List.map_toArray, List.map_cons, List.map_nil]); first | done | rfl | (simp only [List.length_drop, List.length_take]; rfl)) ?_; (with_reducible refine (vector_L2.calls kj8 _ _ t285 _ _ t288 t302 _ ?side1 ?side2 ?side3 ?side4 A38.out).mono ?_); (case side1 => repeat (first | exact (Kd.R_reads' HO_8.out).2.2 | (with_reducible refine Kd.C_alloc ?_ _) | (with_reducible refine Kd.C_drewN ?_ _) | (with_reducible refine Kd.C_drew ?_))); (case side2 => exact (Kd.R_reads' HO_8.out).2.1); (case side3 => repeat (first | exact (Kd.R_reads' HO_9.out).2.2 | (with_reducible refine Kd.C_alloc ?_ _) | (with_reducible refine Kd.C_drewN ?_ _) | (with_reducible refine Kd.C_drew ?_))); (case side4 => exact (Kd.R_reads' HO_9.out).2.1); rintro e w' ⟨rfl, ⟨nd, rfl⟩⟩; refine ⟨_, rfl, ?_⟩) | ((with_reducible refine gate_callee (f := 39) rfl ?_); refine goesL_ (some 82) rfl rfl Try.func39 (by kernel_rfl) rfl #[.slice Ao45 t285.length co45, .slice Ao46 t288.length co46] rfl (by (try simp only [List.map_toArray, List.map_cons, List.map_nil]); first | done | rfl | (simp only [List.length_drop, List.length_take]; rfl)) ?_; (with_reducible refine (vector_Dot.calls kj8 _ _ t285 _ _ t288 t303 _ ?side1 ?side2 ?side3 ?side4 A39.out).mono ?_); (case side1 => repeat (first | exact (Kd.R_reads' HO_8.out).2.2 | (with_reducible refine Kd.C_alloc ?_ _) | (with_reducible refine Kd.C_drewN ?_ _) | (with_reducible refine Kd.C_drew ?_))); (case side2 => exact (Kd.R_reads' HO_8.out).2.1); (case side3 => repeat (first | exact (Kd.R_reads' HO_9.out).2.2 | (with_reducible refine Kd.C_alloc ?_ _) | (with_reducible refine Kd.C_drewN ?_ _) | (with_reducible refine Kd.C_drew ?_))); (case side4 => exact (Kd.R_reads' HO_9.out).2.1); rintro e w' ⟨rfl, ⟨nd, rfl⟩⟩; refine ⟨_, rfl, ?_⟩) | ((with_reducible refine gate_callee (f := 30) rfl ?_); refine goesL_ (some 90) rfl rfl Try.func30 (by kernel_rfl) rfl #[.slice Ao45 t285.length co45] rfl (by (try simp only [List.map_toArray, List.map_cons, List.map_nil]); first | done | rfl | (simp only [List.length_drop, List.length_take]; rfl)) ?_; (with_reducible refine (lodestarlaw06_twin.calls _ _ t285 t304 _ ?side1 ?side2 A43.out).mono ?_); (case side1 => repeat (first | exact (Kd.R_reads' HO_8.out).2.2 | (with_reducible refine Kd.C_alloc ?_ _) | (with_reducible refine Kd.C_drewN ?_ _) | (with_reducible refine Kd.C_drew ?_))); (case side2 => exact (Kd.R_reads' HO_8.out).2.1); rintro e w47 ⟨v305, rfl, ho0, hb⟩; refine ⟨_, rfl, ?_⟩; have n0_ := Aside0.mk (Kd.R_elder' (by (with_reducible repeat (first | apply Kd.R_alloc | apply Kd.R_drewN | apply Kd.R_drew)); exact HO_8.out) (Kd.R_base ho0) hb); have n1_ := Aside0.mk (Kd.R_elder' (by (with_reducible repeat (first | apply Kd.R_alloc | apply Kd.R_drewN | apply Kd.R_drew)); exact HO_9.out) (Kd.R_base ho0) hb); have n2_ := Aside0.mk (Kd.R_lower (Kd.R_new' (Kd.R_new' ho0 (Kd.R_lt (by (with_reducible repeat (first | apply Kd.R_alloc | apply Kd.R_drewN | apply Kd.R_drew)); exact HO_8.out))) (Kd.R_lt (by (with_reducible repeat (first | apply Kd.R_alloc | apply Kd.R_drewN | apply Kd.R_drew)); exact HO_9.out))) (below_size (by repeat (first | (with_reducible first | exact HB.out | apply below_alloc | apply pw_below_drewN | apply below_drew1) | exact HB.out)))); have n3_ := Aside0.mk (below_step (by repeat (first | (with_reducible first | exact HB.out | apply below_alloc | apply pw_below_drewN | apply below_drew1) | exact HB.out)) hb); clear HO_8; clear HO_9; clear HB; have HO_8 := n0_; have HO_9 := n1_; have HO306 := n2_; have HB := n3_; clear n0_ n1_ n2_ n3_; (try clear hb); (try clear hb2); (try clear hk); (try clear hi); (try clear ho0)) | ((with_reducible refine gate_callee (f := 30) rfl ?_); refine goesL_ (some 92) rfl rfl Try.func30 (by kernel_rfl) rfl #[.slice Ao46 t288.length co46] rfl (by (try simp only [List.map_toArray, List.map_cons, List.map_nil]); first | done | rfl | (simp only [List.length_drop, List.length_take]; rfl)) ?_; (with_reducible refine (lodestarlaw06_twin.calls _ _ t288 t307 _ ?side1 ?side2 A44.out).mono ?_); (case side1 => repeat (first | exact (Kd.R_reads' HO_9.out).2.2 | (with_reducible refine Kd.C_alloc ?_ _) | (with_reducible refine Kd.C_drewN ?_ _) | (with_reducible refine Kd.C_drew ?_))); (case side2 => exact (Kd.R_reads' HO_9.out).2.1); rintro e w48 ⟨v308, rfl, ho0, hb⟩; refine ⟨_, rfl, ?_⟩; have n0_ := Aside0.mk (Kd.R_elder' (by (with_reducible repeat (first | apply Kd.R_alloc | apply Kd.R_drewN | apply Kd.R_drew)); exact HO_8.out) (Kd.R_base ho0) hb); have n1_ := Aside0.mk (Kd.R_elder' (by (with_reducible repeat (first | apply Kd.R_alloc | apply Kd.R_drewN | apply Kd.R_drew)); exact HO_9.out) (Kd.R_base ho0) hb); have n2_ := Aside0.mk (Kd.R_elder' (by (with_reducible repeat (first | apply Kd.R_alloc | apply Kd.R_drewN | apply Kd.R_drew)); exact HO306.out) (Kd.R_base ho0) hb); have n3_ := Aside0.mk (Kd.R_lower (Kd.R_new' (Kd.R_new' (Kd.R_new' ho0 (Kd.R_lt (by (with_reducible repeat (first | apply Kd.R_alloc | apply Kd.R_drewN | apply Kd.R_drew)); exact HO_8.out))) (Kd.R_lt (by (with_reducible repeat (first | apply Kd.R_alloc | apply Kd.R_drewN | apply Kd.R_drew)); exact HO_9.out))) (Kd.R_lt (by (with_reducible repeat (first | apply Kd.R_alloc | apply Kd.R_drewN | apply Kd.R_drew)); exact HO306.out))) (below_size (by repeat (first | (with_reducible first | exact HB.out | apply below_alloc | apply pw_below_drewN | apply below_drew1) | exact HB.out)))); have n4_ := Aside0.mk (below_step (by repeat (first | (with_reducible first | exact HB.out | apply below_alloc | apply pw_below_drewN | apply below_drew1) | exact HB.out)) hb); clear HO_8; clear HO_9; clear HO306; clear HB; have HO_8 := n0_; have HO_9 := n1_; have HO306 := n2_; have HO309 := n3_; have HB := n4_; clear n0_ n1_ n2_ n3_ n4_; (try clear hb); (try clear hb2); (try clear hk); (try clear hi); (try clear ho0)))
          go_loopg [12] kj8 (fun kq v12 w' => ∃ (x10_2 : List Int) (x11_2 : List Int) (x12_2 : Int), v12 = .int .i64 x12_2 ∧ Aside0 (lodestarlaw06_VectorRules.l0 kq ji42 ji6 t285 x10_2 x11_2 x12_2 = some r) ∧ Aside0 (kq ≤ kj8) ∧ Aside0 (Kd.R (Kd.int .i64) 3 w' w.heap.size (fun k_ => some k_ ≠ (v305 : Value).ownBlock ∧ some k_ ≠ (v308 : Value).ownBlock) (.slice Ao45 t285.length co45) t285) ∧ Aside0 (Kd.R (Kd.int .i64) 3 w' w.heap.size (fun k_ => some k_ ≠ ((.slice Ao45 t285.length co45) : Value).ownBlock ∧ some k_ ≠ (v308 : Value).ownBlock) v305 x10_2) ∧ Aside0 (Kd.R (Kd.int .i64) 3 w' w.heap.size (fun k_ => some k_ ≠ ((.slice Ao45 t285.length co45) : Value).ownBlock ∧ some k_ ≠ (v305 : Value).ownBlock) v308 x11_2) ∧ Aside0 (Below w.heap.size w w'))
          case atStart => exact ⟨(t304), (t307), (0), (by first | rfl | (simp; done) | (simp [*]; done)), H', ⟨Nat.le_refl _⟩, ⟨by (with_reducible repeat (first | apply Kd.R_alloc | apply Kd.R_drewN | apply Kd.R_drew)); exact Kd.R_mono HO_8.out (fun _ hk => ⟨hk.1.2, hk.2⟩)⟩, ⟨by (with_reducible repeat (first | apply Kd.R_alloc | apply Kd.R_drewN | apply Kd.R_drew)); exact Kd.R_mono HO306.out (fun _ hk => ⟨hk.1.1.2, hk.2⟩)⟩, ⟨by (with_reducible repeat (first | apply Kd.R_alloc | apply Kd.R_drewN | apply Kd.R_drew)); exact Kd.R_mono HO309.out (fun _ hk => ⟨hk.1.1.2, hk.2⟩)⟩, ⟨by repeat (first | (with_reducible first | exact HB.out | apply below_alloc | apply pw_below_drewN | apply below_drew1) | exact HB.out)⟩⟩
          case round =>
            clear H'
            try clear c1
            try clear c2
            try clear p2
            try clear c3
            try clear c4
            try clear p6
            try clear c11
            try clear c14
            try clear c14b0
            try clear c14b1
            try clear c17
            try clear c17b0
            try clear c17b1
            try clear c20
            try clear c20b0
            try clear c20b1
            try clear c23
            try clear c23b0
            try clear c23b1
            try clear c23b2
            try clear c30
            try clear c35
            try clear c37
            try clear c39
            try clear c40
            try clear c40b0
            try clear c40b1
            try clear c43
            try clear p2
            obtain ⟨x10_2, x11_2, x12_2, rfl, HA, HK2, HO_8, HO_10, HO_11, HB⟩ := hrel
            cases gk with
            | zero => exact absurd HA.out (by simp [lodestarlaw06_VectorRules.l0])
            | succ k2 =>
              have H := HA.out
              clear HA
              simp only [lodestarlaw06_VectorRules.l0] at H
              by_cases c49 : x12_2 < ji6
              · rw [if_pos c49] at H
                have c49b0 : decide (x12_2 < ji6) = true := decide_eq_true c49
                clear c49
                by_cases c50 : 0 ≤ x12_2
                · rw [if_pos c50] at H
                  have c50b0 : decide (0 ≤ x12_2) = true := decide_eq_true c50
                  clear c50
                  by_cases c51 : x12_2 < (x10_2.length : Int)
                  · rw [if_pos c51] at H
                    have c51b0 : decide (x12_2 < (x10_2.length : Int)) = true := decide_eq_true c51
                    clear c51
                    obtain ⟨ji52, hji52⟩ : ∃ j_ : Int, (mn (rd x10_2 x12_2) 32000) = j_ := ⟨_, rfl⟩
                    replace H : (if x12_2 < (x11_2.length : Int) then (lodestarlaw06_VectorRules.l0 k2 ji42 ji6 t285 (x10_2.set (x12_2 : Int).toNat (mx (-32000) (ji52))) (x11_2.set (x12_2 : Int).toNat (mx (-32000) (mn (rd x11_2 x12_2) 32000))) (wrap64 (x12_2 + 1))) else (none)) = some r := by first | (rw [hji52] at H; exact H) | (simp only [hji52] at H ⊢; exact H)
                    have hji52_ : (if 32000 < (rd x10_2 x12_2) then 32000 else (rd x10_2 x12_2)) = ji52 := hji52
                    obtain ⟨ji53, hji53⟩ : ∃ j_ : Int, (mx (-32000) (ji52)) = j_ := ⟨_, rfl⟩
                    replace H : (if x12_2 < (x11_2.length : Int) then (lodestarlaw06_VectorRules.l0 k2 ji42 ji6 t285 (x10_2.set (x12_2 : Int).toNat (ji53)) (x11_2.set (x12_2 : Int).toNat (mx (-32000) (mn (rd x11_2 x12_2) 32000))) (wrap64 (x12_2 + 1))) else (none)) = some r := by first | (rw [hji53] at H; exact H) | (simp only [hji53] at H ⊢; exact H)
                    have hji53_ : (if (-32000) < (ji52) then (ji52) else (-32000)) = ji53 := hji53
                    obtain ⟨y311, hy311⟩ : ∃ y_ : List Int, y_ = (x10_2.set (x12_2 : Int).toNat (ji53)) := ⟨_, rfl⟩
                    replace H : (if x12_2 < (x11_2.length : Int) then (lodestarlaw06_VectorRules.l0 k2 ji42 ji6 t285 y311 (x11_2.set (x12_2 : Int).toNat (mx (-32000) (mn (rd x11_2 x12_2) 32000))) (wrap64 (x12_2 + 1))) else (none)) = some r := by first | (rw [hy311]; with_reducible exact H) | (have H2_ := (Option.bind_some _ _).symm.trans H; rw [hy311]; with_reducible exact H2_) | (have H2_ := (Option.bind_some _ _).symm.trans H; with_reducible exact H2_) | with_reducible exact H | (rw [hy311]; exact H) | exact H
                    have Ny311 := Aside0.mk hy311
                    clear hy311
                    by_cases c55 : x12_2 < (x11_2.length : Int)
                    · rw [if_pos c55] at H
                      have c55b0 : decide (x12_2 < (x11_2.length : Int)) = true := decide_eq_true c55
                      clear c55
                      obtain ⟨ji56, hji56⟩ : ∃ j_ : Int, (mn (rd x11_2 x12_2) 32000) = j_ := ⟨_, rfl⟩
                      replace H : (lodestarlaw06_VectorRules.l0 k2 ji42 ji6 t285 y311 (x11_2.set (x12_2 : Int).toNat (mx (-32000) (ji56))) (wrap64 (x12_2 + 1))) = some r := by first | (rw [hji56] at H; exact H) | (simp only [hji56] at H ⊢; exact H)
                      have hji56_ : (if 32000 < (rd x11_2 x12_2) then 32000 else (rd x11_2 x12_2)) = ji56 := hji56
                      obtain ⟨ji57, hji57⟩ : ∃ j_ : Int, (mx (-32000) (ji56)) = j_ := ⟨_, rfl⟩
                      replace H : (lodestarlaw06_VectorRules.l0 k2 ji42 ji6 t285 y311 (x11_2.set (x12_2 : Int).toNat (ji57)) (wrap64 (x12_2 + 1))) = some r := by first | (rw [hji57] at H; exact H) | (simp only [hji57] at H ⊢; exact H)
                      have hji57_ : (if (-32000) < (ji56) then (ji56) else (-32000)) = ji57 := hji57
                      obtain ⟨y313, hy313⟩ : ∃ y_ : List Int, y_ = (x11_2.set (x12_2 : Int).toNat (ji57)) := ⟨_, rfl⟩
                      replace H : (lodestarlaw06_VectorRules.l0 k2 ji42 ji6 t285 y311 y313 (wrap64 (x12_2 + 1))) = some r := by first | (rw [hy313]; with_reducible exact H) | (have H2_ := (Option.bind_some _ _).symm.trans H; rw [hy313]; with_reducible exact H2_) | (have H2_ := (Option.bind_some _ _).symm.trans H; with_reducible exact H2_) | with_reducible exact H | (rw [hy313]; exact H) | exact H
                      have Ny313 := Aside0.mk hy313
                      clear hy313
                      have H' := Aside0.mk H
                      clear H
                      obtain ⟨Ao59, co59, eo59⟩ := Kd.R_slice HO_10.out
                      subst eo59
                      have p310 : 0 ≤ (x12_2 : Int) := of_decide_eq_true (by first | (with_reducible assumption) | assumption)
                      have q310 : x12_2 < (x10_2.length : Int) := of_decide_eq_true (by first | (with_reducible assumption) | assumption)
                      obtain ⟨ad310, e310, hx310_0⟩ := Kd.at_int (Kd.R_reads' HO_10.out).2.2 x12_2 p310 q310
                      cases e310
                      replace p310 := eq_true p310
                      replace q310 := eq_true q310
                      have p54 : 0 ≤ (x12_2 : Int) := of_decide_eq_true (by first | (with_reducible assumption) | assumption)
                      have q54 : (x12_2 : Int) < ((x10_2.length : Int) : Int) := of_decide_eq_true (by first | (with_reducible assumption) | assumption)
                      obtain ⟨go54, co54, eo54, gb54, gl54, cl54, HG54⟩ := Kd.R_form HO_10.out (by omega)
                      (first | cases eo54 | (injection eo54 with ea_ en_ ec_; (first | subst ea_ | (injection ea_ with ea_; subst ea_)); subst ec_; clear en_))
                      have GB54 := Aside0.mk gb54
                      have GG54 := Aside0.mk HG54
                      clear gb54 gl54 HG54
                      (first | simp only [add_plain] at hx310_0 | skip)
                      obtain ⟨hx54_0, hf54_0⟩ := Kd.R_celln 0 HO_10.out (x12_2 : Int) p54 q54
                      replace p54 := eq_true p54
                      replace q54 := eq_true q54
                      have HP60 := Kd.R_putg HO_10.out (x12_2 : Int) ji53
                      go_wp2_with (first | ((with_reducible refine gate_store (t := 3) (p := 106) rfl ?_); refine store_event (t := 3) (p := 106) (v := ?vo_w61) (w1 := (wr.setCell ⟨go54, (x12_2 : Int).toNat, none⟩ (.int .i64 ji53))) ?hg ?ho ?hn ?hr ?_; (case ho => rfl); (case hg => rfl); (case hn => rfl); (case hr => first | (go_simp; done) | (go_simp; rfl)); intro w61 hw; have hg : wr.grownBy w61 (some go54) := (by rw [hw]; exact HP60.2); have hp_ : Kd.R (Kd.int .i64) 3 w61 w.heap.size (fun k_ => some k_ ≠ (.slice Ao45 t285.length co45 : Value).ownBlock ∧ some k_ ≠ (v308 : Value).ownBlock) (.slice (some ⟨go54, 0, none⟩) x10_2.length co59) y311 := (by rw [hw, Ny311.out]; exact HP60.1); clear HP60; have n0_ := Aside0.mk (Kd.R_after (v := (.slice (some ⟨go54, 0, none⟩) x10_2.length co59)) (v1 := (.slice (some ⟨go54, 0, none⟩) x10_2.length co59)) (ok := (fun k_ => some k_ ≠ (v308 : Value).ownBlock)) (by (with_reducible repeat (first | apply Kd.R_alloc | apply Kd.R_drewN | apply Kd.R_drew)); exact Kd.R_mono HO_8.out (fun _ hk => ⟨hk.2, hk.1⟩)) hg (.inl rfl)); have n1_ := Aside0.mk (hp_); have n2_ := Aside0.mk (Kd.R_after (v := (.slice (some ⟨go54, 0, none⟩) x10_2.length co59)) (v1 := (.slice (some ⟨go54, 0, none⟩) x10_2.length co59)) (ok := (fun k_ => some k_ ≠ (.slice Ao45 t285.length co45 : Value).ownBlock)) (by (with_reducible repeat (first | apply Kd.R_alloc | apply Kd.R_drewN | apply Kd.R_drew)); exact HO_11.out) hg (.inl rfl)); have n3_ := Aside0.mk ((by rw [hw]; exact below_set (HB.out) GB54.out : Below w.heap.size w w61)); clear HO_8; clear HO_10; clear HO_11; clear HB; have HO_8 := n0_; have HO_10 := n1_; have HO_11 := n2_; have HB := n3_; clear n0_ n1_ n2_ n3_; clear hg hw hp_; obtain ⟨Ao62, co62, eo62⟩ := Kd.R_slice HO_11.out; subst eo62; have p312 : 0 ≤ (x12_2 : Int) := of_decide_eq_true (by first | (with_reducible assumption) | assumption); have q312 : x12_2 < (x11_2.length : Int) := of_decide_eq_true (by first | (with_reducible assumption) | assumption); obtain ⟨ad312, e312, hx312_0⟩ := Kd.at_int (Kd.R_reads' HO_11.out).2.2 x12_2 p312 q312; cases e312; replace p312 := eq_true p312; replace q312 := eq_true q312; have p58 : 0 ≤ (x12_2 : Int) := of_decide_eq_true (by first | (with_reducible assumption) | assumption); have q58 : (x12_2 : Int) < ((x11_2.length : Int) : Int) := of_decide_eq_true (by first | (with_reducible assumption) | assumption); obtain ⟨go58, co58, eo58, gb58, gl58, cl58, HG58⟩ := Kd.R_form HO_11.out (by omega); (first | cases eo58 | (injection eo58 with ea_ en_ ec_; (first | subst ea_ | (injection ea_ with ea_; subst ea_)); subst ec_; clear en_)); have GB58 := Aside0.mk gb58; have GG58 := Aside0.mk HG58; clear gb58 gl58 HG58; (first | simp only [add_plain] at hx312_0 | skip); obtain ⟨hx58_0, hf58_0⟩ := Kd.R_celln 0 HO_11.out (x12_2 : Int) p58 q58; replace p58 := eq_true p58; replace q58 := eq_true q58; obtain ⟨hy63_, hz63_⟩ := Kd.R_celln 0 HO_11.out (x12_2 : Int) (of_decide_eq_true (by first | (with_reducible assumption) | assumption)) (of_decide_eq_true (by first | (with_reducible assumption) | assumption)); have HP63 := Kd.R_putg HO_11.out (x12_2 : Int) ji57) | ((with_reducible refine gate_store (t := 3) (p := 115) rfl ?_); refine store_event (t := 3) (p := 115) (v := ?vo_w64) (w1 := (w61.setCell ⟨go58, (x12_2 : Int).toNat, none⟩ (.int .i64 ji57))) ?hg ?ho ?hn ?hr ?_; (case ho => rfl); (case hg => rfl); (case hn => rfl); (case hr => first | (go_simp; done) | (go_simp; rfl)); intro w64 hw; have hg : w61.grownBy w64 (some go58) := (by rw [hw]; exact HP63.2); have hp_ : Kd.R (Kd.int .i64) 3 w64 w.heap.size (fun k_ => some k_ ≠ (.slice Ao45 t285.length co45 : Value).ownBlock ∧ some k_ ≠ (.slice (some ⟨go54, 0, none⟩) x10_2.length co59 : Value).ownBlock) (.slice (some ⟨go58, 0, none⟩) x11_2.length co62) y313 := (by rw [hw, Ny313.out]; exact HP63.1); clear HP63; have n0_ := Aside0.mk (Kd.R_after (v := (.slice (some ⟨go58, 0, none⟩) x11_2.length co62)) (v1 := (.slice (some ⟨go58, 0, none⟩) x11_2.length co62)) (ok := (fun k_ => some k_ ≠ (.slice (some ⟨go54, 0, none⟩) x10_2.length co59 : Value).ownBlock)) (by (with_reducible repeat (first | apply Kd.R_alloc | apply Kd.R_drewN | apply Kd.R_drew)); exact Kd.R_mono HO_8.out (fun _ hk => ⟨hk.2, hk.1⟩)) hg (.inl rfl)); have n1_ := Aside0.mk (Kd.R_after (v := (.slice (some ⟨go58, 0, none⟩) x11_2.length co62)) (v1 := (.slice (some ⟨go58, 0, none⟩) x11_2.length co62)) (ok := (fun k_ => some k_ ≠ (.slice Ao45 t285.length co45 : Value).ownBlock)) (by (with_reducible repeat (first | apply Kd.R_alloc | apply Kd.R_drewN | apply Kd.R_drew)); exact HO_10.out) hg (.inl rfl)); have n2_ := Aside0.mk (hp_); have n3_ := Aside0.mk ((by rw [hw]; exact below_set (HB.out) GB58.out : Below w.heap.size w w64)); clear HO_8; clear HO_10; clear HO_11; clear HB; have HO_8 := n0_; have HO_10 := n1_; have HO_11 := n2_; have HB := n3_; clear n0_ n1_ n2_ n3_; clear hg hw hp_))
                      go_roundg k2
                      case measure => have := HJ8.out; have := HK2.out; omega
                      case rel => exact ⟨(y311), (y313), (wrap64 (x12_2 + 1)), (by first | rfl | (simp; done) | (simp [*]; done)), H', ⟨by have := HJ8.out; have := HK2.out; omega⟩, ⟨by (with_reducible repeat (first | apply Kd.R_alloc | apply Kd.R_drewN | apply Kd.R_drew)); exact HO_8.out⟩, ⟨by (with_reducible repeat (first | apply Kd.R_alloc | apply Kd.R_drewN | apply Kd.R_drew)); exact HO_10.out⟩, ⟨by (with_reducible repeat (first | apply Kd.R_alloc | apply Kd.R_drewN | apply Kd.R_drew)); exact HO_11.out⟩, ⟨by repeat (first | (with_reducible first | exact HB.out | apply below_alloc | apply pw_below_drewN | apply below_drew1) | exact HB.out)⟩⟩
                    · rw [if_neg c55] at H
                      exact absurd H (by simp)
                  · rw [if_neg c51] at H
                    exact absurd H (by simp)
                · rw [if_neg c50] at H
                  exact absurd H (by simp)
              · rw [if_neg c49] at H
                have c49b0 : decide (x12_2 < ji6) = false := decide_eq_false c49
                clear c49
                replace H := Option.bind_eq_some_iff.mp H
                obtain ⟨t314, A650, H⟩ := H
                replace H : ((lodestarlaw06_twin.f x11_2).bind fun t317 => (lodestarlaw06_VectorRules.l1 k2 ji42 ji6 t285 x10_2 x11_2 t314 t317 0)) = some r := H
                have A65 := Aside0.mk A650
                clear A650
                replace H := Option.bind_eq_some_iff.mp H
                obtain ⟨t317, A660, H⟩ := H
                replace H : (lodestarlaw06_VectorRules.l1 k2 ji42 ji6 t285 x10_2 x11_2 t314 t317 0) = some r := H
                have A66 := Aside0.mk A660
                clear A660
                have H' := Aside0.mk H
                clear H
                obtain ⟨Ao67, co67, eo67⟩ := Kd.R_slice HO_10.out
                subst eo67
                go_wp2_with (first | ((with_reducible refine gate_callee (f := 30) rfl ?_); refine goesL_ (some 117) rfl rfl Try.func30 (by kernel_rfl) rfl #[.slice Ao67 x10_2.length co67] rfl (by (try simp only [List.map_toArray, List.map_cons, List.map_nil]); first | done | rfl | (simp only [List.length_drop, List.length_take]; rfl)) ?_; (with_reducible refine (lodestarlaw06_twin.calls _ _ x10_2 t314 _ ?side1 ?side2 A65.out).mono ?_); (case side1 => repeat (first | exact (Kd.R_reads' HO_10.out).2.2 | (with_reducible refine Kd.C_alloc ?_ _) | (with_reducible refine Kd.C_drewN ?_ _) | (with_reducible refine Kd.C_drew ?_))); (case side2 => exact (Kd.R_reads' HO_10.out).2.1); rintro e w68 ⟨v315, rfl, ho0, hb⟩; refine ⟨_, rfl, ?_⟩; have n0_ := Aside0.mk (Kd.R_elder' (by (with_reducible repeat (first | apply Kd.R_alloc | apply Kd.R_drewN | apply Kd.R_drew)); exact HO_8.out) (Kd.R_base ho0) hb); have n1_ := Aside0.mk (Kd.R_elder' (by (with_reducible repeat (first | apply Kd.R_alloc | apply Kd.R_drewN | apply Kd.R_drew)); exact HO_10.out) (Kd.R_base ho0) hb); have n2_ := Aside0.mk (Kd.R_elder' (by (with_reducible repeat (first | apply Kd.R_alloc | apply Kd.R_drewN | apply Kd.R_drew)); exact HO_11.out) (Kd.R_base ho0) hb); have n3_ := Aside0.mk (Kd.R_lower (Kd.R_new' (Kd.R_new' (Kd.R_new' ho0 (Kd.R_lt (by (with_reducible repeat (first | apply Kd.R_alloc | apply Kd.R_drewN | apply Kd.R_drew)); exact HO_8.out))) (Kd.R_lt (by (with_reducible repeat (first | apply Kd.R_alloc | apply Kd.R_drewN | apply Kd.R_drew)); exact HO_10.out))) (Kd.R_lt (by (with_reducible repeat (first | apply Kd.R_alloc | apply Kd.R_drewN | apply Kd.R_drew)); exact HO_11.out))) (below_size (by repeat (first | (with_reducible first | exact HB.out | apply below_alloc | apply pw_below_drewN | apply below_drew1) | exact HB.out)))); have n4_ := Aside0.mk (below_step (by repeat (first | (with_reducible first | exact HB.out | apply below_alloc | apply pw_below_drewN | apply below_drew1) | exact HB.out)) hb); clear HO_8; clear HO_10; clear HO_11; clear HB; have HO_8 := n0_; have HO_10 := n1_; have HO_11 := n2_; have HO316 := n3_; have HB := n4_; clear n0_ n1_ n2_ n3_ n4_; (try clear hb); (try clear hb2); (try clear hk); (try clear hi); (try clear ho0); obtain ⟨Ao69, co69, eo69⟩ := Kd.R_slice HO_11.out; subst eo69) | ((with_reducible refine gate_callee (f := 30) rfl ?_); refine goesL_ (some 119) rfl rfl Try.func30 (by kernel_rfl) rfl #[.slice Ao69 x11_2.length co69] rfl (by (try simp only [List.map_toArray, List.map_cons, List.map_nil]); first | done | rfl | (simp only [List.length_drop, List.length_take]; rfl)) ?_; (with_reducible refine (lodestarlaw06_twin.calls _ _ x11_2 t317 _ ?side1 ?side2 A66.out).mono ?_); (case side1 => repeat (first | exact (Kd.R_reads' HO_11.out).2.2 | (with_reducible refine Kd.C_alloc ?_ _) | (with_reducible refine Kd.C_drewN ?_ _) | (with_reducible refine Kd.C_drew ?_))); (case side2 => exact (Kd.R_reads' HO_11.out).2.1); rintro e w70 ⟨v318, rfl, ho0, hb⟩; refine ⟨_, rfl, ?_⟩; have n0_ := Aside0.mk (Kd.R_elder' (by (with_reducible repeat (first | apply Kd.R_alloc | apply Kd.R_drewN | apply Kd.R_drew)); exact HO_8.out) (Kd.R_base ho0) hb); have n1_ := Aside0.mk (Kd.R_elder' (by (with_reducible repeat (first | apply Kd.R_alloc | apply Kd.R_drewN | apply Kd.R_drew)); exact HO_10.out) (Kd.R_base ho0) hb); have n2_ := Aside0.mk (Kd.R_elder' (by (with_reducible repeat (first | apply Kd.R_alloc | apply Kd.R_drewN | apply Kd.R_drew)); exact HO_11.out) (Kd.R_base ho0) hb); have n3_ := Aside0.mk (Kd.R_elder' (by (with_reducible repeat (first | apply Kd.R_alloc | apply Kd.R_drewN | apply Kd.R_drew)); exact HO316.out) (Kd.R_base ho0) hb); have n4_ := Aside0.mk (Kd.R_lower (Kd.R_new' (Kd.R_new' (Kd.R_new' (Kd.R_new' ho0 (Kd.R_lt (by (with_reducible repeat (first | apply Kd.R_alloc | apply Kd.R_drewN | apply Kd.R_drew)); exact HO_8.out))) (Kd.R_lt (by (with_reducible repeat (first | apply Kd.R_alloc | apply Kd.R_drewN | apply Kd.R_drew)); exact HO_10.out))) (Kd.R_lt (by (with_reducible repeat (first | apply Kd.R_alloc | apply Kd.R_drewN | apply Kd.R_drew)); exact HO_11.out))) (Kd.R_lt (by (with_reducible repeat (first | apply Kd.R_alloc | apply Kd.R_drewN | apply Kd.R_drew)); exact HO316.out))) (below_size (by repeat (first | (with_reducible first | exact HB.out | apply below_alloc | apply pw_below_drewN | apply below_drew1) | exact HB.out)))); have n5_ := Aside0.mk (below_step (by repeat (first | (with_reducible first | exact HB.out | apply below_alloc | apply pw_below_drewN | apply below_drew1) | exact HB.out)) hb); clear HO_8; clear HO_10; clear HO_11; clear HO316; clear HB; have HO_8 := n0_; have HO_10 := n1_; have HO_11 := n2_; have HO316 := n3_; have HO319 := n4_; have HB := n5_; clear n0_ n1_ n2_ n3_ n4_ n5_; (try clear hb); (try clear hb2); (try clear hk); (try clear hi); (try clear ho0)))
                go_loopg [15] k2 (fun kq v15 w' => ∃ (x13_3 : List Int) (x14_3 : List Int) (x15_3 : Int), v15 = .int .i64 x15_3 ∧ Aside0 (lodestarlaw06_VectorRules.l1 kq ji42 ji6 t285 x10_2 x11_2 x13_3 x14_3 x15_3 = some r) ∧ Aside0 (kq ≤ k2) ∧ Aside0 (Kd.R (Kd.int .i64) 3 w' w.heap.size (fun k_ => some k_ ≠ ((.slice Ao67 x10_2.length co67) : Value).ownBlock ∧ some k_ ≠ ((.slice Ao69 x11_2.length co69) : Value).ownBlock ∧ some k_ ≠ (v315 : Value).ownBlock ∧ some k_ ≠ (v318 : Value).ownBlock) (.slice Ao45 t285.length co45) t285) ∧ Aside0 (Kd.R (Kd.int .i64) 3 w' w.heap.size (fun k_ => some k_ ≠ ((.slice Ao45 t285.length co45) : Value).ownBlock ∧ some k_ ≠ ((.slice Ao69 x11_2.length co69) : Value).ownBlock ∧ some k_ ≠ (v315 : Value).ownBlock ∧ some k_ ≠ (v318 : Value).ownBlock) (.slice Ao67 x10_2.length co67) x10_2) ∧ Aside0 (Kd.R (Kd.int .i64) 3 w' w.heap.size (fun k_ => some k_ ≠ ((.slice Ao45 t285.length co45) : Value).ownBlock ∧ some k_ ≠ ((.slice Ao67 x10_2.length co67) : Value).ownBlock ∧ some k_ ≠ (v315 : Value).ownBlock ∧ some k_ ≠ (v318 : Value).ownBlock) (.slice Ao69 x11_2.length co69) x11_2) ∧ Aside0 (Kd.R (Kd.int .i64) 3 w' w.heap.size (fun k_ => some k_ ≠ ((.slice Ao45 t285.length co45) : Value).ownBlock ∧ some k_ ≠ ((.slice Ao67 x10_2.length co67) : Value).ownBlock ∧ some k_ ≠ ((.slice Ao69 x11_2.length co69) : Value).ownBlock ∧ some k_ ≠ (v318 : Value).ownBlock) v315 x13_3) ∧ Aside0 (Kd.R (Kd.int .i64) 3 w' w.heap.size (fun k_ => some k_ ≠ ((.slice Ao45 t285.length co45) : Value).ownBlock ∧ some k_ ≠ ((.slice Ao67 x10_2.length co67) : Value).ownBlock ∧ some k_ ≠ ((.slice Ao69 x11_2.length co69) : Value).ownBlock ∧ some k_ ≠ (v315 : Value).ownBlock) v318 x14_3) ∧ Aside0 (Below w.heap.size w w'))
                case atStart => exact ⟨(t314), (t317), (0), (by first | rfl | (simp; done) | (simp [*]; done)), H', ⟨Nat.le_refl _⟩, ⟨by (with_reducible repeat (first | apply Kd.R_alloc | apply Kd.R_drewN | apply Kd.R_drew)); exact Kd.R_mono HO_8.out (fun _ hk => ⟨hk.1.1.1, ⟨hk.1.1.2, ⟨hk.1.2, hk.2⟩⟩⟩)⟩, ⟨by (with_reducible repeat (first | apply Kd.R_alloc | apply Kd.R_drewN | apply Kd.R_drew)); exact Kd.R_mono HO_10.out (fun _ hk => ⟨hk.1.1.1, ⟨hk.1.1.2, ⟨hk.1.2, hk.2⟩⟩⟩)⟩, ⟨by (with_reducible repeat (first | apply Kd.R_alloc | apply Kd.R_drewN | apply Kd.R_drew)); exact Kd.R_mono HO_11.out (fun _ hk => ⟨hk.1.1.1, ⟨hk.1.1.2, ⟨hk.1.2, hk.2⟩⟩⟩)⟩, ⟨by (with_reducible repeat (first | apply Kd.R_alloc | apply Kd.R_drewN | apply Kd.R_drew)); exact Kd.R_mono HO316.out (fun _ hk => ⟨hk.1.1.1.2, ⟨hk.1.1.2, ⟨hk.1.2, hk.2⟩⟩⟩)⟩, ⟨by (with_reducible repeat (first | apply Kd.R_alloc | apply Kd.R_drewN | apply Kd.R_drew)); exact Kd.R_mono HO319.out (fun _ hk => ⟨hk.1.1.1.2, ⟨hk.1.1.2, ⟨hk.1.2, hk.2⟩⟩⟩)⟩, ⟨by repeat (first | (with_reducible first | exact HB.out | apply below_alloc | apply pw_below_drewN | apply below_drew1) | exact HB.out)⟩⟩
                case round =>
                  clear H'
                  try clear c1
                  try clear c2
                  try clear p2
                  try clear c3
                  try clear p3
                  try clear q3
                  try clear hx3
                  try clear c4
                  try clear c5
                  try clear p5
                  try clear q5
                  try clear hx5
                  try clear hf5
                  try clear p6
                  try clear c11
                  try clear c14
                  try clear c14b0
                  try clear c14b1
                  try clear c17
                  try clear c17b0
                  try clear c17b1
                  try clear c20
                  try clear c20b0
                  try clear c20b1
                  try clear c23
                  try clear c23b0
                  try clear c23b1
                  try clear c23b2
                  try clear c30
                  try clear p31
                  try clear q31
                  try clear hx31
                  try clear c35
                  try clear c37
                  try clear c39
                  try clear c40
                  try clear c40b0
                  try clear c40b1
                  try clear c43
                  try clear c49
                  try clear c49b0
                  try clear c50
                  try clear c50b0
                  try clear c51
                  try clear c51b0
                  try clear p54
                  try clear q54
                  try clear hx54
                  try clear hf54
                  try clear c55
                  try clear c55b0
                  try clear p58
                  try clear q58
                  try clear hx58
                  try clear hf58
                  try clear p64
                  try clear hx310_0
                  try clear hx312_0
                  try clear hx54_0
                  try clear hx58_0
                  try clear p2
                  try clear p310
                  try clear p312
                  try clear p54
                  try clear p58
                  try clear p6
                  try clear q310
                  try clear q312
                  try clear q54
                  try clear q58
                  obtain ⟨x13_3, x14_3, x15_3, rfl, HA, HK3, HO_8, HO_10, HO_11, HO_13, HO_14, HB⟩ := hrel
                  cases gk with
                  | zero => exact absurd HA.out (by simp [lodestarlaw06_VectorRules.l1])
                  | succ k3 =>
                    have H := HA.out
                    clear HA
                    simp only [lodestarlaw06_VectorRules.l1] at H
                    by_cases c71 : x15_3 < ji6
                    · rw [if_pos c71] at H
                      have c71b0 : decide (x15_3 < ji6) = true := decide_eq_true c71
                      clear c71
                      by_cases c72 : 0 ≤ x15_3
                      · rw [if_pos c72] at H
                        have c72b0 : decide (0 ≤ x15_3) = true := decide_eq_true c72
                        clear c72
                        by_cases c73 : x15_3 < (x13_3.length : Int)
                        · rw [if_pos c73] at H
                          have c73b0 : decide (x15_3 < (x13_3.length : Int)) = true := decide_eq_true c73
                          clear c73
                          obtain ⟨y321, hy321⟩ : ∃ y_ : List Int, y_ = (x13_3.set (x15_3 : Int).toNat (wrap64 ((rd x13_3 x15_3) + ji42))) := ⟨_, rfl⟩
                          replace H : (if x15_3 < (x14_3.length : Int) then (lodestarlaw06_VectorRules.l1 k3 ji42 ji6 t285 x10_2 x11_2 y321 (x14_3.set (x15_3 : Int).toNat (wrap64 ((rd x14_3 x15_3) + ji42))) (wrap64 (x15_3 + 1))) else (none)) = some r := by first | (rw [hy321]; with_reducible exact H) | (have H2_ := (Option.bind_some _ _).symm.trans H; rw [hy321]; with_reducible exact H2_) | (have H2_ := (Option.bind_some _ _).symm.trans H; with_reducible exact H2_) | with_reducible exact H | (rw [hy321]; exact H) | exact H
                          have Ny321 := Aside0.mk hy321
                          clear hy321
                          by_cases c75 : x15_3 < (x14_3.length : Int)
                          · rw [if_pos c75] at H
                            have c75b0 : decide (x15_3 < (x14_3.length : Int)) = true := decide_eq_true c75
                            clear c75
                            obtain ⟨y323, hy323⟩ : ∃ y_ : List Int, y_ = (x14_3.set (x15_3 : Int).toNat (wrap64 ((rd x14_3 x15_3) + ji42))) := ⟨_, rfl⟩
                            replace H : (lodestarlaw06_VectorRules.l1 k3 ji42 ji6 t285 x10_2 x11_2 y321 y323 (wrap64 (x15_3 + 1))) = some r := by first | (rw [hy323]; with_reducible exact H) | (have H2_ := (Option.bind_some _ _).symm.trans H; rw [hy323]; with_reducible exact H2_) | (have H2_ := (Option.bind_some _ _).symm.trans H; with_reducible exact H2_) | with_reducible exact H | (rw [hy323]; exact H) | exact H
                            have Ny323 := Aside0.mk hy323
                            clear hy323
                            have H' := Aside0.mk H
                            clear H
                            obtain ⟨Ao77, co77, eo77⟩ := Kd.R_slice HO_13.out
                            subst eo77
                            have p320 : 0 ≤ (x15_3 : Int) := of_decide_eq_true (by first | (with_reducible assumption) | assumption)
                            have q320 : x15_3 < (x13_3.length : Int) := of_decide_eq_true (by first | (with_reducible assumption) | assumption)
                            obtain ⟨ad320, e320, hx320_0⟩ := Kd.at_int (Kd.R_reads' HO_13.out).2.2 x15_3 p320 q320
                            cases e320
                            replace p320 := eq_true p320
                            replace q320 := eq_true q320
                            have p74 : 0 ≤ (x15_3 : Int) := of_decide_eq_true (by first | (with_reducible assumption) | assumption)
                            have q74 : (x15_3 : Int) < ((x13_3.length : Int) : Int) := of_decide_eq_true (by first | (with_reducible assumption) | assumption)
                            obtain ⟨go74, co74, eo74, gb74, gl74, cl74, HG74⟩ := Kd.R_form HO_13.out (by omega)
                            (first | cases eo74 | (injection eo74 with ea_ en_ ec_; (first | subst ea_ | (injection ea_ with ea_; subst ea_)); subst ec_; clear en_))
                            have GB74 := Aside0.mk gb74
                            have GG74 := Aside0.mk HG74
                            clear gb74 gl74 HG74
                            (first | simp only [add_plain] at hx320_0 | skip)
                            obtain ⟨hx74_0, hf74_0⟩ := Kd.R_celln 0 HO_13.out (x15_3 : Int) p74 q74
                            replace p74 := eq_true p74
                            replace q74 := eq_true q74
                            have HP78 := Kd.R_putg HO_13.out (x15_3 : Int) (wrap64 ((rd x13_3 x15_3) + ji42))
                            go_wp2_with (first | ((with_reducible refine gate_store (t := 3) (p := 131) rfl ?_); refine store_event (t := 3) (p := 131) (v := ?vo_w79) (w1 := (wr.setCell ⟨go74, (x15_3 : Int).toNat, none⟩ (.int .i64 (wrap64 ((rd x13_3 x15_3) + ji42))))) ?hg ?ho ?hn ?hr ?_; (case ho => rfl); (case hg => rfl); (case hn => rfl); (case hr => first | (go_simp; done) | (go_simp; rfl)); intro w79 hw; have hg : wr.grownBy w79 (some go74) := (by rw [hw]; exact HP78.2); have hp_ : Kd.R (Kd.int .i64) 3 w79 w.heap.size (fun k_ => some k_ ≠ (.slice Ao45 t285.length co45 : Value).ownBlock ∧ some k_ ≠ (.slice Ao67 x10_2.length co67 : Value).ownBlock ∧ some k_ ≠ (.slice Ao69 x11_2.length co69 : Value).ownBlock ∧ some k_ ≠ (v318 : Value).ownBlock) (.slice (some ⟨go74, 0, none⟩) x13_3.length co77) y321 := (by rw [hw, Ny321.out]; exact HP78.1); clear HP78; have n0_ := Aside0.mk (Kd.R_after (v := (.slice (some ⟨go74, 0, none⟩) x13_3.length co77)) (v1 := (.slice (some ⟨go74, 0, none⟩) x13_3.length co77)) (ok := (fun k_ => some k_ ≠ (.slice Ao67 x10_2.length co67 : Value).ownBlock ∧ some k_ ≠ (.slice Ao69 x11_2.length co69 : Value).ownBlock ∧ some k_ ≠ (v318 : Value).ownBlock)) (by (with_reducible repeat (first | apply Kd.R_alloc | apply Kd.R_drewN | apply Kd.R_drew)); exact Kd.R_mono HO_8.out (fun _ hk => ⟨⟨hk.1, ⟨hk.2.1, hk.2.2.2⟩⟩, hk.2.2.1⟩)) hg (.inl rfl)); have n1_ := Aside0.mk (Kd.R_after (v := (.slice (some ⟨go74, 0, none⟩) x13_3.length co77)) (v1 := (.slice (some ⟨go74, 0, none⟩) x13_3.length co77)) (ok := (fun k_ => some k_ ≠ (.slice Ao45 t285.length co45 : Value).ownBlock ∧ some k_ ≠ (.slice Ao69 x11_2.length co69 : Value).ownBlock ∧ some k_ ≠ (v318 : Value).ownBlock)) (by (with_reducible repeat (first | apply Kd.R_alloc | apply Kd.R_drewN | apply Kd.R_drew)); exact Kd.R_mono HO_10.out (fun _ hk => ⟨⟨hk.1, ⟨hk.2.1, hk.2.2.2⟩⟩, hk.2.2.1⟩)) hg (.inl rfl)); have n2_ := Aside0.mk (Kd.R_after (v := (.slice (some ⟨go74, 0, none⟩) x13_3.length co77)) (v1 := (.slice (some ⟨go74, 0, none⟩) x13_3.length co77)) (ok := (fun k_ => some k_ ≠ (.slice Ao45 t285.length co45 : Value).ownBlock ∧ some k_ ≠ (.slice Ao67 x10_2.length co67 : Value).ownBlock ∧ some k_ ≠ (v318 : Value).ownBlock)) (by (with_reducible repeat (first | apply Kd.R_alloc | apply Kd.R_drewN | apply Kd.R_drew)); exact Kd.R_mono HO_11.out (fun _ hk => ⟨⟨hk.1, ⟨hk.2.1, hk.2.2.2⟩⟩, hk.2.2.1⟩)) hg (.inl rfl)); have n3_ := Aside0.mk (hp_); have n4_ := Aside0.mk (Kd.R_after (v := (.slice (some ⟨go74, 0, none⟩) x13_3.length co77)) (v1 := (.slice (some ⟨go74, 0, none⟩) x13_3.length co77)) (ok := (fun k_ => some k_ ≠ (.slice Ao45 t285.length co45 : Value).ownBlock ∧ some k_ ≠ (.slice Ao67 x10_2.length co67 : Value).ownBlock ∧ some k_ ≠ (.slice Ao69 x11_2.length co69 : Value).ownBlock)) (by (with_reducible repeat (first | apply Kd.R_alloc | apply Kd.R_drewN | apply Kd.R_drew)); exact Kd.R_mono HO_14.out (fun _ hk => ⟨⟨hk.1, ⟨hk.2.1, hk.2.2.1⟩⟩, hk.2.2.2⟩)) hg (.inl rfl)); have n5_ := Aside0.mk ((by rw [hw]; exact below_set (HB.out) GB74.out : Below w.heap.size w w79)); clear HO_8; clear HO_10; clear HO_11; clear HO_13; clear HO_14; clear HB; have HO_8 := n0_; have HO_10 := n1_; have HO_11 := n2_; have HO_13 := n3_; have HO_14 := n4_; have HB := n5_; clear n0_ n1_ n2_ n3_ n4_ n5_; clear hg hw hp_; obtain ⟨Ao80, co80, eo80⟩ := Kd.R_slice HO_14.out; subst eo80; have p322 : 0 ≤ (x15_3 : Int) := of_decide_eq_true (by first | (with_reducible assumption) | assumption); have q322 : x15_3 < (x14_3.length : Int) := of_decide_eq_true (by first | (with_reducible assumption) | assumption); obtain ⟨ad322, e322, hx322_0⟩ := Kd.at_int (Kd.R_reads' HO_14.out).2.2 x15_3 p322 q322; cases e322; replace p322 := eq_true p322; replace q322 := eq_true q322; have p76 : 0 ≤ (x15_3 : Int) := of_decide_eq_true (by first | (with_reducible assumption) | assumption); have q76 : (x15_3 : Int) < ((x14_3.length : Int) : Int) := of_decide_eq_true (by first | (with_reducible assumption) | assumption); obtain ⟨go76, co76, eo76, gb76, gl76, cl76, HG76⟩ := Kd.R_form HO_14.out (by omega); (first | cases eo76 | (injection eo76 with ea_ en_ ec_; (first | subst ea_ | (injection ea_ with ea_; subst ea_)); subst ec_; clear en_)); have GB76 := Aside0.mk gb76; have GG76 := Aside0.mk HG76; clear gb76 gl76 HG76; (first | simp only [add_plain] at hx322_0 | skip); obtain ⟨hx76_0, hf76_0⟩ := Kd.R_celln 0 HO_14.out (x15_3 : Int) p76 q76; replace p76 := eq_true p76; replace q76 := eq_true q76; have n_ := Aside0.mk (Kd.R_mono (ok' := (fun k_ => some k_ ≠ (.slice Ao45 t285.length co45 : Value).ownBlock ∧ some k_ ≠ (.slice Ao67 x10_2.length co67 : Value).ownBlock ∧ some k_ ≠ (.slice Ao69 x11_2.length co69 : Value).ownBlock ∧ some k_ ≠ (.slice (some ⟨go74, 0, none⟩) x13_3.length co77 : Value).ownBlock)) HO_14.out (fun k_ hk => ⟨hk.1.1, ⟨hk.1.2.1, ⟨hk.1.2.2, hk.2⟩⟩⟩)); clear HO_14; have HO_14 := n_; clear n_; obtain ⟨hy81_, hz81_⟩ := Kd.R_celln 0 HO_14.out (x15_3 : Int) (of_decide_eq_true (by first | (with_reducible assumption) | assumption)) (of_decide_eq_true (by first | (with_reducible assumption) | assumption)); have HP81 := Kd.R_putg HO_14.out (x15_3 : Int) (wrap64 ((rd x14_3 x15_3) + ji42))) | ((with_reducible refine gate_store (t := 3) (p := 138) rfl ?_); refine store_event (t := 3) (p := 138) (v := ?vo_w82) (w1 := (w79.setCell ⟨go76, (x15_3 : Int).toNat, none⟩ (.int .i64 (wrap64 ((rd x14_3 x15_3) + ji42))))) ?hg ?ho ?hn ?hr ?_; (case ho => rfl); (case hg => rfl); (case hn => rfl); (case hr => first | (go_simp; done) | (go_simp; rfl)); intro w82 hw; have hg : w79.grownBy w82 (some go76) := (by rw [hw]; exact HP81.2); have hp_ : Kd.R (Kd.int .i64) 3 w82 w.heap.size (fun k_ => some k_ ≠ (.slice Ao45 t285.length co45 : Value).ownBlock ∧ some k_ ≠ (.slice Ao67 x10_2.length co67 : Value).ownBlock ∧ some k_ ≠ (.slice Ao69 x11_2.length co69 : Value).ownBlock ∧ some k_ ≠ (.slice (some ⟨go74, 0, none⟩) x13_3.length co77 : Value).ownBlock) (.slice (some ⟨go76, 0, none⟩) x14_3.length co80) y323 := (by rw [hw, Ny323.out]; exact HP81.1); clear HP81; have n0_ := Aside0.mk (Kd.R_after (v := (.slice (some ⟨go76, 0, none⟩) x14_3.length co80)) (v1 := (.slice (some ⟨go76, 0, none⟩) x14_3.length co80)) (ok := (fun k_ => some k_ ≠ (.slice Ao67 x10_2.length co67 : Value).ownBlock ∧ some k_ ≠ (.slice Ao69 x11_2.length co69 : Value).ownBlock ∧ some k_ ≠ (.slice (some ⟨go74, 0, none⟩) x13_3.length co77 : Value).ownBlock)) (by (with_reducible repeat (first | apply Kd.R_alloc | apply Kd.R_drewN | apply Kd.R_drew)); exact Kd.R_mono HO_8.out (fun _ hk => ⟨⟨hk.1.1, ⟨hk.1.2.1, hk.2⟩⟩, hk.1.2.2⟩)) hg (.inl rfl)); have n1_ := Aside0.mk (Kd.R_after (v := (.slice (some ⟨go76, 0, none⟩) x14_3.length co80)) (v1 := (.slice (some ⟨go76, 0, none⟩) x14_3.length co80)) (ok := (fun k_ => some k_ ≠ (.slice Ao45 t285.length co45 : Value).ownBlock ∧ some k_ ≠ (.slice Ao69 x11_2.length co69 : Value).ownBlock ∧ some k_ ≠ (.slice (some ⟨go74, 0, none⟩) x13_3.length co77 : Value).ownBlock)) (by (with_reducible repeat (first | apply Kd.R_alloc | apply Kd.R_drewN | apply Kd.R_drew)); exact Kd.R_mono HO_10.out (fun _ hk => ⟨⟨hk.1.1, ⟨hk.1.2.1, hk.2⟩⟩, hk.1.2.2⟩)) hg (.inl rfl)); have n2_ := Aside0.mk (Kd.R_after (v := (.slice (some ⟨go76, 0, none⟩) x14_3.length co80)) (v1 := (.slice (some ⟨go76, 0, none⟩) x14_3.length co80)) (ok := (fun k_ => some k_ ≠ (.slice Ao45 t285.length co45 : Value).ownBlock ∧ some k_ ≠ (.slice Ao67 x10_2.length co67 : Value).ownBlock ∧ some k_ ≠ (.slice (some ⟨go74, 0, none⟩) x13_3.length co77 : Value).ownBlock)) (by (with_reducible repeat (first | apply Kd.R_alloc | apply Kd.R_drewN | apply Kd.R_drew)); exact Kd.R_mono HO_11.out (fun _ hk => ⟨⟨hk.1.1, ⟨hk.1.2.1, hk.2⟩⟩, hk.1.2.2⟩)) hg (.inl rfl)); have n3_ := Aside0.mk (Kd.R_after (v := (.slice (some ⟨go76, 0, none⟩) x14_3.length co80)) (v1 := (.slice (some ⟨go76, 0, none⟩) x14_3.length co80)) (ok := (fun k_ => some k_ ≠ (.slice Ao45 t285.length co45 : Value).ownBlock ∧ some k_ ≠ (.slice Ao67 x10_2.length co67 : Value).ownBlock ∧ some k_ ≠ (.slice Ao69 x11_2.length co69 : Value).ownBlock)) (by (with_reducible repeat (first | apply Kd.R_alloc | apply Kd.R_drewN | apply Kd.R_drew)); exact Kd.R_mono HO_13.out (fun _ hk => ⟨⟨hk.1, ⟨hk.2.1, hk.2.2.1⟩⟩, hk.2.2.2⟩)) hg (.inl rfl)); have n4_ := Aside0.mk (hp_); have n5_ := Aside0.mk ((by rw [hw]; exact below_set (HB.out) GB76.out : Below w.heap.size w w82)); clear HO_8; clear HO_10; clear HO_11; clear HO_13; clear HO_14; clear HB; have HO_8 := n0_; have HO_10 := n1_; have HO_11 := n2_; have HO_13 := n3_; have HO_14 := n4_; have HB := n5_; clear n0_ n1_ n2_ n3_ n4_ n5_; clear hg hw hp_))
                            go_roundg k3
                            case measure => have := HJ8.out; have := HK2.out; have := HK3.out; omega
                            case rel => exact ⟨(y321), (y323), (wrap64 (x15_3 + 1)), (by first | rfl | (simp; done) | (simp [*]; done)), H', ⟨by have := HJ8.out; have := HK2.out; have := HK3.out; omega⟩, ⟨by (with_reducible repeat (first | apply Kd.R_alloc | apply Kd.R_drewN | apply Kd.R_drew)); exact Kd.R_mono HO_8.out (fun _ hk => ⟨hk.1.1, ⟨hk.1.2.1, ⟨hk.1.2.2, hk.2⟩⟩⟩)⟩, ⟨by (with_reducible repeat (first | apply Kd.R_alloc | apply Kd.R_drewN | apply Kd.R_drew)); exact Kd.R_mono HO_10.out (fun _ hk => ⟨hk.1.1, ⟨hk.1.2.1, ⟨hk.1.2.2, hk.2⟩⟩⟩)⟩, ⟨by (with_reducible repeat (first | apply Kd.R_alloc | apply Kd.R_drewN | apply Kd.R_drew)); exact Kd.R_mono HO_11.out (fun _ hk => ⟨hk.1.1, ⟨hk.1.2.1, ⟨hk.1.2.2, hk.2⟩⟩⟩)⟩, ⟨by (with_reducible repeat (first | apply Kd.R_alloc | apply Kd.R_drewN | apply Kd.R_drew)); exact Kd.R_mono HO_13.out (fun _ hk => ⟨hk.1.1, ⟨hk.1.2.1, ⟨hk.1.2.2, hk.2⟩⟩⟩)⟩, ⟨by (with_reducible repeat (first | apply Kd.R_alloc | apply Kd.R_drewN | apply Kd.R_drew)); exact HO_14.out⟩, ⟨by repeat (first | (with_reducible first | exact HB.out | apply below_alloc | apply pw_below_drewN | apply below_drew1) | exact HB.out)⟩⟩
                          · rw [if_neg c75] at H
                            exact absurd H (by simp)
                        · rw [if_neg c73] at H
                          exact absurd H (by simp)
                      · rw [if_neg c72] at H
                        exact absurd H (by simp)
                    · rw [if_neg c71] at H
                      have c71b0 : decide (x15_3 < ji6) = false := decide_eq_false c71
                      clear c71
                      replace H := Option.bind_eq_some_iff.mp H
                      obtain ⟨t324, A830, H⟩ := H
                      replace H : ((vector_L2.f k3 x13_3 x14_3).bind fun t325 => (if t324 = t325 then ((vector_Dot.f k3 t285 t285).bind fun t326 => (if t326 = 0 then ((lodestarlaw06_sure.f k3).bind fun t327 => (some t327)) else ((vector_Cos.f k3 t285 t285).bind fun t328 => (if t328 ≥ 1048576 then ((lodestarlaw06_sure.f k3).bind fun t329 => (some t329)) else (some false))))) else (some false))) = some r := H
                      have A83 := Aside0.mk A830
                      clear A830
                      replace H := Option.bind_eq_some_iff.mp H
                      obtain ⟨t325, A840, H⟩ := H
                      replace H : (if t324 = t325 then ((vector_Dot.f k3 t285 t285).bind fun t326 => (if t326 = 0 then ((lodestarlaw06_sure.f k3).bind fun t327 => (some t327)) else ((vector_Cos.f k3 t285 t285).bind fun t328 => (if t328 ≥ 1048576 then ((lodestarlaw06_sure.f k3).bind fun t329 => (some t329)) else (some false))))) else (some false)) = some r := H
                      have A84 := Aside0.mk A840
                      clear A840
                      by_cases c85 : t324 = t325
                      · rw [if_pos c85] at H
                        have c85b0 : (t324 == t325) = true := beq_iff_eq.mpr c85
                        have c85b1 : (t324 != t325) = false := bne_eq_false_iff_eq.mpr c85
                        clear c85
                        replace H := Option.bind_eq_some_iff.mp H
                        obtain ⟨t326, A860, H⟩ := H
                        replace H : (if t326 = 0 then ((lodestarlaw06_sure.f k3).bind fun t327 => (some t327)) else ((vector_Cos.f k3 t285 t285).bind fun t328 => (if t328 ≥ 1048576 then ((lodestarlaw06_sure.f k3).bind fun t329 => (some t329)) else (some false)))) = some r := H
                        have A86 := Aside0.mk A860
                        clear A860
                        by_cases c87 : t326 = 0
                        · rw [if_pos c87] at H
                          have c87b0 : (t326 == 0) = true := beq_iff_eq.mpr c87
                          have c87b1 : (t326 != 0) = false := bne_eq_false_iff_eq.mpr c87
                          clear c87
                          replace H := Option.bind_eq_some_iff.mp H
                          obtain ⟨t327, A880, H⟩ := H
                          replace H : (some t327) = some r := H
                          have A88 := Aside0.mk A880
                          clear A880
                          obtain rfl := Option.some.inj H
                          go_wp2_with (first | ((with_reducible refine gate_callee (f := 37) rfl ?_); refine goesL_ (some 141) rfl rfl Try.func37 (by kernel_rfl) rfl #[.slice Ao67 x10_2.length co67, .slice Ao69 x11_2.length co69] rfl (by (try simp only [List.map_toArray, List.map_cons, List.map_nil]); first | done | rfl | (simp only [List.length_drop, List.length_take]; rfl)) ?_; (with_reducible refine (vector_L2.calls k3 _ _ x10_2 _ _ x11_2 t324 _ ?side1 ?side2 ?side3 ?side4 A83.out).mono ?_); (case side1 => repeat (first | exact (Kd.R_reads' HO_10.out).2.2 | (with_reducible refine Kd.C_alloc ?_ _) | (with_reducible refine Kd.C_drewN ?_ _) | (with_reducible refine Kd.C_drew ?_))); (case side2 => exact (Kd.R_reads' HO_10.out).2.1); (case side3 => repeat (first | exact (Kd.R_reads' HO_11.out).2.2 | (with_reducible refine Kd.C_alloc ?_ _) | (with_reducible refine Kd.C_drewN ?_ _) | (with_reducible refine Kd.C_drew ?_))); (case side4 => exact (Kd.R_reads' HO_11.out).2.1); rintro e w' ⟨rfl, ⟨nd, rfl⟩⟩; refine ⟨_, rfl, ?_⟩; obtain ⟨Ao89, co89, eo89⟩ := Kd.R_slice HO_13.out; subst eo89; obtain ⟨Ao90, co90, eo90⟩ := Kd.R_slice HO_14.out; subst eo90) | ((with_reducible refine gate_callee (f := 37) rfl ?_); refine goesL_ (some 144) rfl rfl Try.func37 (by kernel_rfl) rfl #[.slice Ao89 x13_3.length co89, .slice Ao90 x14_3.length co90] rfl (by (try simp only [List.map_toArray, List.map_cons, List.map_nil]); first | done | rfl | (simp only [List.length_drop, List.length_take]; rfl)) ?_; (with_reducible refine (vector_L2.calls k3 _ _ x13_3 _ _ x14_3 t325 _ ?side1 ?side2 ?side3 ?side4 A84.out).mono ?_); (case side1 => repeat (first | exact (Kd.R_reads' HO_13.out).2.2 | (with_reducible refine Kd.C_alloc ?_ _) | (with_reducible refine Kd.C_drewN ?_ _) | (with_reducible refine Kd.C_drew ?_))); (case side2 => exact (Kd.R_reads' HO_13.out).2.1); (case side3 => repeat (first | exact (Kd.R_reads' HO_14.out).2.2 | (with_reducible refine Kd.C_alloc ?_ _) | (with_reducible refine Kd.C_drewN ?_ _) | (with_reducible refine Kd.C_drew ?_))); (case side4 => exact (Kd.R_reads' HO_14.out).2.1); rintro e w' ⟨rfl, ⟨nd, rfl⟩⟩; refine ⟨_, rfl, ?_⟩) | (go_at_call 39; (with_reducible refine (vector_Dot.calls k3 _ _ t285 _ _ t285 t326 _ ?side1 ?side2 ?side3 ?side4 A86.out).mono ?_); (case side1 => repeat (first | exact (Kd.R_reads' HO_8.out).2.2 | (with_reducible refine Kd.C_alloc ?_ _) | (with_reducible refine Kd.C_drewN ?_ _) | (with_reducible refine Kd.C_drew ?_))); (case side2 => exact (Kd.R_reads' HO_8.out).2.1); (case side3 => repeat (first | exact (Kd.R_reads' HO_8.out).2.2 | (with_reducible refine Kd.C_alloc ?_ _) | (with_reducible refine Kd.C_drewN ?_ _) | (with_reducible refine Kd.C_drew ?_))); (case side4 => exact (Kd.R_reads' HO_8.out).2.1); rintro e w' ⟨rfl, ⟨nd, rfl⟩⟩) | (go_at_call 34; (with_reducible refine (lodestarlaw06_sure.calls k3  t327 _ A88.out).mono ?_); rintro e w91 ⟨rfl, hb⟩; have n0_ := Aside0.mk (Kd.R_below (by (with_reducible repeat (first | apply Kd.R_alloc | apply Kd.R_drewN | apply Kd.R_drew)); exact HO_8.out) hb); have n1_ := Aside0.mk (Kd.R_below (by (with_reducible repeat (first | apply Kd.R_alloc | apply Kd.R_drewN | apply Kd.R_drew)); exact HO_10.out) hb); have n2_ := Aside0.mk (Kd.R_below (by (with_reducible repeat (first | apply Kd.R_alloc | apply Kd.R_drewN | apply Kd.R_drew)); exact HO_11.out) hb); have n3_ := Aside0.mk (Kd.R_below (by (with_reducible repeat (first | apply Kd.R_alloc | apply Kd.R_drewN | apply Kd.R_drew)); exact HO_13.out) hb); have n4_ := Aside0.mk (Kd.R_below (by (with_reducible repeat (first | apply Kd.R_alloc | apply Kd.R_drewN | apply Kd.R_drew)); exact HO_14.out) hb); have n5_ := Aside0.mk (below_step (by repeat (first | (with_reducible first | exact HB.out | apply below_alloc | apply pw_below_drewN | apply below_drew1) | exact HB.out)) hb); clear HO_8; clear HO_10; clear HO_11; clear HO_13; clear HO_14; clear HB; have HO_8 := n0_; have HO_10 := n1_; have HO_11 := n2_; have HO_13 := n3_; have HO_14 := n4_; have HB := n5_; clear n0_ n1_ n2_ n3_ n4_ n5_; (try clear hb); (try clear hb2); (try clear hk); (try clear hi)))
                          go_ret
                          exact ⟨by first | rfl | (simp [errW_none, errW_some] <;> rfl) | (simp only [← hji4, ← hji5, ← hji6, ← hji41, ← hji42]; first | rfl | (simp [errW_none, errW_some] <;> rfl)) | (simp [*, errW_none, errW_some] <;> rfl), by repeat (first | (with_reducible first | exact HB.out | apply below_alloc | apply pw_below_drewN | apply below_drew1) | exact HB.out)⟩
                        · rw [if_neg c87] at H
                          have c87b0 : (t326 == 0) = false := beq_eq_false_iff_ne.mpr c87
                          have c87b1 : (t326 != 0) = true := bne_iff_ne.mpr c87
                          replace H := Option.bind_eq_some_iff.mp H
                          obtain ⟨t328, A920, H⟩ := H
                          replace H : (if t328 ≥ 1048576 then ((lodestarlaw06_sure.f k3).bind fun t329 => (some t329)) else (some false)) = some r := H
                          have A92 := Aside0.mk A920
                          clear A920
                          by_cases c93 : t328 ≥ 1048576
                          · rw [if_pos c93] at H
                            have c93b0 : decide (1048576 ≤ t328) = true := decide_eq_true c93
                            clear c93
                            replace H := Option.bind_eq_some_iff.mp H
                            obtain ⟨t329, A940, H⟩ := H
                            replace H : (some t329) = some r := H
                            have A94 := Aside0.mk A940
                            clear A940
                            obtain rfl := Option.some.inj H
                            go_wp2_with (first | ((with_reducible refine gate_callee (f := 37) rfl ?_); refine goesL_ (some 141) rfl rfl Try.func37 (by kernel_rfl) rfl #[.slice Ao67 x10_2.length co67, .slice Ao69 x11_2.length co69] rfl (by (try simp only [List.map_toArray, List.map_cons, List.map_nil]); first | done | rfl | (simp only [List.length_drop, List.length_take]; rfl)) ?_; (with_reducible refine (vector_L2.calls k3 _ _ x10_2 _ _ x11_2 t324 _ ?side1 ?side2 ?side3 ?side4 A83.out).mono ?_); (case side1 => repeat (first | exact (Kd.R_reads' HO_10.out).2.2 | (with_reducible refine Kd.C_alloc ?_ _) | (with_reducible refine Kd.C_drewN ?_ _) | (with_reducible refine Kd.C_drew ?_))); (case side2 => exact (Kd.R_reads' HO_10.out).2.1); (case side3 => repeat (first | exact (Kd.R_reads' HO_11.out).2.2 | (with_reducible refine Kd.C_alloc ?_ _) | (with_reducible refine Kd.C_drewN ?_ _) | (with_reducible refine Kd.C_drew ?_))); (case side4 => exact (Kd.R_reads' HO_11.out).2.1); rintro e w' ⟨rfl, ⟨nd, rfl⟩⟩; refine ⟨_, rfl, ?_⟩; obtain ⟨Ao95, co95, eo95⟩ := Kd.R_slice HO_13.out; subst eo95; obtain ⟨Ao96, co96, eo96⟩ := Kd.R_slice HO_14.out; subst eo96) | ((with_reducible refine gate_callee (f := 37) rfl ?_); refine goesL_ (some 144) rfl rfl Try.func37 (by kernel_rfl) rfl #[.slice Ao95 x13_3.length co95, .slice Ao96 x14_3.length co96] rfl (by (try simp only [List.map_toArray, List.map_cons, List.map_nil]); first | done | rfl | (simp only [List.length_drop, List.length_take]; rfl)) ?_; (with_reducible refine (vector_L2.calls k3 _ _ x13_3 _ _ x14_3 t325 _ ?side1 ?side2 ?side3 ?side4 A84.out).mono ?_); (case side1 => repeat (first | exact (Kd.R_reads' HO_13.out).2.2 | (with_reducible refine Kd.C_alloc ?_ _) | (with_reducible refine Kd.C_drewN ?_ _) | (with_reducible refine Kd.C_drew ?_))); (case side2 => exact (Kd.R_reads' HO_13.out).2.1); (case side3 => repeat (first | exact (Kd.R_reads' HO_14.out).2.2 | (with_reducible refine Kd.C_alloc ?_ _) | (with_reducible refine Kd.C_drewN ?_ _) | (with_reducible refine Kd.C_drew ?_))); (case side4 => exact (Kd.R_reads' HO_14.out).2.1); rintro e w' ⟨rfl, ⟨nd, rfl⟩⟩; refine ⟨_, rfl, ?_⟩) | (go_at_call 39; (with_reducible refine (vector_Dot.calls k3 _ _ t285 _ _ t285 t326 _ ?side1 ?side2 ?side3 ?side4 A86.out).mono ?_); (case side1 => repeat (first | exact (Kd.R_reads' HO_8.out).2.2 | (with_reducible refine Kd.C_alloc ?_ _) | (with_reducible refine Kd.C_drewN ?_ _) | (with_reducible refine Kd.C_drew ?_))); (case side2 => exact (Kd.R_reads' HO_8.out).2.1); (case side3 => repeat (first | exact (Kd.R_reads' HO_8.out).2.2 | (with_reducible refine Kd.C_alloc ?_ _) | (with_reducible refine Kd.C_drewN ?_ _) | (with_reducible refine Kd.C_drew ?_))); (case side4 => exact (Kd.R_reads' HO_8.out).2.1); rintro e w' ⟨rfl, ⟨nd, rfl⟩⟩) | (go_at_call 41; (with_reducible refine (vector_Cos.calls k3 _ _ t285 _ _ t285 t328 _ ?side1 ?side2 ?side3 ?side4 A92.out).mono ?_); (case side1 => repeat (first | exact (Kd.R_reads' HO_8.out).2.2 | (with_reducible refine Kd.C_alloc ?_ _) | (with_reducible refine Kd.C_drewN ?_ _) | (with_reducible refine Kd.C_drew ?_))); (case side2 => exact (Kd.R_reads' HO_8.out).2.1); (case side3 => repeat (first | exact (Kd.R_reads' HO_8.out).2.2 | (with_reducible refine Kd.C_alloc ?_ _) | (with_reducible refine Kd.C_drewN ?_ _) | (with_reducible refine Kd.C_drew ?_))); (case side4 => exact (Kd.R_reads' HO_8.out).2.1); rintro e w' ⟨rfl, ⟨nd, rfl⟩⟩) | (go_at_call 34; (with_reducible refine (lodestarlaw06_sure.calls k3  t329 _ A94.out).mono ?_); rintro e w97 ⟨rfl, hb⟩; have n0_ := Aside0.mk (Kd.R_below (by (with_reducible repeat (first | apply Kd.R_alloc | apply Kd.R_drewN | apply Kd.R_drew)); exact HO_8.out) hb); have n1_ := Aside0.mk (Kd.R_below (by (with_reducible repeat (first | apply Kd.R_alloc | apply Kd.R_drewN | apply Kd.R_drew)); exact HO_10.out) hb); have n2_ := Aside0.mk (Kd.R_below (by (with_reducible repeat (first | apply Kd.R_alloc | apply Kd.R_drewN | apply Kd.R_drew)); exact HO_11.out) hb); have n3_ := Aside0.mk (Kd.R_below (by (with_reducible repeat (first | apply Kd.R_alloc | apply Kd.R_drewN | apply Kd.R_drew)); exact HO_13.out) hb); have n4_ := Aside0.mk (Kd.R_below (by (with_reducible repeat (first | apply Kd.R_alloc | apply Kd.R_drewN | apply Kd.R_drew)); exact HO_14.out) hb); have n5_ := Aside0.mk (below_step (by repeat (first | (with_reducible first | exact HB.out | apply below_alloc | apply pw_below_drewN | apply below_drew1) | exact HB.out)) hb); clear HO_8; clear HO_10; clear HO_11; clear HO_13; clear HO_14; clear HB; have HO_8 := n0_; have HO_10 := n1_; have HO_11 := n2_; have HO_13 := n3_; have HO_14 := n4_; have HB := n5_; clear n0_ n1_ n2_ n3_ n4_ n5_; (try clear hb); (try clear hb2); (try clear hk); (try clear hi)))
                            go_ret
                            exact ⟨by first | rfl | (simp [errW_none, errW_some] <;> rfl) | (simp only [← hji4, ← hji5, ← hji6, ← hji41, ← hji42]; first | rfl | (simp [errW_none, errW_some] <;> rfl)) | (simp [*, errW_none, errW_some] <;> rfl), by repeat (first | (with_reducible first | exact HB.out | apply below_alloc | apply pw_below_drewN | apply below_drew1) | exact HB.out)⟩
                          · rw [if_neg c93] at H
                            have c93b0 : decide (1048576 ≤ t328) = false := decide_eq_false c93
                            clear c93
                            obtain rfl := Option.some.inj H
                            go_wp2_with (first | ((with_reducible refine gate_callee (f := 37) rfl ?_); refine goesL_ (some 141) rfl rfl Try.func37 (by kernel_rfl) rfl #[.slice Ao67 x10_2.length co67, .slice Ao69 x11_2.length co69] rfl (by (try simp only [List.map_toArray, List.map_cons, List.map_nil]); first | done | rfl | (simp only [List.length_drop, List.length_take]; rfl)) ?_; (with_reducible refine (vector_L2.calls k3 _ _ x10_2 _ _ x11_2 t324 _ ?side1 ?side2 ?side3 ?side4 A83.out).mono ?_); (case side1 => repeat (first | exact (Kd.R_reads' HO_10.out).2.2 | (with_reducible refine Kd.C_alloc ?_ _) | (with_reducible refine Kd.C_drewN ?_ _) | (with_reducible refine Kd.C_drew ?_))); (case side2 => exact (Kd.R_reads' HO_10.out).2.1); (case side3 => repeat (first | exact (Kd.R_reads' HO_11.out).2.2 | (with_reducible refine Kd.C_alloc ?_ _) | (with_reducible refine Kd.C_drewN ?_ _) | (with_reducible refine Kd.C_drew ?_))); (case side4 => exact (Kd.R_reads' HO_11.out).2.1); rintro e w' ⟨rfl, ⟨nd, rfl⟩⟩; refine ⟨_, rfl, ?_⟩; obtain ⟨Ao98, co98, eo98⟩ := Kd.R_slice HO_13.out; subst eo98; obtain ⟨Ao99, co99, eo99⟩ := Kd.R_slice HO_14.out; subst eo99) | ((with_reducible refine gate_callee (f := 37) rfl ?_); refine goesL_ (some 144) rfl rfl Try.func37 (by kernel_rfl) rfl #[.slice Ao98 x13_3.length co98, .slice Ao99 x14_3.length co99] rfl (by (try simp only [List.map_toArray, List.map_cons, List.map_nil]); first | done | rfl | (simp only [List.length_drop, List.length_take]; rfl)) ?_; (with_reducible refine (vector_L2.calls k3 _ _ x13_3 _ _ x14_3 t325 _ ?side1 ?side2 ?side3 ?side4 A84.out).mono ?_); (case side1 => repeat (first | exact (Kd.R_reads' HO_13.out).2.2 | (with_reducible refine Kd.C_alloc ?_ _) | (with_reducible refine Kd.C_drewN ?_ _) | (with_reducible refine Kd.C_drew ?_))); (case side2 => exact (Kd.R_reads' HO_13.out).2.1); (case side3 => repeat (first | exact (Kd.R_reads' HO_14.out).2.2 | (with_reducible refine Kd.C_alloc ?_ _) | (with_reducible refine Kd.C_drewN ?_ _) | (with_reducible refine Kd.C_drew ?_))); (case side4 => exact (Kd.R_reads' HO_14.out).2.1); rintro e w' ⟨rfl, ⟨nd, rfl⟩⟩; refine ⟨_, rfl, ?_⟩) | (go_at_call 39; (with_reducible refine (vector_Dot.calls k3 _ _ t285 _ _ t285 t326 _ ?side1 ?side2 ?side3 ?side4 A86.out).mono ?_); (case side1 => repeat (first | exact (Kd.R_reads' HO_8.out).2.2 | (with_reducible refine Kd.C_alloc ?_ _) | (with_reducible refine Kd.C_drewN ?_ _) | (with_reducible refine Kd.C_drew ?_))); (case side2 => exact (Kd.R_reads' HO_8.out).2.1); (case side3 => repeat (first | exact (Kd.R_reads' HO_8.out).2.2 | (with_reducible refine Kd.C_alloc ?_ _) | (with_reducible refine Kd.C_drewN ?_ _) | (with_reducible refine Kd.C_drew ?_))); (case side4 => exact (Kd.R_reads' HO_8.out).2.1); rintro e w' ⟨rfl, ⟨nd, rfl⟩⟩) | (go_at_call 41; (with_reducible refine (vector_Cos.calls k3 _ _ t285 _ _ t285 t328 _ ?side1 ?side2 ?side3 ?side4 A92.out).mono ?_); (case side1 => repeat (first | exact (Kd.R_reads' HO_8.out).2.2 | (with_reducible refine Kd.C_alloc ?_ _) | (with_reducible refine Kd.C_drewN ?_ _) | (with_reducible refine Kd.C_drew ?_))); (case side2 => exact (Kd.R_reads' HO_8.out).2.1); (case side3 => repeat (first | exact (Kd.R_reads' HO_8.out).2.2 | (with_reducible refine Kd.C_alloc ?_ _) | (with_reducible refine Kd.C_drewN ?_ _) | (with_reducible refine Kd.C_drew ?_))); (case side4 => exact (Kd.R_reads' HO_8.out).2.1); rintro e w' ⟨rfl, ⟨nd, rfl⟩⟩))
                            go_ret
                            exact ⟨by first | rfl | (simp [errW_none, errW_some] <;> rfl) | (simp only [← hji4, ← hji5, ← hji6, ← hji41, ← hji42]; first | rfl | (simp [errW_none, errW_some] <;> rfl)) | (simp [*, errW_none, errW_some] <;> rfl), by repeat (first | (with_reducible first | exact HB.out | apply below_alloc | apply pw_below_drewN | apply below_drew1) | exact HB.out)⟩
                      · rw [if_neg c85] at H
                        have c85b0 : (t324 == t325) = false := beq_eq_false_iff_ne.mpr c85
                        have c85b1 : (t324 != t325) = true := bne_iff_ne.mpr c85
                        obtain rfl := Option.some.inj H
                        go_wp2_with (first | ((with_reducible refine gate_callee (f := 37) rfl ?_); refine goesL_ (some 141) rfl rfl Try.func37 (by kernel_rfl) rfl #[.slice Ao67 x10_2.length co67, .slice Ao69 x11_2.length co69] rfl (by (try simp only [List.map_toArray, List.map_cons, List.map_nil]); first | done | rfl | (simp only [List.length_drop, List.length_take]; rfl)) ?_; (with_reducible refine (vector_L2.calls k3 _ _ x10_2 _ _ x11_2 t324 _ ?side1 ?side2 ?side3 ?side4 A83.out).mono ?_); (case side1 => repeat (first | exact (Kd.R_reads' HO_10.out).2.2 | (with_reducible refine Kd.C_alloc ?_ _) | (with_reducible refine Kd.C_drewN ?_ _) | (with_reducible refine Kd.C_drew ?_))); (case side2 => exact (Kd.R_reads' HO_10.out).2.1); (case side3 => repeat (first | exact (Kd.R_reads' HO_11.out).2.2 | (with_reducible refine Kd.C_alloc ?_ _) | (with_reducible refine Kd.C_drewN ?_ _) | (with_reducible refine Kd.C_drew ?_))); (case side4 => exact (Kd.R_reads' HO_11.out).2.1); rintro e w' ⟨rfl, ⟨nd, rfl⟩⟩; refine ⟨_, rfl, ?_⟩; obtain ⟨Ao100, co100, eo100⟩ := Kd.R_slice HO_13.out; subst eo100; obtain ⟨Ao101, co101, eo101⟩ := Kd.R_slice HO_14.out; subst eo101) | ((with_reducible refine gate_callee (f := 37) rfl ?_); refine goesL_ (some 144) rfl rfl Try.func37 (by kernel_rfl) rfl #[.slice Ao100 x13_3.length co100, .slice Ao101 x14_3.length co101] rfl (by (try simp only [List.map_toArray, List.map_cons, List.map_nil]); first | done | rfl | (simp only [List.length_drop, List.length_take]; rfl)) ?_; (with_reducible refine (vector_L2.calls k3 _ _ x13_3 _ _ x14_3 t325 _ ?side1 ?side2 ?side3 ?side4 A84.out).mono ?_); (case side1 => repeat (first | exact (Kd.R_reads' HO_13.out).2.2 | (with_reducible refine Kd.C_alloc ?_ _) | (with_reducible refine Kd.C_drewN ?_ _) | (with_reducible refine Kd.C_drew ?_))); (case side2 => exact (Kd.R_reads' HO_13.out).2.1); (case side3 => repeat (first | exact (Kd.R_reads' HO_14.out).2.2 | (with_reducible refine Kd.C_alloc ?_ _) | (with_reducible refine Kd.C_drewN ?_ _) | (with_reducible refine Kd.C_drew ?_))); (case side4 => exact (Kd.R_reads' HO_14.out).2.1); rintro e w' ⟨rfl, ⟨nd, rfl⟩⟩; refine ⟨_, rfl, ?_⟩))
                        go_ret
                        exact ⟨by first | rfl | (simp [errW_none, errW_some] <;> rfl) | (simp only [← hji4, ← hji5, ← hji6, ← hji41, ← hji42]; first | rfl | (simp [errW_none, errW_some] <;> rfl)) | (simp [*, errW_none, errW_some] <;> rfl), by repeat (first | (with_reducible first | exact HB.out | apply below_alloc | apply pw_below_drewN | apply below_drew1) | exact HB.out)⟩
        · rw [if_neg c40] at H
          have c40b0 : ((wrap64 (t300 + t301)) == (wrap64 (t302 + (wrap64 (2 * t303))))) = false := beq_eq_false_iff_ne.mpr c40
          have c40b1 : ((wrap64 (t300 + t301)) != (wrap64 (t302 + (wrap64 (2 * t303))))) = true := bne_iff_ne.mpr c40
          obtain rfl := Option.some.inj H
          obtain ⟨Ao102, co102, eo102⟩ := Kd.R_slice HO_8.out
          subst eo102
          go_wp2_with (first | ((with_reducible refine gate_callee (f := 39) rfl ?_); refine goesL_ (some 72) rfl rfl Try.func39 (by kernel_rfl) rfl #[.slice Ao102 t285.length co102, .slice Ao102 t285.length co102] rfl (by (try simp only [List.map_toArray, List.map_cons, List.map_nil]); first | done | rfl | (simp only [List.length_drop, List.length_take]; rfl)) ?_; (with_reducible refine (vector_Dot.calls kj8 _ _ t285 _ _ t285 t300 _ ?side1 ?side2 ?side3 ?side4 A36.out).mono ?_); (case side1 => repeat (first | exact (Kd.R_reads' HO_8.out).2.2 | (with_reducible refine Kd.C_alloc ?_ _) | (with_reducible refine Kd.C_drewN ?_ _) | (with_reducible refine Kd.C_drew ?_))); (case side2 => exact (Kd.R_reads' HO_8.out).2.1); (case side3 => repeat (first | exact (Kd.R_reads' HO_8.out).2.2 | (with_reducible refine Kd.C_alloc ?_ _) | (with_reducible refine Kd.C_drewN ?_ _) | (with_reducible refine Kd.C_drew ?_))); (case side4 => exact (Kd.R_reads' HO_8.out).2.1); rintro e w' ⟨rfl, ⟨nd, rfl⟩⟩; refine ⟨_, rfl, ?_⟩; obtain ⟨Ao103, co103, eo103⟩ := Kd.R_slice HO_9.out; subst eo103) | ((with_reducible refine gate_callee (f := 39) rfl ?_); refine goesL_ (some 75) rfl rfl Try.func39 (by kernel_rfl) rfl #[.slice Ao103 t288.length co103, .slice Ao103 t288.length co103] rfl (by (try simp only [List.map_toArray, List.map_cons, List.map_nil]); first | done | rfl | (simp only [List.length_drop, List.length_take]; rfl)) ?_; (with_reducible refine (vector_Dot.calls kj8 _ _ t288 _ _ t288 t301 _ ?side1 ?side2 ?side3 ?side4 A37.out).mono ?_); (case side1 => repeat (first | exact (Kd.R_reads' HO_9.out).2.2 | (with_reducible refine Kd.C_alloc ?_ _) | (with_reducible refine Kd.C_drewN ?_ _) | (with_reducible refine Kd.C_drew ?_))); (case side2 => exact (Kd.R_reads' HO_9.out).2.1); (case side3 => repeat (first | exact (Kd.R_reads' HO_9.out).2.2 | (with_reducible refine Kd.C_alloc ?_ _) | (with_reducible refine Kd.C_drewN ?_ _) | (with_reducible refine Kd.C_drew ?_))); (case side4 => exact (Kd.R_reads' HO_9.out).2.1); rintro e w' ⟨rfl, ⟨nd, rfl⟩⟩; refine ⟨_, rfl, ?_⟩) | ((with_reducible refine gate_callee (f := 37) rfl ?_); refine goesL_ (some 79) rfl rfl Try.func37 (by kernel_rfl) rfl #[.slice Ao102 t285.length co102, .slice Ao103 t288.length co103] rfl (by (try simp only [List.map_toArray, List.map_cons, List.map_nil]); first | done | rfl | (simp only [List.length_drop, List.length_take]; rfl)) ?_; (with_reducible refine (vector_L2.calls kj8 _ _ t285 _ _ t288 t302 _ ?side1 ?side2 ?side3 ?side4 A38.out).mono ?_); (case side1 => repeat (first | exact (Kd.R_reads' HO_8.out).2.2 | (with_reducible refine Kd.C_alloc ?_ _) | (with_reducible refine Kd.C_drewN ?_ _) | (with_reducible refine Kd.C_drew ?_))); (case side2 => exact (Kd.R_reads' HO_8.out).2.1); (case side3 => repeat (first | exact (Kd.R_reads' HO_9.out).2.2 | (with_reducible refine Kd.C_alloc ?_ _) | (with_reducible refine Kd.C_drewN ?_ _) | (with_reducible refine Kd.C_drew ?_))); (case side4 => exact (Kd.R_reads' HO_9.out).2.1); rintro e w' ⟨rfl, ⟨nd, rfl⟩⟩; refine ⟨_, rfl, ?_⟩) | ((with_reducible refine gate_callee (f := 39) rfl ?_); refine goesL_ (some 82) rfl rfl Try.func39 (by kernel_rfl) rfl #[.slice Ao102 t285.length co102, .slice Ao103 t288.length co103] rfl (by (try simp only [List.map_toArray, List.map_cons, List.map_nil]); first | done | rfl | (simp only [List.length_drop, List.length_take]; rfl)) ?_; (with_reducible refine (vector_Dot.calls kj8 _ _ t285 _ _ t288 t303 _ ?side1 ?side2 ?side3 ?side4 A39.out).mono ?_); (case side1 => repeat (first | exact (Kd.R_reads' HO_8.out).2.2 | (with_reducible refine Kd.C_alloc ?_ _) | (with_reducible refine Kd.C_drewN ?_ _) | (with_reducible refine Kd.C_drew ?_))); (case side2 => exact (Kd.R_reads' HO_8.out).2.1); (case side3 => repeat (first | exact (Kd.R_reads' HO_9.out).2.2 | (with_reducible refine Kd.C_alloc ?_ _) | (with_reducible refine Kd.C_drewN ?_ _) | (with_reducible refine Kd.C_drew ?_))); (case side4 => exact (Kd.R_reads' HO_9.out).2.1); rintro e w' ⟨rfl, ⟨nd, rfl⟩⟩; refine ⟨_, rfl, ?_⟩))
          go_ret
          exact ⟨by first | rfl | (simp [errW_none, errW_some] <;> rfl) | (simp only [← hji4, ← hji5, ← hji6]; first | rfl | (simp [errW_none, errW_some] <;> rfl)) | (simp [*, errW_none, errW_some] <;> rfl), by repeat (first | (with_reducible first | exact HB.out | apply below_alloc | apply pw_below_drewN | apply below_drew1) | exact HB.out)⟩

/-- THE ONE PURE STATEMENT of lodestarlaw06_VectorRules: yours. -/
def lodestarlaw06_VectorRules.Pure : Prop := ∀ (l0 : List Int) (l1 : List Int) (a2 : Int), l0.length ≤ maxLen → l0.length * 8 ≤ 140737488351232 → (∀ x ∈ l0, (Lit.int .i64 x).wf = true) → l1.length ≤ maxLen → l1.length * 8 ≤ 140737488351232 → (∀ x ∈ l1, (Lit.int .i64 x).wf = true) → (Lit.int .i64 a2).wf = true → ∃ k, lodestarlaw06_VectorRules.f k l0 l1 a2 = some true
theorem lodestarlaw06_VectorRules.walk (P : lodestarlaw06_VectorRules.Pure) (a0 : Option Addr) (len0 cap0 : Nat) (z0 : List Int) (a1 : Option Addr) (len1 cap1 : Nat) (z1 : List Int) (a2 : Int) (w : World) (w0 : (a0 = none ∧ len0 = 0 ∧ cap0 = 0 ∧ z0 = []) ∨ ∃ x, a0 = some x ∧ len0 ≤ cap0 ∧ cap0 ≤ maxLen ∧ z0.length = cap0 ∧ (∀ i, i < z0.length → w.cell? (x.add i) = some (.int .i64 (z0.getD i 0))) ∧ ∀ n ∈ z0, (Lit.int .i64 n).wf = true) (y0 : len0 * 8 ≤ 140737488351232) (w1 : (a1 = none ∧ len1 = 0 ∧ cap1 = 0 ∧ z1 = []) ∨ ∃ x, a1 = some x ∧ len1 ≤ cap1 ∧ cap1 ≤ maxLen ∧ z1.length = cap1 ∧ (∀ i, i < z1.length → w.cell? (x.add i) = some (.int .i64 (z1.getD i 0))) ∧ ∀ n ∈ z1, (Lit.int .i64 n).wf = true) (y1 : len1 * 8 ≤ 140737488351232) (w2 : (Lit.int .i64 a2).wf = true) :
    Calls Try.prog 11 #[.slice a0 len0 cap0, .slice a1 len1 cap1, .int .i64 a2] w fun e w' => e = .returned (.bool true) ∧ Below w.heap.size w w' := by
  obtain ⟨l0, rfl, hr0, hm0, hw0, hc0⟩ := ReadsInt.ofRowC w0
  obtain ⟨l1, rfl, hr1, hm1, hw1, hc1⟩ := ReadsInt.ofRowC w1
  obtain ⟨k, h⟩ := P l0 l1 a2 hm0 y0 hw0 hm1 y1 hw1 w2
  refine (lodestarlaw06_VectorRules.calls k _ _ l0 _ _ l1 a2 true w (Kd.C_of_reads (d := (0 : Int)) (h1 := fun _ => rfl) hr0) hc0 (Kd.C_of_reads (d := (0 : Int)) (h1 := fun _ => rfl) hr1) hc1 h).mono ?_
  rintro e w' ⟨rfl, hd⟩
  exact ⟨rfl, hd⟩

end Go.Proofs.Ytbckkllhobcgjaa.P
