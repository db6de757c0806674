/- lodestarlaw01.NumUnlike: two unlike seeds never draw the same number, nor go on to the same seed. For every two uint64. -/
import Derived.Test.YtbckkllhobcgjaaQDraw
import Derived.Test.YtbckkllhobcgjaaQAwake
import Derived.Test.YtbckkllhobcgjaaPx1
namespace Go.Proofs.Ytbckkllhobcgjaa.Pure
open Go.RowKit Go.Proofs.Ytbckkllhobcgjaa.P Go.Proofs.YtbckkllhobcgjaaW.PrintWords Go.Proofs.YtbckkllhobcgjaaW.PrintLast
open Go.Proofs.Ytbckkllhobcgjaa.Q
theorem unlike_of (a b x y s t : Int) (d1 : num_Draw.f a = some (x, s)) (d2 : num_Draw.f b = some (y, t)) (hd : x = y ↔ a = b) (hn : s = t ↔ a = b) : lodestarlaw01_NumUnlike.f 64 a b = some true := by
  unfold lodestarlaw01_NumUnlike.f
  rw [d1, d2, awake_some]
  simp only [Option.bind_some]
  have e1 : ((x == y) == (a == b)) = true := by
    rw [beq_iff_eq, Bool.eq_iff_iff, beq_iff_eq, beq_iff_eq]; exact hd
  have e2 : ((s == t) == (a == b)) = true := by
    rw [beq_iff_eq, Bool.eq_iff_iff, beq_iff_eq, beq_iff_eq]; exact hn
  rw [if_pos e1, if_pos e2]
theorem NumUnlike : lodestarlaw01_NumUnlike.Pure := by
  intro a b wa wb
  have ba := u64_bounds wa
  have bb := u64_bounds wb
  have hn : seedNext a = seedNext b ↔ a = b := ⟨seedNext_inj a b ba bb, fun h => by rw [h]⟩
  have hd : seedDraw a = seedDraw b ↔ a = b := ⟨seedDraw_inj a b ba bb, fun h => by rw [h]⟩
  exact ⟨64, unlike_of a b _ _ _ _ (num_Draw_some a) (num_Draw_some b) hd hn⟩
end Go.Proofs.Ytbckkllhobcgjaa.Pure
