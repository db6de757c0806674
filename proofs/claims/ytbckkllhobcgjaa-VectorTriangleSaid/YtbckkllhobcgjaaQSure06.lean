/- What must come whatever the input is (layer 6), by the kernel's own run; a twin of a list. -/
import Derived.KernelRfl
import Derived.Test.YtbckkllhobcgjaaPx36
import Derived.Test.YtbckkllhobcgjaaPx23
namespace Go.Proofs.Ytbckkllhobcgjaa.P
open Go.RowKit Go.Proofs.YtbckkllhobcgjaaW.PrintWords Go.Proofs.YtbckkllhobcgjaaW.PrintLast
theorem sure06_some : lodestarlaw06_sure.f 100 = some true := by kernel_rfl
theorem sure06_at (k : Nat) (hk : 100 ≤ k) : lodestarlaw06_sure.f k = some true := at_rounds (g := fun k => lodestarlaw06_sure.f k) (fun k => lodestarlaw06_sure.mono k) hk sure06_some
theorem twin06_some (l : List Int) (h : l.length < 17592186044416) : lodestarlaw06_twin.f l = some l := by
  unfold lodestarlaw06_twin.f
  rw [if_pos (by simpa using h)]; rfl
end Go.Proofs.Ytbckkllhobcgjaa.P
