/- The examples of chapter 1, as every statement of layer 1 asks them: true, by the kernel's own run. -/
import Derived.KernelRfl
import Derived.Test.YtbckkllhobcgjaaPx6
namespace Go.Proofs.Ytbckkllhobcgjaa.P
theorem awake_some : lodestarlaw01_awake.f 64 = some true := by kernel_rfl
end Go.Proofs.Ytbckkllhobcgjaa.P
