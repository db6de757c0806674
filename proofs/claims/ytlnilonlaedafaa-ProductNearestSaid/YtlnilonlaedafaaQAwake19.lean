/- The example of chapter 19, as every statement of layer 19 asks it: true, by the kernel's own run. -/
import Derived.KernelRfl
import Derived.Test.YtlnilonlaedafaaPx15
namespace Go.Proofs.Ytlnilonlaedafaa.P
open Go.RowKit Go.Proofs.YtlnilonlaedafaaW.PrintWords Go.Proofs.YtlnilonlaedafaaW.PrintLast
theorem awake19_some : lodestarlaw19_awake.f 64 = some true := by kernel_rfl
theorem awake19_ev : Ev (fun k => lodestarlaw19_awake.f k) true := Ev.of (fun k => lodestarlaw19_awake.mono k) awake19_some
end Go.Proofs.Ytlnilonlaedafaa.P
