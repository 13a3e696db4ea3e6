/- The example calls that every statement of this layer requires answer as the chapter says. -/
import Derived.Test.YtafkjallmbokaaaQx6
import Derived.KernelRfl
namespace Go.Proofs.Ytafkjallmbokaaa.Q
open Go.RowKit Go.Proofs.YtafkjallmbokaaaW.PrintWords Go.Proofs.YtafkjallmbokaaaW.PrintLast Go.Proofs.YtafkjallmbokaaaW.PrintMore
theorem live_true : corebanklaw22_live.f 300 = some true := by kernel_rfl
end Go.Proofs.Ytafkjallmbokaaa.Q
