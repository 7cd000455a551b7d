/- Closed facts of the program, each by itself (together they take more memory than a process may have). -/
import Derived.Test.YtddepomgaeadpaaGreatDoorRows
import Derived.JoinedOf
import Derived.KernelRfl
import Derived.SevenTiedAt
namespace Go.Proofs.YtddepomgaeadpaaGreatDoor.Facts
set_option linter.unusedVariables false
theorem stand22 : Tryz.prog.wantsStandIn 22 = false := by kernel_rfl
theorem stand34 : Tryz.prog.wantsStandIn 34 = false := by kernel_rfl
end Go.Proofs.YtddepomgaeadpaaGreatDoor.Facts
