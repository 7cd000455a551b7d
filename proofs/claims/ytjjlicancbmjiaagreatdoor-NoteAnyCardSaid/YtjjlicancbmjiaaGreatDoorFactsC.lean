/- Closed facts of the program, each by itself (together they take more memory than a process may have). -/
import Derived.Test.YtjjlicancbmjiaaGreatDoorRows
import Derived.JoinedOf
import Derived.KernelRfl
import Derived.SevenTiedAt
namespace Go.Proofs.YtjjlicancbmjiaaGreatDoor.Facts
set_option linter.unusedVariables false
theorem stand3 : Tryz.prog.wantsStandIn 3 = false := by kernel_rfl
theorem stand5 : Tryz.prog.wantsStandIn 5 = false := by kernel_rfl
theorem stand9 : Tryz.prog.wantsStandIn 9 = false := by kernel_rfl
theorem stand24 : Tryz.prog.wantsStandIn 24 = false := by kernel_rfl
theorem stand27 : Tryz.prog.wantsStandIn 27 = false := by kernel_rfl
end Go.Proofs.YtjjlicancbmjiaaGreatDoor.Facts
