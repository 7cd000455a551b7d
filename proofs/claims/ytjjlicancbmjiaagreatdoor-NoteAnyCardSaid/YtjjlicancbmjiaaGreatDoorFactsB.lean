/- Closed facts of the program, each by itself (together they take more memory than a process may have). -/
import Derived.Test.YtjjlicancbmjiaaGreatDoorRows
import Derived.JoinedOf
import Derived.KernelRfl
import Derived.SevenTiedAt
namespace Go.Proofs.YtjjlicancbmjiaaGreatDoor.Facts
set_option linter.unusedVariables false
theorem mainIs : Tryz.pinned.checked.prog.mainIs = some (true, "94fc2c4dbd37983a9d658cb90746bf400cbf89e5d760bfac9aa64c75ede9194e".toList) := by kernel_rfl
theorem looks : true = Tryz.pinned.checked.prog.looks [] := by kernel_rfl
theorem lifted : (Rows.ruleAllRow.lifted == Tryz.pinned.checked.prog.liftsFinal) = true := by kernel_rfl
end Go.Proofs.YtjjlicancbmjiaaGreatDoor.Facts
