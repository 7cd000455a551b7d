/- Closed facts of the program, each by itself (together they take more memory than a process may have). -/
import Derived.Test.YtddepomgaeadpaaGreatDoorRows
import Derived.JoinedOf
import Derived.KernelRfl
import Derived.SevenTiedAt
namespace Go.Proofs.YtddepomgaeadpaaGreatDoor.Facts
set_option linter.unusedVariables false
theorem mainIs : Tryz.pinned.checked.prog.mainIs = some (true, "5593ad2a5a772f8be195e0fe692033ff87e224b9e1f3bacf87f13d01f91435b9".toList) := by kernel_rfl
theorem looks : true = Tryz.pinned.checked.prog.looks [] := by kernel_rfl
theorem lifted : (Rows.busyAllRow.lifted == Tryz.pinned.checked.prog.liftsFinal) = true := by kernel_rfl
end Go.Proofs.YtddepomgaeadpaaGreatDoor.Facts
