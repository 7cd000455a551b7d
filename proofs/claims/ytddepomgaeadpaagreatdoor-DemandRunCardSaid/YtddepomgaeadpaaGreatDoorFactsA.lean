/- Closed facts of the program, each by itself (together they take more memory than a process may have). -/
import Derived.Test.YtddepomgaeadpaaGreatDoorRows
import Derived.JoinedOf
import Derived.KernelRfl
namespace Go.Proofs.YtddepomgaeadpaaGreatDoor.Facts
set_option linter.unusedVariables false
theorem laidOut : laidOutB Tryz.pinned.checked.prog = true := by kernel_rfl
theorem maps : mapsRowed Tryz.pinned.checked.prog = true := by kernel_rfl
theorem heard : Tryz.pinned.checked.prog.stopsHeard = true := by kernel_rfl
theorem enter : Tryz.pinned.checked.prog.mayEnter = true := by kernel_rfl
theorem plainKeys : (Rows.busyAllRow.plainKeys == Tryz.pinned.checked.prog.plainKeys) = true := by kernel_rfl
end Go.Proofs.YtddepomgaeadpaaGreatDoor.Facts
