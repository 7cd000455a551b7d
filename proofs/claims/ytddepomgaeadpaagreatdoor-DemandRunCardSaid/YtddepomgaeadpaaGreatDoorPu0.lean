/- What the plain statements share. -/
import Derived.Test.YtddepomgaeadpaaGreatDoorCoreB
import Derived.Test.YtddepomgaeadpaaGreatDoorBridge
namespace Go.Proofs.YtddepomgaeadpaaGreatDoor.Pure
open Go.RowKit Go.Proofs.YtddepomgaeadpaaGreatDoorW.PrintWords Go.Proofs.YtddepomgaeadpaaGreatDoorW.PrintMore Go.Proofs.YtddepomgaeadpaaGreatDoor.LoadMath Go.Proofs.YtddepomgaeadpaaGreatDoor.PAll Go.Proofs.YtddepomgaeadpaaGreatDoor.On
set_option linter.unusedVariables false
abbrev K : Nat := 600000
theorem b9 : hortatorlaw9_begun.f K = some true := begun9_f (by decide)
theorem not_true {b : Bool} (h : ¬ b = true) : b = false := by simpa using h
theorem len10 (l : List S31) : (l.take 10).length ≤ 10 := by rw [List.length_take]; omega
end Go.Proofs.YtddepomgaeadpaaGreatDoor.Pure
