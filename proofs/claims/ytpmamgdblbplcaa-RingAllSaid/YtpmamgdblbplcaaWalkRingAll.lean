/- RingAll: the walk. -/
import Derived.Test.YtpmamgdblbplcaaWalkRingAllB
import Derived.Test.YtpmamgdblbplcaaWalkRingAllC
namespace Go.Proofs.Ytpmamgdblbplcaa.On
open Go.RowKit
theorem ringAll_walk (room : Int) (a : Option Addr) (len cap0 : Nat) (F : Nat → Nat → Int) (w : World) (wa : (Lit.int .i64 room).wf = true) (hz : IsRec 4 w a len cap0 F) :
    Calls Try.prog 14 #[.int .i64 room, .slice a len cap0] w fun e w' => e = .returned (.bool true) ∧ Below w.heap.size w w' := by
  by_cases h1 : room ≤ 0
  · exact ringAll_a room a len cap0 F w wa hz h1
  · by_cases h2 : room ≤ 1000
    · exact ringAll_b room a len cap0 F w wa hz (by omega) h2
    · exact ringAll_c room a len cap0 F w wa hz (by omega)
end Go.Proofs.Ytpmamgdblbplcaa.On
